/- Walks and laws. Conditions: as stated. -/
import Derived.Test.YtecpbcmpncgokaaGreatDisk4
import Derived.Shelf.SlIter.Nil
set_option maxRecDepth 99999
set_option maxHeartbeats 25600000
set_option linter.all false
open Go.IntKind renaming i64->be
open Go.Proofs.Tryz renaming prog->an
open Go.RowKit Go.Dol
namespace Go.Dol
structure OkD (D:Dk):Prop where
 ord:InOrder D.l
 cap0:0<=D.cap
 cap1:D.cap<=kaf
 room:ar D.l<=D.cap
 left0: -1<=D.left
 left1:D.left<=kal
 names: ∀f∈D.l,ab f.1=true
theorem BV {x} (a: -9223372036854775808<=x) (b:x<=9223372036854775807):be.wrap x=x:=qJ ⟨a,b⟩
theorem jk (x y):be.wrap (be.wrap x-y)=be.wrap (x-y):=z209
theorem OkD.free {D} (a:OkD D):frD D=D.cap-ar D.l:=by
 have b:=oe D.l;have c:=a.cap1;have d:=a.room;exact BV qO qO
theorem jg {D D' more} (a:D'.cap=D.cap) (b:ar D'.l=ar D.l+more):frD D'=be.wrap (frD D-more):=by
 unfold frD;rw [jk,a,b];congr 1;omega
theorem OkD.look {D} (c:OkD D) {n b} (d:aa D.l n=some b):16+(n.size:Int)+b.length<=D.cap:=by
 have a:=og d;have e:=oe (am D.l n);have f:=c.room;unfold dB at a;simp only at a;omega
theorem ip {l:List Fil} (d:InOrder l) (n:BA) (b:LU):ar (ag l n b)=ar l+(match aa l n with | none=>16+(n.size:Int)+b | some c=>(b:Int)-c):=by
 rw [sz];cases a:aa l n with
 | none=>
  rw [eK a];unfold dB;simp only;omega
 | some c=>
 have:=og a;unfold dB at this ⊢;simp only at this ⊢;omega
theorem oh {l n b} (a:aa l n=some b):ar (am l n)=ar l-(16+(n.size:Int)+b.length):=by
 have:=og a;unfold dB at this;simp only at this;omega
theorem jl {l} (a: ∀f∈l,ab f.1=true) {n} (c:ab n=true) (b): ∀f∈ag l n b,ab f.1=true:=by
 intro f d;rcases gc f d with e | g
 ·rw [e];exact c
 exact a f g
theorem kW {l} (a: ∀f∈l,ab f.1=true) (n): ∀f∈am l n,ab f.1=true:=fun f b=>a f (jn f b)
theorem OkD.spend {D} (a:OkD D) {l'} (b:InOrder l') (c:ar l'<=D.cap) (d: ∀f∈l',ab f.1=true):OkD (aW D l').2:=by
 have e:=a.left0;have g:=a.left1;unfold aW;split
 ·exact ⟨a.ord,a.cap0,a.cap1,a.room,by simp,by simp,a.names⟩
 refine ⟨b,a.cap0,a.cap1,c,?_,?_,d⟩<;>simp only<;>split<;>omega
theorem OkD.app {D} (a:OkD D) (n b):OkD (aF D n b).2:=by
 unfold aF;split
 ·exact a
 rename_i f;split
 ·exact a
 unfold cy;split
 ·exact a
 rename_i c;have g:ab n=true:=by
  cases h:ab n with
  | true=>rfl
  | false=>exact absurd (.inr h) f
 refine a.spend (ef a.ord) ?_ (jl a.names g _);rw [a.free] at c;have d:=ip a.ord n ((aa D.l n).getD []++b);have i:=a.room;unfold cJ at c;cases e:aa D.l n with
 | none=>
  rw [e] at d c;simp only [O9,List.nil_append] at d c ⊢;rw [d];omega
 | some j=>
 rw [e] at d c;simp only [NH,b7] at d c ⊢;rw [d];omega
theorem OkD.rem {D} (a:OkD D) (n):OkD (aB D n).2:=by
 unfold aB;split
 ·exact a
 refine a.spend (dj a.ord) ?_ (kW a.names n);have c:=a.room;cases b:aa D.l n with
 | none=>rw [eK b];exact c
 | some d=>have:=oh b;omega
theorem OkD.sync {D} (a:OkD D) (n):OkD (bd D n).2:=by
 unfold bd;split
 ·exact a
 exact a.spend a.ord a.room a.names
theorem iq {D n} (a:bK D n=0):ab n=true/\D.dark=false/\ ∃b,aa D.l n=some b:=by
 unfold bK at a;cases c:ab n with
 | false=>rw [if_pos c] at a;cases a
 | true=>
 cases d:D.dark with
 | true=>rw [if_neg (by rw [c];decide),if_pos d] at a;cases a
 | false=>
 rw [if_neg (by rw [c];decide),if_neg (by rw [d];decide)] at a;cases e:aa D.l n with
 | none=>rw [e] at a;cases a
 | some b=>exact ⟨rfl,rfl,b,rfl⟩
def fe (D:Dk) (a b:BA):Int:=if a=b then 0 else (b.size:Int)-a.size-(match aa D.l b with | none=>0 | some c=>16+(b.size:Int)+c)
theorem sG {D} (e:InOrder D.l) {a b c} (ha:aa D.l a=some c):ar (ag (am D.l a) b c)=ar D.l+fe D a b:=by
 have f:=ip (dj (n:=a) e) b c;have g:=oh ha;rw [f,g,eH e];unfold fe;by_cases d:a=b
 ·subst d;rw [if_pos rfl,if_pos rfl];simp only;omega
 rw [if_neg (fun h=>d h.symm),if_neg d];cases aa D.l b with
 | none=>simp only;omega
 | some i=>simp only;omega
theorem sH {D a b c} (ha:aa D.l a=some c) (d:ab b=true) (f:ab a=true):
  (0<fe D a b/\frD D<fe D a b)↔(0<fC D a b/\frD D<fC D a b):=by
 have g:b.size<=200:=by
  unfold ab at d;simp only [m8,decide_eq_true_eq] at d;exact d.1.2
 unfold fe fC;by_cases e:a=b
 ·subst e;rw [if_pos rfl,ha]
 rw [if_neg e];cases h:aa D.l b with
 | none=>simp only;omega
 | some i=>simp only;omega
theorem OkD.ren {D} (c:OkD D) (a b):OkD (bx D a b).2:=by
 unfold bx;split
 ·exact c
 rename_i f;split
 ·exact c
 rename_i g;obtain ⟨h,_,k,d⟩:=iq (Ol.1 g);have e:ab b=true:=by
  cases i:ab b with
  | true=>rfl
  | false=>exact absurd (.inr i) f
 unfold cy;split
 ·exact c
 rename_i j;rw [d,NH];refine c.spend (ef (dj c.ord)) ?_ (jl (kW c.names a) e _);rw [<-sH d e h,c.free] at j;have:=sG c.ord (b:=b) d;have l:=c.room;omega
structure OkG (L B:Nat) (D:Dk):Prop where
 ord:InOrder D.l
 cap0:0<=D.cap
 cap1:D.cap<=kaf
 left0: -1<=D.left
 left1:D.left<=kal
 names: ∀f∈D.l,ab f.1=true
 len:D.l<=L
 bytes: ∀f∈D.l,f.2.length<=B
abbrev OkW (D:Dk):Prop:=OkG kac kam D
theorem OkW.small {D} (a:OkW D) {n b} (c:aa D.l n=some b):b.length<=140737488355264:=a.bytes _ ((bz a.ord).1 c)
theorem OkW.small' {D} (a:OkW D) {n b} (c:aa D.l n=some b):b.length<=140737488355328:=by have:=a.small c;omega
theorem OkW.named {D} (a:OkW D) {n b} (c:aa D.l n=some b):ab n=true:=a.names _ ((bz a.ord).1 c)
theorem OkD.toW {D} (a:OkD D):OkW D:=by
 have d: ∀b:List Fil,16*(b.length:Int)<=ar b:=by
  intro b;induction b with
  | nil=>show (16*0:Int)<=0;omega
  | cons c f g=>have:=kX c;simp only [ar,List.length_cons];omega
 have h:=d D.l;have i:=a.room;have j:=a.cap1;refine ⟨a.ord,a.cap0,a.cap1,a.left0,a.left1,a.names,qO,fun c e=> ?_⟩;have k:=a.look ((bz a.ord).2 (by exact e):aa D.l c.1=some c.2);omega
instance {D:Dk}:Coe (OkD D) (OkW D):=⟨OkD.toW⟩
end Go.Dol
namespace Go.Proofs.YtecpbcmpncgokaaGreat
section
variable {w w':World} {g m:Nat} {D:Dk}
theorem Dsk.own (e:Dsk w g m D) {base T size v n xs} (a:w.ownsRow base T size v n xs) (f:145≠T) (h:T≠5) (b:w.grownBy w' v.ownBlock):Dsk w' g m D:=by
 obtain ⟨i,c,d,j⟩:=e;exact ⟨i,c.grown b (own_ne a c f).symm,d.grown b (d.own_ne a).symm,j.keep b (K9 a h (zL))⟩
theorem oc (h:Dsk w g m D) (hO:InOrder D.l) (base Ao os no co) (u:no=os.length) (A:os.length<=4) (n) (i:w.ownsRow base 9 1 (.slice Ao no co) no (sc os)) (j:base<=w) (v:n.size<=maxLen):
  Calls an 103 #[.pointer (some g),.string n,.slice Ao no co] w fun e w'=>e= .returned (.int .i64 (thD D os n))/\Below base w w'/\Dsk w' g m D:=by
 subst u;obtain ⟨b,a⟩:=gX (thD D os n);rw [<-a];have c:Below base w (w.alloc (.cells #[n] 9)):=(bR _ _).alloc j _;have d:=i.alloc (.cells #[n] 9);have k:=h.below ((bR _ _).alloc (lR _) (.cells #[n] 9));have o:=NX w 9 (.string n);have B:=c.size;have x:base<=(w.alloc (.cells #[n] 9)).heap.size:=qO;go_in;go_wp2_with (at_builtin;refine eF rfl (.tmp 11) (.tmp 13) 38 9 _ 16 rfl q9 BK rfl base _ os.length (sc os) rfl d _ _ 1 1 [.string n] rfl o (by intro C y;obtain rfl:=i7.1 y;rfl) (by unfold maxLen;omega) (by omega) x ?_);intro A2 c2 w2 z q r E F;have hD2:=k.own d (by decide) (by decide) r;have hr2:=d8 z;have s:sc os++[.string n]=sc (os++[n]):=by simp [sc]
 rw [s] at hr2;have HL:Hid (os+1=(os++[n]).length):=qI (by simp);have hb02:=c.trans q;obtain ⟨G,H,I,J,K,L⟩:=hD2.cells;obtain ⟨t,HR⟩:=gH (rdD D (os++[n]));clear s o d k c i j q r;by_cases hr0:t=0
 ·have HT:Hid (b=if (aa D.l n).isSome=true then 0 else 3):=by
   unfold Hid thD at*;rw [a,<-HR,hr0];simp
  clear a;rcases hD2.find hO n v with ⟨f,hf,_⟩ | ⟨M,N,O,f,P,Q,R,hf,_⟩
  ·have HT2:Hid (b=3):=by unfold Hid at *; rw [HT,f];rfl
   exact z290
  have HT2:Hid (b=0):=by unfold Hid at *; rw [HT,f];rfl
  exact z290
 have HT:Hid (b=t):=by
  unfold Hid thD at*;rw [a,<-HR,if_pos hr0]
 have S:=beq_eq_false_iff_ne.2 hr0;clear a hr0;go_wp2_with ((go_at_call 107;refine (oa hD2 _ A2 (os++[n]) _ c2 HL.out hr2 (by simp;omega)).mono ?_;rw [<-HR];rintro e w' ⟨rfl,rfl⟩));go_ret;rw [HT];exact ⟨rfl,hb02,hD2⟩
def sy (w:World) (r:LU×Int) (d:Ending) (w':World):Prop:=
 ∃(a:LU) (b:OA) (c:Nat),Hid (a=r.1)/\d= .returned (.tuple #[.slice b a c,.int .i64 r.2])/\w'.ownsRow w 5 1 (.slice b a c) a (bc a)/\Below w w w'
theorem jj (h:Dsk w g m D) (hO:InOrder D.l) (n) (d: ∀b,aa D.l n=some b->b.length<=140737488355328):
  Calls an 40 #[.pointer (some g),.string n] w (sy w (aU D n)):=by
 have hb1:=bAl w (.cells #[n] 9);have f:=h.below hb1;obtain ⟨u,v,x,y,z,B⟩:=f.cells;have hr1:Rd (w.alloc (.cells #[n] 9)) (w+1) 1 (some ⟨w,0,none⟩) [n].length (sc [n]):=NX w 9 (.string n);cases a:ab n with
 | false=>
  have HF:Hid (aU D n=([],1)):=by unfold Hid aU;rw [if_pos a]
  have HB:Hid ([n].all ab=false):=by unfold Hid;simp [a]
  clear a d;exact z244
 | true=>
 have C:=dN a;have HB:Hid ([n].all ab=true):=by unfold Hid;simp [a]
 rcases f.find hO n (by unfold maxLen;omega) with ⟨hl,hf,_⟩ | ⟨b,A,c,hl,hF,hc,hcm,hf,_⟩
 ·have HF:Hid (aU D n=([],3)):=by unfold Hid aU;rw [if_neg (by rw [a];decide),hl]
  have i:=hf (w.alloc (.cells #[n] 9)) rfl;clear hf a d;exact z244
 have HF:Hid (aU D n=(b,0)):=by unfold Hid aU;rw [if_neg (by rw [a];decide),hl]
 have j:=d b hl.out;have i:=hf (w.alloc (.cells #[n] 9)) rfl;clear hf a d;go_in;go_wp2_with (first
  | (go_at_call 88;refine (fd h).mono ?_;rintro e w' ⟨rfl,rfl⟩)
  | (go_at_call 101;refine (kS _ _ [n] 1 _ hr1 (by simp)).mono ?_;rw [HB];rintro e w' ⟨rfl,rfl⟩)
  | (go_at_call 93;refine (nV _ A b b c rfl _ hF.1 j).mono ?_;rintro e E ⟨k,o,q,r,rfl,s,t,_,_⟩))
 go_ret2;rw [HF];exact ⟨k,o,q,r,rfl,s.base (by simp),hb1.trans (t.mono (by simp))⟩
def gO (cap:Int):Dk:=⟨cap,[],0,-1,false⟩
theorem sl (cap w) (f:0<=cap) (h:cap<=1099511627776):
  Calls an 38 #[.int .i64 cap] w fun c w'=> ∃g m,c= .returned (.tuple #[.pointer (some ⟨g,0,none⟩),i0])/\Dsk w' g m (gO cap)/\w.heap.size<=g/\w.heap.size<=m/\Below w.heap.size w w':=by
 have i:=dfX (cap<0);have j:=dfX (cap>kaf);have l:=@run_makeMap an;go_in;go_wp2_with fail;go_ret2;have d:Below w w (w.alloc (.map #[] 0)):=(bR _ _).alloc (lR _) _;have e:=Pn (P:=an) (k:=9) w;have b:frD (gO cap)=cap:=by
  show be.wrap (cap-0)=cap;rw [Int.sub_zero];exact qJ qO
 have a:=o9 (w.alloc (.map #[] 0)) 145 (io cap w (frD (gO cap)) 0 (-1) false);rw [b] at a;rw [u7] at a;refine ⟨w+1,w,rfl,⟨[],?_,e.alloc _,Fls.nil _⟩,PA _,lR _,d.alloc (by simp) _⟩;rw [b];exact a
theorem By (cap w) (h:cap<0\/1099511627776<cap):
  Calls an 38 #[.int .i64 cap] w fun a w'=>a= .returned (.tuple #[.pointer none,.int .i64 1])/\w'=w:=by
 rcases h with h | h
 ·go_in;exact z127
 have b:=dfX (cap<0);go_in;exact z127
def da (w:World) (g m:Nat) (r:Int×Dk) (a:Ending) (w':World):Prop:=a= .returned (.int .i64 r.1)/\Dsk w' g m r.2/\Tw w w' g m
theorem Dsk.turn (e:Dsk w g m D) {D'} (f:D'.l=D.l) (h:Blk w' g 145 (io D'.cap m (frD D') D'.done D'.left D'.dark)) (b:w.grownBy w' (some g)):Dsk w' g m D':=by
 obtain ⟨i,c,d,j⟩:=e;refine ⟨i,h,d.grown b (fun a=> ?_),?_⟩
 ·injection a with a;exact d.blk_ne c a.symm
 rw [f];exact j.keep b (v8 c (by decide) (zL))
theorem BS (h:Dsk w g m D) (k):Calls an 25 #[.pointer (some g),.int .i64 k] w (da w g m (dm D k)):=by
 obtain ⟨i,j,l,n,o,b⟩:=h.cells;have q:=h.free 4;by_cases hk:k<0
 ·have d:=dT hk;have HF:Hid (dm D k=(1,D)):=if_pos hk;exact z100
 have d:=qF hk;cases a:D.dark with
 | true=>
  have HF:Hid (dm D k=(0,D)):=by unfold Hid dm;rw [if_neg hk,if_pos a]
  rw [a] at b;exact z100
 | false=>
 have HF:Hid (dm D k=(0,{ D with left:=k })):=by unfold Hid dm;rw [if_neg hk,if_neg (by rw [a];decide)]
 rw [a] at b;clear hk;go_in;go_wp2_with (go_at_call 88;refine (fd h).mono ?_;rintro e w' ⟨rfl,hw⟩;obtain rfl:=hw.symm);go_ret;rw [HF];have c:w.grownBy (w.setCell ⟨g,4,none⟩ (.int .i64 k)) (some g):=ae (gR w _) 4 _;obtain ⟨r,f,_⟩:=id h;exact ⟨rfl,h.turn (D':={ D with left:=k }) rfl (f.set 4 _) c,OP c⟩
theorem BU (h:Dsk w g m D):Calls an 27 #[.pointer (some g)] w fun a w'=>a= .returned (.tuple #[])/\Dsk w' g m (onD D)/\Tw w w' g m:=by
 obtain ⟨e,f,i,j,k,l⟩:=h.cells;have n:=h.free 4;have z5:=h.free 5;go_in;go_wp2_with (go_at_call 88;refine (fd h).mono ?_;rintro a w' ⟨rfl,c⟩;obtain rfl:=c.symm);go_end0;have b:w.grownBy ((w.setCell ⟨g,5,none⟩ (.bool false)).setCell ⟨g,4,none⟩ (.int .i64 (-1))) (some g):=ae (ae (gR w _) 5 _) 4 _;obtain ⟨o,d,_⟩:=id h;exact ⟨rfl,h.turn (D':=onD D) rfl ((d.set 5 _).set 4 _) b,OP b⟩
end
structure FilA where
 n:BA
 b:LU
 A:OA
 c:Nat
def FilA.f (x:FilA):Fil:=(x.n,x.b)
def FilA.cells (x:FilA):List Value:=[.string x.n,.slice x.A x.b x.c]
def fc (l:List FilA):List Value:=l.flatMap FilA.cells
theorem ir (l):(fc l).length=l.length*2:=by
 induction l with
 | nil=>rfl
 | cons a b c=>
 show (a.cells++fc b).length=_;rw [b7,c,List.length_cons];show 2+_=_;omega
theorem iS (a b):fc (a++b)=fc a++fc b:=by simp [fc]
theorem iT (l): ∀u∈fc l,u.oneCell'=true:=by
 intro u b;obtain ⟨c,_,a⟩:=I7.1 b;rcases i8.1 a with rfl | a
 ·rfl
 obtain rfl:=i7.1 a;rfl
theorem di {l k x} (d:l[k]?=some x):(fc l)[k*2]?=some (.string x.n)/\(fc l)[k*2+1]?=some (.slice x.A x.b.length x.c):=by
 induction l generalizing k with
 | nil=>cases d
 | cons a r e=>
 cases k with
 | zero=>
  have:a=x:=by simpa using d
  subst this;exact ⟨rfl,rfl⟩
 | succ k=>
 have f:r[k]?=some x:=by simpa using d
 have g:(fc (a::r))[(k+1)*2]?=(fc r)[k*2]?:=by
  show (a.cells++fc r)[_]?=_;rw [G7 (by show 2<=_;omega)];congr 1;show (k+1)*2-2=_;omega
 have h:(fc (a::r))[(k+1)*2+1]?=(fc r)[k*2+1]?:=by
  show (a.cells++fc r)[_]?=_;rw [G7 (by show 2<=_;omega)];congr 1;show (k+1)*2+1-2=_;omega
 rw [g,h];exact e f
theorem Cr (l k):(fc l).take (k*2)=fc (l.take k):=by
 induction l generalizing k with
 | nil=>simp [fc]
 | cons a b c=>
 cases k with
 | zero=>simp [fc]
 | succ k=>
 rw [Nz];show (a.cells++fc b).take _=a.cells++fc (b.take k);rw [List.take_append,<-c];congr 1
 ·exact i9 (by show 2<=_;omega)
 congr 1;show (k+1)*2-2=_;omega
theorem om (l k):(fc l).drop (k*2)=fc (l.drop k):=by
 induction l generalizing k with
 | nil=>simp [fc]
 | cons a b c=>
 cases k with
 | zero=>simp
 | succ k=>
 rw [Oa,<-c];show (a.cells++fc b).drop _=_;rw [List.drop_append];rw [p9 (by show 2<=_;omega),List.nil_append];congr 1;show (k+1)*2-2=_;omega
theorem Rd.fileT (w:World) (T x):Rd (w.alloc (.cells #[.string x.n,.slice x.A x.b.length x.c] T)) (w+1) 2 (some ⟨w,0,none⟩) 1 (fc [x]):=by
 have d:=o9 w T x.cells;refine ⟨rfl,fun _=>⟨w,0,rfl,qO,fun e g a=> ?_⟩⟩;rw [x9];have f:fc [x]=x.cells:=by simp [fc]
 rw [f] at a;exact (d.cell e).trans a
def Fls8 (w:World) (B:Nat) (l:List FilA):Prop:=∀ a∈l,Far w B a.A a.b/\a.b.length<=a.c/\a.c<=maxLen
theorem Fls8.below {w w' B l} (a:Fls8 w B l) (c:Below w.heap.size w w'):Fls8 w' B l:=fun x b=>⟨(a x b).1.below c,(a x b).2⟩
theorem Fls8.keep {w w' B l} (a:Fls8 w B l) {row} (c:w.grownBy w' row) (d:Other w B row):Fls8 w' B l:=fun x b=>⟨(a x b).1.keep c d,(a x b).2⟩
theorem Far.more {w B B' A l} (a:Far w B A l) (f:B<=B'):Far w B' A l:=⟨a.1,fun c d e=>by
 rcases a.2 c d e with b | b
 ·exact .inl qO
 ·exact .inr b⟩
theorem Fls8.more {w B B' l} (a:Fls8 w B l) (c:B<=B'):Fls8 w B' l:=fun x b=>⟨(a x b).1.more c,(a x b).2⟩
end Go.Proofs.YtecpbcmpncgokaaGreat
namespace Go.Dol
def aQ:List Fil->List Fil->Option (List Fil)
 | acc,[]=>some acc
 | acc,f::r=>if ab f.1=false\/(aa acc f.1).isSome=true then none else aQ (ag acc f.1 f.2) r
theorem kT {acc l r} (a:aQ acc l=none):aQ acc (l++r)=none:=by
 induction l generalizing acc with
 | nil=>cases a
 | cons b c d=>
 unfold aQ at a;show (if ab b.1=false\/(aa acc b.1).isSome=true then none else aQ (ag acc b.1 b.2) (c++r))=none;split at a
 ·rw [if_pos (by assumption)]
 rw [if_neg (by assumption)];exact d a
theorem sr {acc l m} (a:aQ acc l=some m) (f):aQ acc (l++[f])=if ab f.1=false\/(aa m f.1).isSome=true then none else some (ag m f.1 f.2):=by
 induction l generalizing acc with
 | nil=>
  have:acc=m:=by simpa [aQ] using a
  subst this;rfl
 | cons b c d=>
 unfold aQ at a;show (if ab b.1=false\/(aa acc b.1).isSome=true then none else aQ (ag acc b.1 b.2) (c++[f]))=_;split at a
 ·cases a
 rw [if_neg (by assumption)];exact d a
theorem so {acc l m} (a:aQ acc l=some m) (b:InOrder acc):InOrder m:=by
 induction l generalizing acc with
 | nil=>
  have:acc=m:=by simpa [aQ] using a
  subst this;exact b
 | cons d e c=>
 unfold aQ at a;split at a
 ·cases a
 exact c a (ef b)
theorem Cs {acc l m} (a:aQ acc l=some m) (b: ∀f∈acc,ab f.1=true): ∀f∈m,ab f.1=true:=by
 induction l generalizing acc with
 | nil=>
  have:acc=m:=by simpa [aQ] using a
  subst this;exact b
 | cons c h d=>
 unfold aQ at a;split at a
 ·cases a
 rename_i e;refine d a (jl b ?_ _);cases g:ab c.1 with
 | true=>rfl
 | false=>exact absurd (.inl g) e
theorem Ct (l):16*(l.length:Int)<=ar l:=by
 induction l with
 | nil=>exact Int.le_refl _
 | cons a b c=>
 have:=kX a;simp only [ar,List.length_cons];omega
def cE (cap:Int) (l:List Fil):Option Dk×Int:=
 if cap<0\/kaf<cap then (none,1) else match aQ [] l with
  | none=>(none,1)
  | some a=>if frD ⟨cap,a,0,-1,false⟩<0 then (none,4) else (some ⟨cap,a,0,-1,false⟩,0)
structure OkL (D:Dk):Prop where
 ord:InOrder D.l
 cap0:0<=D.cap
 cap1:D.cap<=kaf
 names: ∀f∈D.l,ab f.1=true
 len:D.l.length<=kac
 small: ∀f∈D.l,f.2.length<=140737488355328
theorem OkW.toL {D} (a:OkW D):OkL D:=⟨a.ord,a.cap0,a.cap1,a.names,a.len,fun b c=>by have:=a.bytes b c;omega⟩
end Go.Dol
namespace Go.Dol
open Go.RowKit Go.MapKept Go.Maps
open Go.WideElems (Fit rd rg)
theorem MapL.owns {P k w B al} (u:P.underlying k=some .string) (v:MapL P k w B al) (j:al<=maxLen):
  ∃i:DataW Unit,w.ownsMap P k (fun _=>some (.nil,[])) B al i/\Maps.size i=al/\ ∀ns:List BA,al.map Prod.fst=ns.map Value.string->(strKeys i).Perm (ns.map fun n=>n.data.toList):=by
 obtain ⟨a,x,y,z,l,m⟩:=v;have o:a.toList.length=al:=by rw [<-m,g7]
 have M:a.size=al:=by rw [<-o,v7]
 have p:=WideShapes.sorted_perm (H:=Unit) (a.toList.map (rg P k fun _=>some (.nil,[])));refine ⟨_,⟨a,x,y,⟨qO,z,fun e h=> ?_⟩,qO,rfl⟩,?_,fun ns A=> ?_⟩
 ·obtain ⟨b,j⟩:=l e h;exact ⟨(b,.nil),by simp [rd,j]⟩
 ·rw [size_eq,p.length_eq,g7,o]
 show (((a.toList.map (rg P k fun _=>some (.nil,[]))).foldr DataW.insert []).map fun f=>strOf f.1).Perm _;refine (p.map _).trans ?_;rw [w9];have g:a.toList.map ((fun f=>strOf f.1)∘rg P k fun _=>some ((.nil:DataW Unit),[]))=ns.map fun n=>n.data.toList:=by
  have C:a.toList.map (fun g=>g.key)=ns.map Value.string:=by
   rw [<-A,<-m,w9];rfl
  have D: ∀(b:List MapEntry) (c:List BA),(∀e∈b,∃q,keyOf P k e.key=some q)->b.map (fun g=>g.key)=c.map Value.string->b.map ((fun f=>strOf f.1)∘rg P k fun _=>some ((.nil:DataW Unit),[]))=c.map fun n=>n.data.toList:=by
   intro b;induction b with
   | nil=>
    intro c _ d;cases c with
    | nil=>rfl
    | cons r s=>cases d
   | cons e N E=>
   intro c h d;cases c with
   | nil=>cases d
   | cons r s=>
   simp only [List.map_cons,List.cons.injEq] at d ⊢;refine ⟨?_,E s (fun F G=>h F (k8 _ G)) d.2⟩;obtain ⟨q,t⟩:=h e (j8 ..);obtain ⟨I,J,K,_⟩:=Maps.keyOf_str u t;have L:r=⟨I.toArray⟩:=by
    have:=d.1.symm.trans J;injection this
   simp only [Function.comp,rg,rd,t,K,Option.bind_some,PH,NH,strOf];rw [L]
  exact D _ _ l C
 rw [g]
end Go.Dol
namespace Go.Proofs.YtecpbcmpncgokaaGreat
theorem Cu {x y:BA} (a:x.toList=y.toList):x=y:=by
 rw [t8,t8] at a;exact WideShapes.bytes_inj a
def Cv (P:Prop) (w:World) (b:Ending) (w':World):Prop:=∃ (a:Bool) (c:Nat),b= .returned a/\(a=true↔P)/\w'=w.drewN c
def Cw (a b:List FilA) (w:World) (i:Value) (wr:World):Prop:=
 ∃(c e:Nat),i= .int .i64 c/\c<=a/\Hid (∀d,d<c->(a.map FilA.f)[d]?=(b.map FilA.f)[d]?)/\Hid (wr=w.drewN e)
theorem Cx (A a c A2 b c2 w B B2 F F2) (S:Rd w B 2 A a.length (fc a)) (T:Rd w B2 2 A2 b.length (fc b)) (U:Fls8 w F a) (V:Fls8 w F2 b) (ha:a.length<=3518437208883) (q0:b.length<=3518437208883):
  Calls an 32 #[.slice A a c,.slice A2 b c2] w (Cv (a.map FilA.f=b.map FilA.f) w):=by
 by_cases r:a.length=b
 ·have W:((a:Int)!=b)=false:=by simp;omega
  have X:=qI r;have r0:a.length<=b:=qO;clear r;go_in;go_wp2_with fail;go_loopw [5] (fun i wr=>Cw a b w i wr) (fun i _=>a-(intOf i).toNat)
  case atStart=>exact ⟨0,0,rfl,zL,fun d t=>by omega,rfl⟩
  case round=>
   obtain ⟨k,q,rfl,s0,H,hwr⟩:=hrel;have Y:Rd wr B 2 A a (fc a):=by rw [hwr];exact S.drewN q
   have Z:Rd wr B2 2 A2 b (fc b):=by rw [hwr];exact T.drewN q
   have t0:=qiJ (k+1);by_cases o:k<a
   ·have a0:=dtX ((k:Int)<a);have b0:=ltI k a.length;have u0:=ltI k b.length;have v0:=zeI k;have c0:k<b:=qO;obtain ⟨d0,e0,rfl,w0,u⟩:=Y.at_ qO;obtain ⟨f0,g0,rfl,x0,v⟩:=Z.at_ qO;have j:=gE o;have l:=gE c0;obtain ⟨x,I⟩:=gX (a[k]);obtain ⟨y,J⟩:=gX (b[k]);rw [<-I] at j;rw [<-J] at l;have h0:=u _ _ (di j).1;have i0:wr.cell? ⟨d0,e0+k*2+1,none⟩=_:=u _ _ (di j).2;have j0:=v _ _ (di l).1;have k0:wr.cell? ⟨f0,g0+k*2+1,none⟩=_:=v _ _ (di l).2;have z:=(U x (g8 j)).1;have C:=(V y (g8 l)).1;have K:(a.map FilA.f)[k]?=some x.f:=by rw [m7,j];rfl
    have L:(b.map FilA.f)[k]?=some y.f:=by rw [m7,l];rfl
    obtain ⟨M,m,N,l0⟩:=x;obtain ⟨O,n,P,m0⟩:=y;simp only at h0 i0 j0 k0 z C;have D:Hid ((a.map FilA.f)[k]?=some (M,m)):=K;have E:Hid ((b.map FilA.f)[k]?=some (O,n)):=L;have y0: ∀d:Nat,(convert 36 9 (.slice N m l0)).run an (wr.drewN d)= .ok (.string ⟨m.toArray⟩) (wr.drewN d):=fun d=>by
     have o:Rd (wr.drewN d) w 1 N m (bc m):=by rw [hwr,o8];exact z.1.drewN _
     exact bA o
    have z0: ∀d:Nat,(convert 36 9 (.slice P n m0)).run an (wr.drewN d)= .ok (.string ⟨n.toArray⟩) (wr.drewN d):=fun d=>by
     have o:Rd (wr.drewN d) w 1 P n (bc n):=by rw [hwr,o8];exact C.1.drewN _
     exact bA o
    clear I J j l u v K L z C;by_cases G:M=O
    ·subst G;by_cases s:m=n
     ·subst s;have HS:Hid (∀d,d<k+1->(a.map FilA.f)[d]?=(b.map FilA.f)[d]?):=fun d t=>by
       by_cases n0:d=k
       ·rw [n0,D,E]
       exact H.out d qO
      exact z23
     have HN:Hid (¬a.map FilA.f=b.map FilA.f):=fun g=>by
      have e:=E.out;rw [<-g,D] at e;injection e with e;injection e with Q R;exact s R
     have o0:=beq_eq_false_iff_ne.2 s;exact z22
    have HN:Hid (¬a.map FilA.f=b.map FilA.f):=fun g=>by
     have e:=E.out;rw [<-g,D] at e;injection e with e;injection e with Q R;exact G Q
    have o0:=beq_eq_false_iff_ne.2 fun g=>G (Cu g);exact z22
   have a0:=dfX ((k:Int)<a);have b0: ¬(k:Int)<a:=qO;have p0:Hid (a.map FilA.f=b.map FilA.f):=N8 fun d=>by
    rcases D8 d a.length with t | t
    ·exact H.out d qO
    have s:=X.out;rw [C8 (by rw [g7];omega),C8 (by rw [g7];omega)]
   go_wp2_with fail;go_ret;exact ⟨true,q,rfl,by simp [p0.out],hwr.out⟩
 have W:((a:Int)!=b)=true:=by simp;omega
 have HN:Hid (¬a.map FilA.f=b.map FilA.f):=fun g=>r (by have:=congrArg List.length g;simpa using this);clear r;go_in;go_wp2_with fail;go_ret;exact ⟨false,0,rfl,by simp [HN.out],rfl⟩
theorem MZ:(an.info? 110).map (fun i=>(i.zero,i.size,i.bytes))=some (some (.agg #[eS,eL]),2,40):=qkR
def Na (w:World) (c:List FilA) (d:Ending) (w':World):Prop:=
 ∃(ys:List FilA) (a:OA) (b:Nat),Hid (ys=c)/\d= .returned (.slice a ys b)/\w'.ownsRow w 110 2 (.slice a ys b) ys (fc ys)/\Below w w w'
def Nb (b:List FilA) (w:World) (q i:Value) (wr:World):Prop:=
 ∃(a:Nat) (ys:List FilA) (c:OA) (d:Nat),q= .slice c ys d/\i= .int .i64 a/\a<=b/\Hid (ys=b.take a)/\ys=a/\wr.ownsRow w 110 2 (.slice c ys d) ys (fc ys)/\Below w w wr
theorem LX (A fs c w) (s:Rd w w.heap.size 2 A fs.length (fc fs)) (Q:fs.length<=kac):
  Calls an 33 #[.slice A fs c] w (Na w fs):=by
 go_in;go_wp2_with fail;go_loopw [3,4] (fun q i wr=>Nb fs w q i wr) (fun _ i _=>fs-(intOf i).toNat)
 case atStart=>exact ⟨0,[],none,0,rfl,rfl,zL,rfl,rfl,j9 _ _ _ _,bR _ _⟩
 case round=>
  obtain ⟨a,ys,C,D,rfl,rfl,R,t,u,v,e⟩:=hrel;have E:=e.size;by_cases F:a<fs
  ·have G:=dtX ((a:Int)<fs);have S:=ltI a fs.length;have T:=zeI a;obtain ⟨b,f⟩: ∃b,fs[a]?=some b:=⟨fs[a],gE F⟩;have x:fs.take (a+1)=fs.take a++[b]:=by rw [t7,f];rfl
   have y:=s.belowW e (lR _);obtain ⟨d,g,rfl,H,n⟩:=y.at_ qO;have I:wr.cell? ⟨d,g+a*2,none⟩=_:=n _ _ (di f).1;have J:wr.cell? ⟨d,g+a*2+1,none⟩=_:=n _ _ (di f).2;have z2:=bAl wr (.cells b.cells.toArray 110);have z:=(Rd.fileT wr 110 b).drew;have K:=iT [b];have U:=qiJ (a+1);have V:ys.length<=kac:=qO;obtain ⟨j,k,l,m⟩:=b;simp only at I J z;have L:=qI x;have M:=qI u;clear f n y x s u;go_wp2_with fail;go_region_held3 (fun o=>o.cell? ⟨d,g+a*2,none⟩=some (.string j)/\o.cell? ⟨d,g+a*2+1,none⟩=some (.slice l k m)) (first | go_keep | (go_split_ands;refine ⟨?_,?_⟩<;>(rw [z2.cell (p:=⟨d,_,none⟩) H];assumption)))
    ((refine ft (by rfl) (.tmp 11) (.tmp 23) 22 110 _ 2 40 (by rfl) N7 MZ rfl (by decide) w _ ys (fc ys) (by rfl) (E7 (w:=World.drew wr) v _) (wr+1) _ 1 1 (fc [⟨j,k,l,m⟩]) (by rfl) z K (by unfold maxLen;omega) qO (by simp;omega) ?_;intro N O o P z2 W X z5))
   go_wp2_with fail;have r:(ys++[(⟨j,k,l,m⟩:FilA)]).length=ys+1:=by rw [b7];rfl
   refine ⟨⟨a+1,ys++[⟨j,k,l,m⟩],N,O,by rw [r],by go_num,qO,?_,by rw [r,M],?_,e.trans (((bR _ _).alloc E _).drew.trans z2)⟩,by simp [intOf];omega⟩
   ·unfold Hid;rw [L,t]
   rw [r,iS];exact P
  have G:=dfX ((a:Int)<fs);have B:a=fs:=qO;have HA:Hid (ys=fs):=qI (by rw [t,B,y7]);clear B;go_wp2_with fail;go_ret;exact ⟨ys,C,D,HA,rfl,v,e⟩
