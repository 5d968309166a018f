/- Walks and laws. Conditions: as stated. -/
import Derived.Test.YtecpbcmpncgokaaGreatOnce
import Derived.Test.YtecpbcmpncgokaaGreatRefDisk
set_option maxRecDepth 99999
set_option maxHeartbeats 25600000
set_option linter.all false
open Go.RowKit Go.Dol
namespace Go.Dol
structure SvOut (D:Dk) (n:BA) (P:Dk->Prop) (r:Int×Dk):Prop where
 ord:InOrder r.2.l
 oth: ∀x,x≠n->x≠shd n->aa r.2.l x=aa D.l x
 way:(r.1=0/\P r.2/\r.2.dark=false)\/((r.1=4/\r.2.dark=false\/r.1=5/\r.2.dark=true)/\aa r.2.l n=aa D.l n)
 calm:D.left= -1->r.1≠5/\r.2.left= -1
theorem SvOut.same {D} (a:InOrder D.l) (b:D.dark=false) (n P):SvOut D n P (4,D):=
 ⟨a,fun _ _ _=>rfl,.inr ⟨.inl ⟨rfl,b⟩,rfl⟩,fun c=>⟨by simp,c⟩⟩
theorem SvOut.spend {D} (d:InOrder D.l) (e:D.dark=false) {l'} (f:InOrder l') {n} (g: ∀x,x≠n->x≠shd n->aa l' x=aa D.l x) {P} (h: ∀b:Dk,b.l=l'->P b):SvOut D n P (aW D l'):=by
 unfold aW;split
 ·rename_i c;exact ⟨d,fun _ _ _=>rfl,.inr ⟨.inr ⟨rfl,rfl⟩,rfl⟩,fun a=>by rw [a] at c;cases c⟩
 refine ⟨f,g,.inl ⟨rfl,h _ rfl,e⟩,fun a=>⟨by simp,?_⟩⟩;show (if 0<D.left then D.left-1 else D.left)= -1;rw [a];rfl
theorem SvOut.room {D} (a:InOrder D.l) (b:D.dark=false) {l'} (d:InOrder l') {n} (e: ∀x,x≠n->x≠shd n->aa l' x=aa D.l x) {P} (f: ∀c:Dk,c.l=l'->P c) (more):SvOut D n P (cy D more l'):=by
 unfold cy;split
 ·exact SvOut.same a b n P
 exact SvOut.spend a b d e f
theorem SvOut.bind {D n P Q r1 r2} (a:SvOut D n P r1) (m: ∀g,P g->aa g.l n=aa D.l n) (o:r1.1=0->P r1.2->r1.2.dark=false->SvOut r1.2 n Q r2):SvOut D n Q (if r1.1≠0 then r1 else r2):=by
 split
 ·rename_i f;refine ⟨a.ord,a.oth,?_,a.calm⟩;rcases a.way with ⟨b,_⟩ | c
  ·exact absurd b f
  exact .inr c
 rename_i f;have d:=Ol.1 f;rcases a.way with ⟨_,h,p⟩ | ⟨⟨b,_⟩ | ⟨b,_⟩,_⟩
 ·have e:=o d h p;refine ⟨e.ord,fun i j k=>by rw [e.oth i j k,a.oth i j k],?_,fun q=>e.calm (a.calm q).2⟩;rcases e.way with c | ⟨c,r⟩
  ·exact .inl c
  exact .inr ⟨c,by rw [r,m _ h]⟩
 ·rw [b] at d;cases d
 rw [b] at d;cases d
theorem AB {D} (a:InOrder D.l) (d:D.dark=false) {n} (e:ab (shd n)=true) {c acc} (h:c.length<=64) (ha:(aa D.l (shd n)).getD []=acc):
  SvOut D n (fun b=>aa b.l (shd n)=some (acc++c)/\aa b.l n=aa D.l n) (aF D (shd n) c):=by
 unfold aF;rw [if_neg (by rw [e];simp;omega),if_neg (by rw [d];decide),ha];refine SvOut.room a d (ef a) (fun i _ f=>by rw [cF a,if_neg f]) (fun b g=> ?_) _;rw [g,cF a,if_pos rfl,cF a,if_neg (nt n)];exact ⟨rfl,rfl⟩
theorem rA {n} (i:ab (shd n)=true) (cs) (g: ∀c∈cs,c.length<=64): ∀(D:Dk) (acc:LU),InOrder D.l->D.dark=false->(aa D.l (shd n)).getD []=acc->
  (cs=[]->aa D.l (shd n)=some acc)->SvOut D n (fun d=>aa d.l (shd n)=some (acc++cs.flatten)/\aa d.l n=aa D.l n) (aR D (shd n) cs):=by
 induction cs with
 | nil=>
  intro D acc e a ha j;exact ⟨e,fun _ _ _=>rfl,.inl ⟨rfl,⟨by rw [List.flatten_nil,List.append_nil];exact j rfl,rfl⟩,a⟩,fun k=>⟨by simp [aR],k⟩⟩
 | cons c w m=>
 intro D acc e a ha _;rw [gJ];have h:=AB e a i (g c (j8 ..)) ha;refine h.bind (fun d o=>o.2) fun x f p=> ?_;have b:=m (fun q a=>g q (k8 _ a)) (aF D (shd n) c).2 (acc++c) h.ord p (by rw [f.1];rfl) fun _=>f.1;refine ⟨b.ord,b.oth,?_,b.calm⟩;rcases b.way with ⟨r,⟨s,t⟩,u⟩ | v
 ·exact .inl ⟨r,⟨by rw [s,M8,g9],by rw [t,f.2]⟩,u⟩
 exact .inr v
theorem nu {D s} (a:ab s=true) (c:D.dark=false) {b} (d:aa D.l s=some b):bK D s=0:=by
 unfold bK;rw [if_neg (by rw [a];decide),if_neg (by rw [c];decide),d];rfl
theorem AC {D} (f:InOrder D.l) (g:D.dark=false) {n} (e:ab (shd n)=true) (m:ab n=true) {b} (h:aa D.l (shd n)=some b):
  SvOut D n (fun a=>aa a.l n=some b) (eG D n):=by
 unfold eG;have i:SvOut D n (fun a=>a.l=D.l) (bd D (shd n)):=by
  unfold bd;rw [if_neg (by rw [nu e g h];simp)];exact SvOut.spend f g f (fun _ _ _=>rfl) fun a c=>c
 refine i.bind (fun a c=>by rw [c]) fun s o j=> ?_;have p:=o;have k:aa (bd D (shd n)).2.l (shd n)=some b:=by rw [p];exact h
 have d:=i.ord;unfold bx;rw [if_neg (by rw [e,m];simp),if_neg (by rw [nu e j k];simp),k,NH];refine SvOut.room d j (ef (dj d)) (fun t q r=> ?_) (fun a c=> ?_) _
 ·rw [cF (dj d),if_neg q,eH d,if_neg r]
 rw [c,cF (dj d),if_pos rfl]
theorem rB {D} (e:InOrder D.l) (j:D.dark=false) (n b):
  ((ab (shd n)=false\/n.size=0\/bi n=true)/\ao D n b=(1,D))\/(ab (shd n)=true/\n.size≠0/\bi n=false/\SvOut D n (fun a=>aa a.l n=some b) (ao D n b)):=by
 by_cases f:ab (shd n)=false\/n.size=0\/bi n=true
 ·exact .inl ⟨f,if_pos f⟩
 have g:ab (shd n)=true:=by
  cases m:ab (shd n) with
  | true=>rfl
  | false=>exact absurd (.inl m) f
 have k:n.size≠0:=fun h=>f (.inr (.inl h));have d:bi n=false:=by
  cases m:bi n with
  | false=>rfl
  | true=>exact absurd (.inr (.inr m)) f
 have v:=rC g k;have q: ∀c:Dk,InOrder c.l->c.dark=false->aa c.l (shd n)=none->SvOut c n (fun a=>aa a.l n=some b) (cR c n b):=by
  intro c o i r;unfold cR;split
  ·exact SvOut.same o i n _
  unfold ev;refine (rA g (aS b) (nv b) c [] o i (by rw [r];rfl) (fun h=>absurd h (nw b))).bind (fun a d=>d.2) fun k p w=> ?_;have x:=(rA g (aS b) (nv b) c [] o i (by rw [r];rfl) (fun h=>absurd h (nw b))).ord;have s:=p.1;rw [List.nil_append,nx] at s;exact AC x w g v s
 refine .inr ⟨g,k,d,?_⟩;unfold ao;rw [if_neg f,if_neg (by rw [j];decide)];cases t:aa D.l (shd n) with
 | none=>
  rw [if_neg (by decide)];exact q D e j t
 | some z=>
 rw [if_pos (by rfl)];have u:SvOut D n (fun a=>aa a.l (shd n)=none/\aa a.l n=aa D.l n) (aB D (shd n)):=by
  unfold aB;rw [if_neg (by rw [nu g j t];simp)];refine SvOut.spend e j (dj e) (fun A _ y=>by rw [eH e,if_neg y]) fun a d=> ?_;rw [d,eH e,if_pos rfl,eH e,if_neg (nt n)];exact ⟨rfl,rfl⟩
 refine u.bind (fun a d=>d.2) fun k p i=> ?_;exact q _ u.ord i p.1
theorem rD {l} (d:InOrder l):l.Nodup:=List.Pairwise.imp (fun {a b} c e=>by rw [e] at c;exact absurd rfl (ig c)) d
theorem rE {l m} (d:InOrder l) (e:InOrder m) (p:BA->Bool) (h: ∀x,p x=true->aa l x=aa m x):l.filter (fun f=>p f.1)=m.filter fun f=>p f.1:=by
 refine AD (Ou _ d) (Ou _ e) ?_;refine (List.perm_ext_iff_of_nodup ((rD d).filter _) ((rD e).filter _)).2 fun f=> ?_;rw [NQ,NQ];refine ⟨fun ⟨g,a⟩=>⟨?_,a⟩,fun ⟨g,a⟩=>⟨?_,a⟩⟩
 ·have c:=(bz d (n:=f.1) (b:=f.2)).2 g;rw [h f.1 a] at c;exact (bz e).1 c
 have c:=(bz e (n:=f.1) (b:=f.2)).2 g;rw [<-h f.1 a] at c;exact (bz d).1 c
def Strict (l:List BA):Prop:=l.Pairwise fun a b=>sLt a b=true
theorem Strict.tail {x l} (a:Strict (x::l)):Strict l:=(s8.1 a).2
theorem Strict.same {l m} (h:Strict l) (i:Strict m) (c: ∀x,x∈l↔x∈m):l=m:=by
 induction l generalizing m with
 | nil=>
  cases m with
  | nil=>rfl
  | cons g o=>exact absurd ((c g).2 (j8 ..)) m9
 | cons f s p=>
 cases m with
 | nil=>exact absurd ((c f).1 (j8 ..)) m9
 | cons g o=>
 have j:=(s8.1 h).1;have k:=(s8.1 i).1;have q:f=g:=by
  rcases i8.1 ((c f).1 (j8 ..)) with a | d
  ·exact a
  rcases i8.1 ((c g).2 (j8 ..)) with a | e
  ·exact a.symm
  have r:=k f d;have n:=j g e;rw [sN r] at n;cases n
 subst q;rw [p h.tail i.tail fun x=>⟨fun b=> ?_,fun b=> ?_⟩]
 ·rcases i8.1 ((c x).1 (k8 _ b)) with a | d
  ·rw [a] at b;have:=j f b;rw [la] at this;cases this
  exact d
 rcases i8.1 ((c x).2 (k8 _ b)) with a | e
 ·rw [a] at b;have:=k f b;rw [la] at this;cases this
 exact e
def cD:List BA->BA->Nat
 | [],_=>0
 | y::r,x=>if sLt y x=true then cD r x+1 else 0
def cC (l:List BA) (x:BA):List BA:=l.take (cD l x)++x::l.drop (cD l x)
theorem yo (l x):cD l x<=l.length:=by
 induction l with
 | nil=>exact lR _
 | cons a b c=>unfold cD;split<;>simp;omega
theorem mH (l x y):y∈cC l x↔y=x\/y∈l:=by
 unfold cC;rw [l7,i8];have a:y∈l↔y∈l.take (cD l x)\/y∈l.drop (cD l x):=by rw [<-l7,r8]
 rw [a];constructor
 ·rintro (a | a | a)
  ·exact .inr (.inl a)
  ·exact .inl a
  exact .inr (.inr a)
 rintro (a | a | a)
 ·exact .inr (.inl a)
 ·exact .inl a
 exact .inr (.inr a)
theorem xp (y r x):cC (y::r) x=if sLt y x=true then y::cC r x else x::y::r:=by
 have a:cD (y::r) x=if sLt y x=true then cD r x+1 else 0:=rfl;unfold cC;rw [a];split<;>simp
theorem KH {l} (d:Strict l) {x} (f:x∉l):Strict (cC l x):=by
 induction l with
 | nil=>exact w8 ..
 | cons i r j=>
 rw [xp];have k:i≠x:=fun b=>f (by rw [b];exact j8 ..);have g:=(s8.1 d).1;split
 ·rename_i e;refine s8.2 ⟨fun c a=> ?_,j d.tail fun m=>f (k8 _ m)⟩;rcases (mH r x c).1 a with b | a
  ·rw [b];exact e
  exact g c a
 rename_i e;have h:=sM (by simpa using e) k;refine s8.2 ⟨fun c a=> ?_,d⟩;rcases i8.1 a with b | a
 ·rw [b];exact h
 exact ol h (g c a)
def du (l:List BA):List BA:=l.foldl cC []
theorem KF (l x):du (l++[x])=cC (du l) x:=by
 unfold du;rw [List.foldl_append];rfl
theorem KI (l x):(cC l x).length=l.length+1:=by
 have:=yo l x;unfold cC;simp;omega
theorem KJ (l:List BA): ∀acc,Strict acc->l.Nodup->(∀x∈l,x∉acc)->Strict (l.foldl cC acc)/\ ∀x,x∈l.foldl cC acc↔x∈acc\/x∈l:=by
 induction l with
 | nil=>intro acc a _ _;exact ⟨a,fun x=>by simp⟩
 | cons y m e=>
 intro acc a f c;obtain ⟨g,h⟩:=NP.1 f;obtain ⟨i,j⟩:=e (cC acc y) (KH a (c y (j8 ..))) h fun x d b=>by
  rcases (mH acc y x).1 b with k | b
  ·exact g (by rw [<-k];exact d)
  exact c x (k8 _ d) b
 refine ⟨i,fun x=> ?_⟩;rw [List.foldl_cons,j x,mH,i8];constructor
 ·rintro ((a | a) | a)
  ·exact .inr (.inl a)
  ·exact .inl a
  exact .inr (.inr a)
 rintro (a | a | a)
 ·exact .inl (.inr a)
 ·exact .inl (.inl a)
 exact .inr a
theorem IQ {l} (a:l.Nodup):Strict (du l)/\ ∀x,x∈du l↔x∈l:=by
 obtain ⟨c,b⟩:=KJ l [] Ny a fun x _ d=>m9 d;exact ⟨c,fun x=>(b x).trans (by simp)⟩
theorem KE {l x j} (a:j<cD l x): ∃y,l[j]?=some y/\sLt y x=true:=by
 induction l generalizing j with
 | nil=>simp [cD] at a
 | cons y b c=>
 have d:cD (y::b) x=if sLt y x=true then cD b x+1 else 0:=rfl;rw [d] at a;split at a
 ·rename_i e;cases j with
  | zero=>exact ⟨y,rfl,e⟩
  | succ j=>exact c qO
 omega
theorem KG {l x y} (a:l[cD l x]?=some y):sLt y x=false:=by
 induction l with
 | nil=>cases a
 | cons b c d=>
 have e:cD (b::c) x=if sLt b x=true then cD c x+1 else 0:=rfl;rw [e] at a;split at a
 ·exact d (by simpa using a)
 rename_i f;have:b=y:=by simpa using a
 rw [<-this];simpa using f
theorem Jl (l):(du l).length=l.length:=by
 have a: ∀(l acc:List BA),(l.foldl cC acc).length=acc+l:=by
  intro l;induction l with
  | nil=>intro acc;rfl
  | cons c d b=>intro acc;rw [List.foldl_cons,b,KI,List.length_cons];omega
 exact (a l []).trans (by simp)
end Go.Dol
namespace Go.Proofs.YtecpbcmpncgokaaGreat
section
variable {w w':World} {g m gr:Nat} {D E:Dk}
theorem Rdk.tw (h:Rdk w gr E) (a:Dsk w g m D) (b:Tw w w' g m):Rdk w' gr E:=by
 obtain ⟨c,d,f,hB,hO,i,j⟩:=h;have k:gr≠g:=by
  rintro rfl;obtain ⟨l,hB',_⟩:=a;exact z178
 have n:gr≠m:=by
  obtain ⟨l,_,o,_⟩:=a;exact o.blk_ne hB
 exact ⟨c,d,f,(b.block gr hB.lt k n).trans hB,zK a b hO (by decide),i.tw a b,j⟩
theorem Dsk.ref (h:Dsk w g m D) (c:Rdk w gr E) (a:w.grownBy w' (some gr)):Dsk w' g m D:=by
 obtain ⟨j,k,l,hB',hO,n,o⟩:=c;obtain ⟨d,hB,b,f⟩:=h;have i:g≠gr:=by
  rintro rfl;exact z178
 refine ⟨d,hB.grown a (fun e=>i (by injection e)),b.grown a (fun e=>b.blk_ne hB' (by injection e with e;exact e.symm)),f.keep a (v8 hB' (by decide) (zL))⟩
end
theorem tm {acc l m} (b:aQ acc l=some m):m.length<=acc.length+l.length:=by
 induction l generalizing acc with
 | nil=>
  have:acc=m:=by simpa [aQ] using b
  subst this;simp
 | cons a g d=>
 unfold aQ at b;split at b
 ·cases b
 have h:=d b;have i:(ag acc a.1 a.2).length<=acc+1:=by
  have e:=(ga acc a.1 a.2).length_eq;have f:(am acc a.1).length<=acc:=by
   cases c:aa acc a.1 with
   | none=>rw [eK c];omega
   | some j=>have:=(fB c).length_eq;simp at this;omega
  rw [e];simp;exact f
 simp only [List.length_cons];omega
def Jw (cap:Int) (b:List FilA) (g:Nat) (w:World) (i:Value) (wr:World):Prop:=
 ∃(a:Nat) (l:List Fil),i= .int .i64 a/\a<=b/\Hid (aQ [] ((b.take a).map FilA.f)=some l)/\Rdk wr g (dl cap l)/\Below w w wr
def Jx (w:World) (r:Option Dk×Int) (b:Ending) (w':World):Prop:=
 match r.1 with
 | none=>b= .returned (.tuple #[.pointer none,.int .i64 r.2])/\Below w w w'
 | some c=> ∃a,b= .returned (.tuple #[.pointer (some ⟨a,0,none⟩),.int .i64 r.2])/\Rdk w' a c/\w.heap.size<=a/\Below w w w'
theorem rj (cap A fs n c) (o0:n=fs.length) (w) (W:Rd w w.heap.size 2 A n (fc fs)) (p0:Fls8 w w.heap.size fs) (E0:n<=3518437208883) (q0: ∀x∈fs,x.n.size<=140737488355328/\x.b.length<=140737488355328):
  Calls Tryz.prog 68 #[.int .i64 cap,.slice A n c] w (Jx w (cE cap (fs.map FilA.f))):=by
 have F0:n<=fs:=qO;have G0:fs<=n:=qO;clear o0;by_cases H:cap<0\/kaf<cap
 ·have s:Hid (cE cap (fs.map FilA.f)=(none,1)):=if_pos H;go_in;go_wp2_with ((go_at_call 135;refine (Jy cap _ H).mono ?_;rintro e X ⟨rfl,r0⟩;obtain rfl:=r0.symm));go_ret2;rw [s];exact ⟨rfl,bR _ _⟩
 have Y:0<=cap:=qO;have Z:cap<=kaf:=qO;have s:Hid (cE cap (fs.map FilA.f)=match aQ [] (fs.map FilA.f) with | none=>(none,1) | some a0=>if frD ⟨cap,a0,0,-1,false⟩<0 then (none,4) else (some ⟨cap,a0,0,-1,false⟩,0)):=if_neg H;go_in;go_wp2_with ((go_at_call 135;refine (Jz cap _ Y Z).mono ?_;rintro e X ⟨I,rfl,J,s0,K⟩));obtain ⟨H0,b0⟩:=gX X;rw [<-b0] at J K ⊢;clear b0;go_loopw [8] (fun i wr=>Jw cap fs I w i wr) (fun i _=>fs-(intOf i).toNat)
 case atStart=>exact ⟨0,[],rfl,zL,rfl,J,K⟩
 case round=>
  clear J K;obtain ⟨a,l,rfl,I0,L,M,q⟩:=hrel;have J0:l<=a:=by
   have B:=tm L.out;simp only [List.length_nil,g7,b9] at B;omega
  by_cases K0:a<n
  ·have L0:=ltI a n;have M0:=zeI a;have t0:a<fs:=qO;obtain ⟨x,C⟩: ∃x,fs[a]?=some x:=⟨fs[a],gE t0⟩;obtain ⟨c0,d0⟩:=di C;have N:=g8 C;have e0:=W.belowW q (lR _);obtain ⟨D,E,rfl,N0,O⟩:=e0.at_ qO;have P:wr.cell? ⟨D,E+a*2,none⟩=_:=O _ _ c0;have Q:wr.cell? ⟨D,E+a*2+1,none⟩=_:=O _ _ d0;have f0:=(p0 x N).1.below q;have u0:=q0 x N;have R:(fs.take (a+1)).map FilA.f=(fs.take a).map FilA.f++[x.f]:=by rw [t7,C];simp
   have g0:fs.map FilA.f=(fs.take (a+1)).map FilA.f++(fs.drop (a+1)).map FilA.f:=by rw [<-p8,r8]
   obtain ⟨d,k,h0,i0⟩:=x;change (fs.take (a+1)).map FilA.f=(fs.take a).map FilA.f++[(d,k)] at R;have S:aQ [] ((fs.take a).map FilA.f++[(d,k)])=if ab d=false\/(aa l d).isSome=true then none else some (ag l d k):=sr L.out (d,k);rw [<-R] at S;simp only at P Q f0 u0;have v0:k.length<=kaa:=qO;have HS:=qI S;have j0:=qI g0;have O0:=qiJ (a+1);clear C c0 d0 O e0 S g0 R N W;have m:=hI d wr (by unfold maxLen;omega);have t:=gi M d (by show l.length<=_;omega);change Calls _ _ _ _ (fun e w0=> ∃v,e= .returned (.bool (aa l d).isSome)/\w0=wr.drewN v) at t;obtain ⟨x0,his⟩:=gX ((aa l d).isSome);rw [<-his] at t;cases hB:ab d with
   | false=>
    have r:Hid (aQ [] (fs.map FilA.f)=none):=by
     unfold Hid;rw [j0];refine kT ?_;rw [HS,if_pos (.inl hB)]
    rw [hB] at m;have y:=qI m;clear m hB;go_wp2_with fail;refine y.mono ?_;rintro e j ⟨rfl,g⟩;obtain rfl:=g.symm;go_wp2_with fail;go_ret2;rw [s,r];exact ⟨rfl,q⟩
   | true=>
   rw [hB] at m;cases x0 with
   | true=>
    have r:Hid (aQ [] (fs.map FilA.f)=none):=by
     unfold Hid;rw [j0];refine kT ?_;rw [HS,if_pos (.inr his.symm)]
    have y:=qI m;have T:=qI t;clear m t hB his;go_wp2_with fail;refine y.mono ?_;rintro e j ⟨rfl,g⟩;obtain rfl:=g.symm;go_wp2_with fail;refine T.mono ?_;rintro e j ⟨v,rfl,g⟩;have o:Below w w j:=by rw [g];exact q.drewN' v
    clear g;go_wp2_with fail;go_ret2;rw [s,r];exact ⟨rfl,o⟩
   | false=>
   have r:Hid (aQ [] ((fs.take (a+1)).map FilA.f)=some (ag l d k)):=by
    exact z201
   have y:=qI m;have T:=qI t;clear m t hB his;go_wp2_with fail;refine y.mono ?_;rintro e j ⟨rfl,g⟩;obtain rfl:=g.symm;go_wp2_with fail;refine T.mono ?_;rintro e j ⟨v,rfl,g⟩;have F:Below wr wr j:=by rw [g];exact (bR _ _).drewN' v
   have G:=M.below F;have y0:=f0.below F;have o:=q.next F;have P0:j.cell? ⟨D,E+a*2,none⟩=some (.string d):=by rw [g];exact P
   have Q0:j.cell? ⟨D,E+a*2+1,none⟩=some (.slice h0 k i0):=by rw [g];exact Q
   have z0:=qI (qq G.drew d _ h0 k i0 (by show l.length+1<=_;omega) y0.1.drew v0);clear g P Q F;go_wp2_with fail;go_still_tail 11,qkR;change wpList _ _ _ _ _ j.drew;go_wp2_with fail;refine z0.mono ?_;rintro e A0 ⟨rfl,B0,z⟩;go_wp2_with fail;have C0:j.grownBy A0 (some I):=⟨z.os,z.tape,z.output,z.size,z.block⟩;exact ⟨⟨a+1,ag l d k,by go_num,qO,r,B0,o.grown C0 o.size (fun R0 e=>by injection e with e;omega)⟩,by simp [intOf];omega⟩
  have k0:aQ [] (fs.map FilA.f)=some l:=by
   have B:=L.out;rw [i9 qO] at B;exact B
  have U:=qI (mz M ⟨Y,Z⟩ (by show l.length<=_;omega));obtain ⟨l0,m0⟩:=gH (frD (dl cap l));rw [<-m0] at U;have r:=qI k0;have n0:Hid (cE cap (fs.map FilA.f)=if l0<0 then (none,4) else (some (dl cap l),0)):=by
   unfold Hid;rw [s,r,m0];rfl
  clear k0 s;by_cases u:l0<0
  ·have D0:=dT u;have V:Hid (cE cap (fs.map FilA.f)=(none,4)):=by unfold Hid;rw [n0,if_pos u]
   clear u;go_wp2_with fail;refine U.mono ?_;rintro e j ⟨rfl,G,o⟩;go_wp2_with fail;go_ret2;rw [V];exact ⟨rfl,q.next o⟩
  have D0:=qF u;have V:Hid (cE cap (fs.map FilA.f)=(some (dl cap l),0)):=by unfold Hid;rw [n0,if_neg u]
  clear u;go_wp2_with fail;refine U.mono ?_;rintro e j ⟨rfl,G,o⟩;go_wp2_with fail;go_ret2;rw [V];exact ⟨I,rfl,G,s0,q.next o⟩
section
variable {w w':World} {g m gr:Nat} {D:Dk}
theorem Kw {l:List BA} {k:Nat} {x} (a:l[k]?=some x):(sc l)[k]?=some (.string x):=by simp [sc,a]
end
