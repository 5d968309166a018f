/- Walks and laws. Conditions: as stated. -/
import Derived.Test.YtecpbcmpncgokaaGreatTheirs10
set_option maxRecDepth 99999
set_option maxHeartbeats 25600000
set_option linter.all false
open Go.Instr renaming sliceAt->PY
open Go.IntKind renaming i64->be
open Go.Proofs.Tryz renaming prog->an
open Go.RowKit Go.Dol
namespace Go.Dol
theorem JA (x y):Op.bytesLess x y=decide (x<y):=z53
theorem xD (a b):Op.bytesLess a.toList b.toList=sLt a b:=by
 rw [t8,t8,JA];rfl
theorem JB {a b:BA} (c:a=b):(a.toList==b.toList)=true:=by rw [c];exact beq_self_eq_true _
theorem JC {a b:BA} (h: ¬a=b):(a.toList==b.toList)=false:=z279
theorem pV (s:BA) {k} (a:k<s.size):s[k]'a=s.data.toList[k]'(by rw [aC];exact a):=rfl
theorem JD {s k} (a:k<s.data.toList.length) (b:s.data.toList[k]=0):ab s=false:=by
 unfold ab;have:s.data.toList.contains 0=true:=by rw [y9,<-b];exact NF a
 rw [this];simp
theorem JE {s} (c: ∀(j:Nat) (a:j<s.data.toList.length),s.data.toList[j]≠0):ab s=(decide (1<=s.size)&&decide (s.size<=200)):=by
 have d:s.data.toList.contains 0=false:=by
  rw [J8];intro b;rw [y9] at b;obtain ⟨j,a,e⟩:=I8 b;exact c j a e
 unfold ab;rw [d];simp
theorem JF {x:UInt8} (a:x≠0):((x.toNat:Int)==0)=false:=beq_eq_false_iff_ne.2 fun b=>a (C9.1 (by show x.toNat=0;omega))
def spR (D:Dk):Bool×Dk:=if D.left=0 then (false,{ D with dark:=true,left:=-1 }) else (true,{ D with left:=if 0<D.left then D.left-1 else D.left,done:=D.done+1 })
theorem ki (D l'):aW D l'=if (spR D).1=true then (0,{ (spR D).2 with l:=l' }) else (5,(spR D).2):=by
 unfold aW spR;by_cases a:D.left=0
 ·rw [if_pos a,if_pos a,if_neg (fun a=>by cases a)]
 rw [if_neg a,if_neg a,if_pos rfl]
theorem JK {l:List Fil} {k} {f:Fil} (a:l[k]?=some f):ar (l.take (k+1))=ar (l.take k)+(16+(f.1.size:Int)+f.2):=by
 rw [t7,a,Cp];simp [ar,dB]
theorem JM {l n b} (a:aa l n=some b): ∃f,l[bS l n]?=some f/\f.1=n/\f.2=b:=by
 rw [jo] at a;cases d:l[bS l n]? with
 | none=>rw [d] at a;cases a
 | some f=>
 rw [d] at a;simp only at a;by_cases c:f.1=n
 ·rw [if_pos c] at a;injection a with a;exact ⟨f,rfl,c,a⟩
 rw [if_neg c] at a;cases a
theorem eo (D):(spR D).2.l=D.l:=by unfold spR;split<;>rfl
theorem JO (l n):(am l n).length<=l.length:=by
 cases a:aa l n with
 | none=>rw [eK a];omega
 | some b=>have:=(fB a).length_eq;simp at this;omega
end Go.Dol
namespace Go.Proofs.YtecpbcmpncgokaaGreat
def JG (s:BA) (w:World) (i:Value) (wr:World):Prop:=w=wr/\ ∃a:Nat,i= .int .i64 a/\a<=s.size/\Hid (∀(b:Nat) (c:b<s.data.toList),b<a->s.data.toList[b]≠0)
theorem hI (s w) (r:s.size<=maxLen):Calls an 136 #[.string s] w fun l w'=>l= .returned (.bool (ab s))/\w'=w:=by
 have A:s.size<=kal:=by unfold maxLen at r;omega
 obtain ⟨c,m⟩:=gH (ab s);rw [<-m];go_in;go_wp2_with fail;go_loopw [3] (fun i wr=>JG s w i wr) (fun i _=>s.size-(intOf i).toNat)
 case atStart=>exact ⟨rfl,0,rfl,zL,qI (fun d _ h=>by omega)⟩
 case round=>
  obtain ⟨rfl,a,rfl,B,q⟩:=hrel;by_cases t:a<s.size
  ·have C:=qiJ (a+1);have D:=dtX ((a:Int)<s.size);have E:=ltI a s.size;have F:=zeI a;have u:a<s.data.toList:=by rw [aC];exact t
   obtain ⟨f,n⟩:=gH (s.data.toList[a]);have G: ∀h:a<s.size,(s[a]'h).toNat=f.toNat:=fun h=>by rw [pV s h,n]
   by_cases b:f=0
   ·have v:((f.toNat:Int)==0)=true:=by rw [b];rfl
    have HF:Hid (c=false):=by unfold Hid;rw [m];exact JD u (by rw [<-n];exact b)
    clear b;exact z36
   have v:=JF b;have x:Hid (f≠0):=b;clear b;go_wp2_with fail;refine ⟨⟨rfl,a+1,by go_num,qO,qI fun d g H=> ?_⟩,by simp [intOf];omega⟩;by_cases l:d=a
   ·subst l;rw [<-n];exact x.out
   exact q.out d g qO
  have HF:Hid (c=(decide (1<=s.size)&&decide (s.size<=200))):=by
   unfold Hid;rw [m];exact JE fun d g=>q.out d g (by rw [aC] at g;omega)
  by_cases e:1<=s.size
  ·have y:=dtX ((s.size:Int)>=1);have j:=dT e;by_cases k:s.size<=200
   ·have z:=dtX ((s.size:Int)<=200);have o:=dT k;have HF2:Hid (c=true):=by unfold Hid;rw [HF,j,o];rfl
    clear e k;exact z180
   have z:=dfX ((s.size:Int)<=200);have o:=qF k;have HF2:Hid (c=false):=by unfold Hid;rw [HF,j,o];rfl
   clear e k;exact z180
  have y:=dfX ((s.size:Int)>=1);have j:=qF e;have HF2:Hid (c=false):=by unfold Hid;rw [HF,j];rfl
  clear e;exact z180
def rcells (cap:Int) (A:OA) (n c:Nat) (done:Nat) (a:Int) (b:Bool):List Value:=[.int .i64 cap,.slice A n c,.int .i64 (bo done),.int .i64 a,.bool b]
def Rdk (w:World) (g:Nat) (D:Dk):Prop:=
 ∃(a:List FilA) (b:OA) (c:Nat),Blk w g 54 (rcells D.cap b a c D.done D.left D.dark)/\w.ownsRow 0 110 2 (.slice b a c) a (fc a)/\Fls8 w 0 a/\Hid (a.map FilA.f=D.l)
section
variable {w w':World} {g:Nat} {D:Dk}
theorem Rdk.lt (a:Rdk w g D):g<w:=by
 obtain ⟨c,d,e,b,_⟩:=a;exact b.lt
theorem Rdk.below (c:Rdk w g D) (a:Below w w w'):Rdk w' g D:=by
 obtain ⟨d,e,f,b,hO,h,i⟩:=c;exact ⟨d,e,f,b.below a b.lt,az hO a,h.below a,i⟩
theorem Rdk.drew (a:Rdk w g D):Rdk w.drew g D:=a.below ⟨rfl,rfl,rfl,lR _,fun _ _=>rfl⟩
theorem Rdk.drewN (a:Rdk w g D) (k):Rdk (w.drewN k) g D:=a.below ⟨rfl,rfl,rfl,lR _,fun _ _=>rfl⟩
theorem Rdk.row (d:Rdk w g D): ∃(a:List FilA) (A:OA) (c:Nat),w.cell? g=some (.int .i64 D.cap)/\w.cell? ⟨g,1,none⟩=some (.slice A a.length c)/\w.cell? ⟨g,2,none⟩=some (.int .i64 (bo D.done))/\w.cell? ⟨g,3,none⟩=some (.int .i64 D.left)/\w.cell? ⟨g,4,none⟩=some (.bool D.dark)/\
  Rd w w 2 A a.length (fc a)/\a<=c/\c<=maxLen/\Fls8 w 0 a/\Hid (a.map FilA.f=D.l):=by
 obtain ⟨a,A,c,b,hO,e,h⟩:=d;obtain ⟨i,j⟩:=dz hO;exact ⟨a,A,c,by rw [b.cell];rfl,by rw [b.cell];rfl,by rw [b.cell];rfl,by rw [b.cell];rfl,by rw [b.cell];rfl,d8 hO,i,j,e,h⟩
theorem qr {a:List FilA} {l:List Fil} (c:a.map FilA.f=l) {k:Nat} {x:FilA} (d:a[k]?=some x):l[k]?=some (x.n,x.b):=by
 rw [<-c,m7,d];rfl
def JH (l:List Fil) (n:BA) (w:World) (i:Value) (wr:World):Prop:=w=wr/\ ∃a:Nat,i= .int .i64 a/\a<=l.length/\Hid (∀b,b<a-> ∃c,l[b]?=some c/\sLt c.1 n=true)
theorem mL (h:Rdk w g D) (n) (N:D.l.length<=kaa):
  Calls an 157 #[.pointer (some g),.string n] w fun m w'=> ∃nq,m= .returned (.tuple #[.int .i64 (bS D.l n:Nat),.bool (aa D.l n).isSome])/\w'=w.drewN nq:=by
 obtain ⟨b,O,P,Q,R,S,T,U,B,V,W,X,v⟩:=h.row;have C:D.l.length=b:=by rw [<-v,g7]
 have Y:D.l.length<=b:=qO;have Z:b.length<=D.l:=qO;clear C;go_in;go_wp2_with fail;go_loopw [6] (fun i wr=>JH D.l n w i wr) (fun i _=>b-(intOf i).toNat)
 case atStart=>exact ⟨rfl,0,rfl,zL,qI (fun o h=>by omega)⟩
 case round=>
  obtain ⟨rfl,a,rfl,x,q⟩:=hrel;by_cases E:a<b
  ·have a0:=ltI a b.length;have b0:=zeI a;obtain ⟨r,s⟩: ∃r,b[a]?=some r:=⟨b[a],gE E⟩;have t:=qr v.out s;obtain ⟨y,F⟩:=di s;obtain ⟨G,H,rfl,c0,z⟩:=B.at_ qO;have I:w.cell? ⟨G,H+a*2,none⟩=_:=z _ _ y;obtain ⟨j,A,d0,e0⟩:=r;simp only at I t;have u:=qI t;clear y F s t z;cases d:sLt j n with
   | true=>
    have J:Op.bytesLess j.toList n.toList=true:=by rw [xD];exact d
    have f0:=qiJ (a+1);have K:=qI d;clear d;go_wp2_with fail;refine ⟨⟨rfl,a+1,by go_num,qO,qI fun o g0=> ?_⟩,by simp [intOf];omega⟩;by_cases m:o=a
    ·rw [m];exact ⟨_,u.out,K.out⟩
    exact q.out o qO
   | false=>
   have J:Op.bytesLess j.toList n.toList=false:=by rw [xD];exact d
   have c:=sO x q.out (fun L e=>by rw [u] at e;injection e with e;rw [<-e];exact d);have HFd:=qI c;have k:aa D.l n=if j=n then some A else none:=by rw [jo,c,u]
   by_cases f:j=n
   ·have M:=JB f;have HLk:Hid (aa D.l n=some A):=by unfold Hid;rw [k,if_pos f]
    clear d f k c;exact z80
   have M:=JC f;have HLk:Hid (aa D.l n=none):=by unfold Hid;rw [k,if_neg f]
   clear d f k c;exact z80
  have c:=sO x q.out (fun L e=>by rw [C8 qO] at e;cases e);have HFd:=qI c;have HLk:Hid (aa D.l n=none):=by unfold Hid;rw [jo,c,C8 qO]
  clear c;exact z80
theorem gi (c:Rdk w g D) (n) (d:D.l.length<=kaa):
  Calls an 125 #[.pointer (some g),.string n] w fun b w'=> ∃a,b= .returned (.bool (aa D.l n).isSome)/\w'=w.drewN a:=by
 have e:=qI (mL c n d);go_in;go_wp2_with ((go_at_call 157;refine e.mono ?_;rintro b w' ⟨a,rfl,rfl⟩));go_ret;exact ⟨a,rfl,rfl⟩
theorem Jz (cap w) (d:0<=cap) (e:cap<=1099511627776):
  Calls an 135 #[.int .i64 cap] w fun a w'=> ∃g,a= .returned (.tuple #[.pointer (some ⟨g,0,none⟩),i0])/\Rdk w' g ⟨cap,[],0,-1,false⟩/\w.heap.size<=g/\Below w.heap.size w w':=by
 have f:=dfX (cap<0);have h:=dfX (cap>kaf);go_in;go_wp2_with fail;go_ret2;have b:=o9 w 54 (rcells cap none 0 0 0 (-1) false);refine ⟨w,rfl,⟨[],none,0,b,j9 _ _ _ _,fun i c=>(m9 c).elim,rfl⟩,lR _,(bR _ _).alloc (lR _) _⟩
theorem Jy (cap w) (h:cap<0\/1099511627776<cap):
  Calls an 135 #[.int .i64 cap] w fun a w'=>a= .returned (.tuple #[.pointer none,.int .i64 1])/\w'=w:=by
 rcases h with h | h
 ·go_in;exact z127
 have b:=dfX (cap<0);go_in;exact z127
end
def fF (w:World) (g:Nat) (r:Int×Dk) (a:Ending) (w':World):Prop:=a= .returned (.int .i64 r.1)/\Rdk w' g r.2/\w.grownBy w' (some g)
section
variable {w w':World} {g:Nat} {D:Dk}
theorem Rdk.free (a:Rdk w g D) (i):w.frozen? ⟨g,i,none⟩=false:=by
 obtain ⟨c,d,e,b,_⟩:=a;exact b.free i
theorem Rdk.turn (e:Rdk w g D) {D'} (f:D'.l=D.l) (h: ∀a:List FilA,∀A:OA,∀c:Nat,Blk w g 54 (rcells D.cap A a.length c D.done D.left D.dark)->Blk w' g 54 (rcells D'.cap A a.length c D'.done D'.left D'.dark)) (d:w.grownBy w' (some g)):Rdk w' g D':=by
 obtain ⟨a,A,c,b,hO,i,j⟩:=e;refine ⟨a,A,c,h a A c b,aE hO b (by decide) d,i.keep d (v8 b (by decide) (zL)),?_⟩;unfold Hid;rw [f];exact j
theorem qt (h:Rdk w g D) (n) (k:n.size<=maxLen) (m:D.l.length<=kaa):
  Calls an 196 #[.pointer (some g),.string n] w fun e w'=> ∃nq,e= .returned (.int .i64 (bK D n))/\w'=w.drewN nq:=by
 have a:=hI n w k;have HH:=qI (gi h n m);obtain ⟨q,r,s,t,u,v,x,i,_⟩:=h.row;obtain ⟨o,d⟩:=gX (bK D n);rw [<-d];obtain ⟨j,f⟩:=gX ((aa D.l n).isSome);rw [<-f] at HH;have hT:o=if ab n=false then 1 else if D.dark=true then 5 else if j=true then 0 else 3:=by rw [d,f];rfl
 clear d f;cases b:ab n with
 | false=>
  rw [b,if_pos rfl] at hT;rw [b] at a;have HT:=qI hT;have HN2:=qI a;clear hT a b;exact z115
 | true=>
 rw [b,if_neg (by decide)] at hT;rw [b] at a;have HN2:=qI a;clear a b;cases c:D.dark with
 | true=>
  rw [c,if_pos rfl] at hT;rw [c] at i;have HT:=qI hT;clear hT c;exact z115
 | false=>
 rw [c,if_neg (by decide)] at hT;rw [c] at i;clear c;cases j with
 | true=>
  rw [if_pos rfl] at hT;exact z58
 | false=>
 rw [if_neg (by decide)] at hT;exact z58
theorem JI (a:Rdk w g D):Calls an 28 #[.pointer (some ⟨g,0,none⟩)] w fun c w'=>c= .returned (.tuple #[])/\Rdk w' g (onD D)/\w.grownBy w' (some g):=by
 obtain ⟨d,e,f,i,j,k,l,m,_⟩:=a.row;have n:=a.free 3;have o:=a.free 4;go_in;go_wp2_with fail;go_end0;have b:w.grownBy ((w.setCell ⟨g,4,none⟩ (.bool false)).setCell ⟨g,3,none⟩ (.int .i64 (-1))) (some g):=ae (ae (gR w _) 4 _) 3 _;exact ⟨rfl,a.turn (D':=onD D) rfl (fun d e f h=>(h.set 4 _).set 3 _) b,b⟩
theorem JJ (h:Rdk w g D) (k):Calls an 26 #[.pointer (some g),.int .i64 k] w (fF w g (dm D k)):=by
 obtain ⟨e,f,i,m,n,o,q,c,_⟩:=h.row;have r:=h.free 3;by_cases a:k<0
 ·have j:=dT a;have HF:Hid (dm D k=(1,D)):=if_pos a;clear a;go_in;exact z45
 have j:=qF a;cases b:D.dark with
 | true=>
  have HF:Hid (dm D k=(0,D)):=by unfold Hid dm;rw [if_neg a,if_pos b]
  rw [b] at c;clear a;go_in;exact z45
 | false=>
 have HF:Hid (dm D k=(0,{ D with left:=k })):=by unfold Hid dm;rw [if_neg a,if_neg (by rw [b];decide)]
 rw [b] at c;clear a;go_in;go_wp2_with fail;go_ret;rw [HF];have d:w.grownBy (w.setCell ⟨g,3,none⟩ (.int .i64 k)) (some g):=ae (gR w _) 3 _;exact ⟨rfl,h.turn (D':={ D with left:=k }) rfl (fun e f i l=>l.set 3 _) d,d⟩
end
theorem xE (n):be.wrap (bo n+1)=bo (n+1):=by
 have a:=jk (n:Int) (-1);have b:be.wrap n- -1=bo n+1:=by unfold bo;omega
 have c:(n:Int)- -1=((n+1:Nat):Int):=qO;rw [b,c] at a;exact a
section
variable {w w':World} {g:Nat} {D:Dk}
theorem qu (h:Rdk w g D) (i:OkW D):Calls an 197 #[.pointer (some ⟨g,0,none⟩)] w fun l w'=>l= .returned (.bool (spR D).1)/\Rdk w' g (spR D).2/\w.grownBy w' (some g):=by
 obtain ⟨d,e,f,q,r,s,m,t,_⟩:=h.row;have z2:=h.free 2;have u:=h.free 3;have v:=h.free 4;have n:=i.left0;have o:=i.left1;by_cases a:D.left=0
 ·have c:Hid (spR D=(false,{ D with dark:=true,left:=-1 })):=if_pos a;rw [a] at m;clear a n o;go_in;go_wp2_with fail;go_ret;rw [c];have b:w.grownBy ((w.setCell ⟨g,4,none⟩ (.bool true)).setCell ⟨g,3,none⟩ (.int .i64 (-1))) (some g):=ae (ae (gR w _) 4 _) 3 _;exact ⟨rfl,h.turn (D':={ D with dark:=true,left:=-1 }) rfl (fun d e f hB=>(hB.set 4 _).set 3 _) b,b⟩
 have x:=beq_eq_false_iff_ne.2 a;have j:=xE D.done;by_cases k:0<D.left
 ·have c:Hid (spR D=(true,{ D with left:=D.left-1,done:=D.done+1 })):=by unfold Hid spR;rw [if_neg a,if_pos k]
  have y:=qiJ (D.left-1);obtain ⟨od,HOD⟩:=gH (bo (D.done+1));rw [<-HOD] at j;clear a;go_in;go_wp2_with fail;go_ret;rw [c];have b:w.grownBy ((w.setCell ⟨g,3,none⟩ (.int .i64 (D.left-1))).setCell ⟨g,2,none⟩ (.int .i64 od)) (some g):=ae (ae (gR w _) 3 _) 2 _;refine ⟨rfl,h.turn (D':={ D with left:=D.left-1,done:=D.done+1 }) rfl (fun d e f hB=> ?_) b,b⟩;exact z198
 have c:Hid (spR D=(true,{ D with left:=D.left,done:=D.done+1 })):=by unfold Hid spR;rw [if_neg a,if_neg k]
 obtain ⟨od,HOD⟩:=gH (bo (D.done+1));rw [<-HOD] at j;clear a;go_in;go_wp2_with fail;go_ret;rw [c];have b:w.grownBy (w.setCell ⟨g,2,none⟩ (.int .i64 od)) (some g):=ae (gR w _) 2 _;refine ⟨rfl,h.turn (D':={ D with left:=D.left,done:=D.done+1 }) rfl (fun d e f hB=> ?_) b,b⟩;have:=hB.set 2 (.int .i64 od);rw [HOD] at this ⊢;exact this
theorem IX (h:Rdk w g D) (b:OkW D) (n) (c:n.size<=maxLen) (d:D.l.length<=kaa):Calls an 201 #[.pointer (some g),.string n] w (fF w g (bd D n)):=by
 have HT:=qI (qt h n c d);obtain ⟨a,ht⟩:=gX (bK D n);rw [<-ht] at HT;by_cases h0:a=0
 ·have HF:Hid (bd D n=aW D D.l):=by unfold Hid bd;rw [if_neg (by rw [<-ht,h0];simp)]
  subst h0;clear ht;go_in;go_wp2_with ((go_at_call 196;refine HT.mono ?_;rintro e w1 ⟨nq,rfl,rfl⟩));have HS:=qu (h.drewN nq) b;have hgq:w.grownBy (w.drewN nq) (some g):=ax ((bR _ _).drewN' nq) _;cases hs:(spR D).1 with
  | true=>
   have HE:Hid (bd D n=(0,(spR D).2)):=by
    unfold Hid;rw [HF,ki,if_pos hs];have f:(spR D).2.l=D.l:=by unfold spR;split<;>rfl
    rw [<-f]
   exact z48
  | false=>
  have HE:Hid (bd D n=(5,(spR D).2)):=by
   exact z262
  exact z48
 have HF:Hid (bd D n=(a,D)):=by unfold Hid bd;rw [if_pos (by rw [<-ht];exact h0),<-ht]
 exact z291
end
section
variable {w w':World} {g:Nat} {D:Dk}
def JL (g:Nat) (D:Dk) (w:World) (n i:Value) (wr:World):Prop:=∃ a:Nat,n= .int .i64 (be.wrap (D.cap-ar (D.l.take a)))/\i= .int .i64 a/\a<=D.l.length/\Rdk wr g D/\Below w w wr
theorem mz (c:Rdk w g D) (S:0<=D.cap/\D.cap<=kaf) (T:D.l.length<=kaa):
  Calls an 138 #[.pointer (some g)] w fun z w'=>z= .returned (.int .i64 (frD D))/\Rdk w' g D/\Below w w w':=by
 have e:w.cell? g=some (.int .i64 D.cap):=by obtain ⟨b,A,B,e,_⟩:=c.row;exact e
 have n:Hid (D.cap=be.wrap (D.cap-ar (D.l.take 0))):=by unfold Hid;rw [Nw];show D.cap=be.wrap (D.cap-0);rw [qJ qO];omega
 go_in;go_wp2_with fail;go_loopw [3,4] (fun C i wr=>JL g D w C i wr) (fun _ i _=>D.l-(intOf i).toNat)
 case atStart=>exact ⟨0,by rw [<-n],rfl,zL,c,bR _ _⟩
 case round=>
  clear c e n;obtain ⟨a,rfl,rfl,U,c,o⟩:=hrel;obtain ⟨b,A,B,e,V,W,X,Y,E,Z,a0,b0,p⟩:=c.row;have F:D.l.length=b:=by rw [<-p,g7]
  have c0:D.l.length<=b:=qO;have d0:b.length<=D.l:=qO;clear F;obtain ⟨q,d⟩:=gX (be.wrap (D.cap-ar (D.l.take a)));rw [<-d];by_cases G:a<b
  ·have e0:=ltI a b.length;have f0:=zeI a;obtain ⟨f,h⟩: ∃f,b[a]?=some f:=⟨b[a],gE G⟩;have j:=qr p.out h;obtain ⟨r,s⟩:=di h;obtain ⟨t,u,rfl,g0,k⟩:=E.at_ qO;have H:wr.cell? ⟨t,u+a*2,none⟩=_:=k _ _ r;have I:wr.cell? ⟨t,u+a*2+1,none⟩=_:=k _ _ s;have m:=JK j;obtain ⟨v,J,h0,i0⟩:=f;simp only at H I j m;obtain ⟨x,K⟩:=gY (be.wrap (q-16));obtain ⟨y,L⟩:=gY (be.wrap (x-v.size));obtain ⟨M,N⟩:=gY (be.wrap (y-J));have O:Hid (M=be.wrap (D.cap-ar (D.l.take (a+1)))):=by
    have P:x=be.wrap (D.cap-ar (D.l.take a)-16):=by rw [<-K,d,jk]
    have Q:y=be.wrap (D.cap-ar (D.l.take a)-16-v.size):=by rw [<-L,P,jk]
    unfold Hid;rw [<-N,Q,jk,m];congr 1;omega
   have j0:=qiJ (a+1);clear r s h j k m d;go_wp2_with fail;go_quiet (fail);go_wp2_with fail;refine ⟨⟨a+1,by rw [O],by go_num,qO,c.drewN nq,o.drewN' nq⟩,by simp [intOf];omega⟩
  have R:Hid (frD D=q):=by
   unfold Hid frD;rw [d,i9 qO]
  clear d;go_wp2_with fail;go_ret;rw [R];exact ⟨rfl,c,o⟩
theorem xF:(an.info? 110).map (fun i=>(i.zero,i.size,i.bytes))=some (some (.agg #[eS,eL]),2,40):=qkR
theorem xG (w):(sizeOf (an.elem 22)).run an w= .ok 2 w:=qkR
theorem xH {A n c k} (w) (a:k<=n) (b:n<=c) (d:c<=maxLen):(PY 22 (.slice A n c) none (some (.int .i64 (k:Nat))) none).run an w= .ok (.slice A k c) w:=by
 rw [run_sliceAt_slice _ _ _ _ _ _ qkR,run_slice_h _ _ _ _ _ qkR _ _ qO qO,xG];exact z194
theorem qv {A n c k} (w) (b:k<=n) (d:n<=c) (e:c<=maxLen):(PY 22 (.slice A n c) (some (.int .i64 (k:Nat))) none none).run an w= .ok (.slice (if c=k then A else A.map (·.add (k*2))) (n-k) (c-k)) w:=by
 rw [run_sliceAt_slice _ _ _ _ _ _ qkR,run_slice_l _ _ _ _ _ qkR _ _ qO qO,xG];by_cases a:c=k
 ·subst a;cases A<;>simp [sliced,Result.andThen]
 cases A<;>simp [sliced,Result.andThen,Addr.add,a]<;>omega
theorem iO {w ops rest o a Q} (h:o.guard=none) (s x)
  (i:o.op= .call { callee:=.builtin .append,args:=#[s,x],argTypes:=#[22,22] })
  (base v xs n) (t:n=xs.length) (j:a.eval s=v) (b:w.ownsRow base 110 2 v n (fc xs))
  (B A m c news) (k:a.eval x= .slice A m c) (u:m=news.length) (l:Rd w B 2 A m (fc news))
  (y:n+m<=3518437208883) (hbase:base<=w.heap.size)
  (p: ∀(ys:List FilA) (A':OA) (c':Nat) (w':World),Hid (ys=xs++news)->w'.ownsRow base 110 2 (.slice A' ys.length c') ys.length (fc ys)->Below base w w'->w.grownBy w' v.ownBlock->
   wpList an ops Q rest (a.put o.dst (.slice A' ys.length c')) w'):wpList an ops Q (o::rest) a w:=by
 refine hZ w h s x _ i base _ _ 2 40 N7 xF rfl (by decide) v n (fc xs) j b B A m c (fc news) k l (iT _) (by unfold maxLen;omega) qO hbase ?_;intro A' c' w' d e z C E;have f:n+m=(xs++news).length:=by rw [b7];omega
 rw [<-iS,f] at d;rw [f];exact p _ A' c' w' rfl d ((bR _ _).grown e hbase (fun q r=>(b.lt q r).1)) e
end
theorem Rd.file (w:World) (x):Rd (w.alloc (.cells x.cells.toArray 110)) (w+1) 2 (some ⟨w,0,none⟩) 1 (fc [x]):=by
 have b:=o9 w 110 x.cells;refine ⟨rfl,fun _=>⟨w,0,rfl,qO,fun d e a=> ?_⟩⟩;rw [x9,b.cell];have c:fc [x]=x.cells:=by simp [fc]
 rw [c] at a;exact a
section
variable {w w':World} {g:Nat} {D:Dk}
theorem qq (h:Rdk w g D) (n B Ab b cb) (B0:D.l.length+1<=3518437208883) (X:Rd w B 1 Ab b.length (bc b)) (C0:b.length<=kaa):
  Calls an 137 #[.pointer (some g),.string n,.slice Ab b cb] w fun e w'=>e= .returned (.tuple #[])/\Rdk w' g { D with l:=ag D.l n b }/\w.grownBy w' (some g):=by
 have Y:=qI (mL h n qO);obtain ⟨i,E⟩:=gX (bS D.l n);obtain ⟨P,J⟩:=gX ((aa D.l n).isSome);rw [<-E,<-J] at Y;have D0:i<=D.l:=by rw [E];exact Ck _ _
 have hput:Hid (ag D.l n b=D.l.take i++(n,b)::D.l.drop (i+if P=true then 1 else 0)):=by unfold Hid;rw [Cn,<-E,<-J]
 have n0:P=true->i<D.l:=by
  intro hs;rw [J,jo,<-E] at hs;exact z181
 go_in;go_wp2_with fail;refine Y.mono ?_;rintro e m ⟨Z,rfl,Q⟩;have hb0:Below w w m:=by rw [Q];exact (bR _ _).drewN' Z
 have h0:Rdk m g D:=by rw [Q];exact h.drewN Z
 have hs0:=hb0.size;clear Q E J;obtain ⟨a,d,c,K,hO,a0,hL⟩:=id h0;have q:=dz hO;have o0:a.length=D.l:=by rw [<-hL,g7]
 have hr:=d8 hO;have E0:a.length<=D.l:=qO;have F0:D.l.length<=a:=qO;clear o0;have p0:=K.c 1;have q0: ∀f:World,(PY 22 (.slice d a c) none (some (.int .i64 (i:Nat))) none).run an f= .ok (.slice d i c) f:=fun f=>xH f qO q.1 q.2;have b0:Rd m m 2 d i (fc (a.take i)):=by
  exact z246
 have r0:=K.lt;go_wp2_with (at_builtin;refine iO rfl (.tmp 15) (.tmp 21) rfl m.heap.size _ [] 0 rfl rfl (j9 _ _ _ _) _ d i c (a.take i) rfl (by rw [b9];omega) b0 (by omega) (lR _) ?_);intro R G0 H0 A s0 t0 b1 _;have e1':=s0;have L:=b1;have u0:=L.size;have v0:=bAl A (.cells #[] 5);have c0:Rd (A.alloc (.cells #[] 5)) (A.alloc (.cells #[] 5)).heap.size 1 Ab b.length (bc b):=by
  refine ⟨X.len,fun h0=> ?_⟩;obtain ⟨M,off,e,I0,d0⟩:=X.at_ h0;have w0:M<w:=o7 w _ (d0 0 _ (bu b 0 qO));have x0:=hb0.trans (L.mono hs0);refine ⟨M,off,e,by simp;omega,fun j u hu=> ?_⟩;rw [F7 _ _ _ (by show M<A;omega)];exact (x0.cell (p:=⟨M,off+j,none⟩) w0).trans (d0 j u hu)
 have e0:=eY A;clear q0 b0 p0;go_wp2_with (at_builtin;refine bQ rfl (.tmp 25) (.tmp 26) rfl A.heap.size _ 0 [] rfl e0 _ Ab b.length cb b rfl c0 (by omega) (by simp) ?_);intro l2 r s C y0 z0 f0 _ _ j1 j2;have e2':=y0;have N:=v0.trans f0;have J0:=N.size;have g0:=az t0 N;have S:=Rd.file C ⟨n,l2,r,s⟩;have O:=g0.alloc (.cells #[.string n,.slice r l2.length s] 110);have K0:R<=i:=by rw [e1',b9];omega
 change Rd (C.alloc (.cells #[.string n,.slice r l2.length s] 110)) _ _ _ _ _ at S;go_wp2_with (at_builtin;refine iO rfl (.tmp 23) (.tmp 29) rfl m.heap.size _ R R.length rfl rfl O _ _ 1 1 [⟨n,l2,r,s⟩] rfl rfl S (by omega) (by simp;omega) ?_);intro F L0 M0 N0 e3 o3 i0 j0;have O0:m<=(C.alloc (.cells #[.string n,.slice r l2.length s] 110)).heap.size:=by simp;omega
 have T:=bAl C (.cells #[n,.slice r l2 s] 110);have U:Below m m (C.alloc (.cells #[n,.slice r l2 s] 110)):=(L.trans (N.mono u0)).trans (T.mono qO);have b3e:=U.trans i0;have k0:=b3e.size;have hB3:=K.below b3e r0;have P0:=hB3.c 1;have hF3:=(a0.below U).keep j0 (K9 O (by decide) (zL));have l0:Far C 0 r l2:=J7 (s7 z0);have hL3:=(l0.below T).keep j0 (K9 O (by decide) (zL));have m0:=hr.belowW b3e (lR _);have Q0:F<=i+1:=by rw [e3,b7,e1',b9];simp;omega
 clear a0 hr K hO U i0 N L b1 f0 e0 c0 S g0 O l0 T;cases P with
 | true=>
  have R0:=n0 rfl;have S0:=qiJ (i+1);have t: ∀f:World,(PY 22 (.slice d a c) (some (.int .i64 (i+1))) none none).run an f= .ok (.slice (if c=i+1 then d else d.map (·.add ((i+1)*2))) (a-(i+1)) (c-(i+1))) f:=fun f=>by have:=qv (A:=d) (n:=a.length) (c:=c) (k:=i+1) f qO q.1 q.2;exact this
  have o:=(m0.cut (lo:=i+1) (hi:=a.length) (cap:=c) qO (lR _) q.1);rw [om,i9 (by rw [ir,b8];omega)] at o;obtain ⟨v,G⟩: ∃v,v=(if c=i+1 then d else d.map (·.add ((i+1)*2))):=⟨_,rfl⟩;rw [<-G] at o t;obtain ⟨y,z⟩:=gX (a-(i+1));obtain ⟨V,H⟩:=gX (c-(i+1));rw [<-z] at o t;rw [<-H] at t;have I:y=(a.drop (i+1)).length:=by rw [b8];exact z
  have W:=qI I;have A0:y+i<=a:=qO;clear G z H I;go_wp2_with (at_builtin;refine iO rfl (.tmp 35) (.tmp 41) rfl m.heap.size _ F F.length rfl rfl o3 _ v y V (a.drop (i+1)) rfl W.out o (by omega) k0 ?_);exact z16
 | false=>
 have t: ∀f:World,(PY 22 (.slice d a c) (some (.int .i64 ((i:Nat)))) none none).run an f= .ok (.slice (if c=i then d else d.map (·.add ((i)*2))) (a-(i)) (c-(i))) f:=fun f=>qv f qO q.1 q.2;have o:=(m0.cut (lo:=i) (hi:=a.length) (cap:=c) qO (lR _) q.1);rw [om,i9 (by rw [ir,b8];omega)] at o;obtain ⟨v,G⟩: ∃v,v=(if c=i then d else d.map (·.add ((i)*2))):=⟨_,rfl⟩;rw [<-G] at o t;obtain ⟨y,z⟩:=gX (a-(i));obtain ⟨V,H⟩:=gX (c-(i));rw [<-z] at o t;rw [<-H] at t;have I:y=(a.drop (i)).length:=by rw [b8];exact z
 have W:=qI I;have A0:y+i<=a:=qO;clear G z H I;go_wp2_with (at_builtin;refine iO rfl (.tmp 35) (.tmp 41) rfl m.heap.size _ F F.length rfl rfl o3 _ v y V (a.drop (i)) rfl W.out o (by omega) k0 ?_);exact z16
end
section
variable {w w':World} {g:Nat} {D:Dk}
theorem jA (E:Rdk w g D) (n) (S:n.size<=maxLen) (T:D.l.length<=kaa) (U: ∀b,aa D.l n=some b->b.length<=140737488355328):
  Calls an 90 #[.pointer (some g),.string n] w (sy w (aU D n)):=by
 have f:=hI n w S;cases a:ab n with
 | false=>
  have j:Hid (aU D n=([],1)):=by unfold Hid aU;rw [if_pos a]
  rw [a] at f;have p:=qI f;clear f a;go_in;go_wp2_with ((go_at_call 136;refine p.mono ?_;rintro q u ⟨rfl,k⟩;obtain rfl:=k.symm));go_ret2;rw [j];exact ⟨[],none,0,rfl,rfl,j9 _ _ _ _,bR _ _⟩
 | true=>
 rw [a] at f;have p:=qI f;clear f;have h:=mL E n T;cases c:aa D.l n with
 | none=>
  have j:Hid (aU D n=([],3)):=by unfold Hid aU;rw [if_neg (by rw [a];decide),c]
  rw [c] at h;have v:=qI h;clear h a c;go_in;go_wp2_with (first
   | (go_at_call 136;refine p.mono ?_;rintro q u ⟨rfl,k⟩;obtain rfl:=k.symm)
   | (go_at_call 157;refine v.mono ?_;rintro q u ⟨r,rfl,rfl⟩))
  go_ret2;rw [j];exact ⟨[],none,0,rfl,rfl,j9 _ _ _ _,(bR _ _).drewN' r⟩
 | some b=>
 have j:Hid (aU D n=(b,0)):=by unfold Hid aU;rw [if_neg (by rw [a];decide),c]
 have k0:=U b c;obtain ⟨V,s,W,F⟩:=JM c;obtain ⟨e,x⟩:=gX (bS D.l n);rw [c,<-x] at h;rw [<-x] at s;have v:=qI h;clear h a c x;go_in;go_wp2_with ((go_at_call 136;refine p.mono ?_;rintro q u ⟨rfl,k⟩;obtain rfl:=k.symm));refine v.mono ?_;rintro q d ⟨r,rfl,y⟩;have G:Below w w d:=by rw [y];exact (bR _ _).drewN' r
 have H:Rdk d g D:=by rw [y];exact E.drewN r
 clear y;obtain ⟨m,l0,X,m0,Y,n0,o0,p0,I,q0,r0,J,z⟩:=H.row;have Z:e<m:=by
  have o:=(c9.1 s).1;rw [<-z,g7] at o;exact o
 obtain ⟨i,t⟩: ∃i,m[e]?=some i:=⟨m[e],gE Z⟩;have K:i.f=V:=by
  have o:=s;rw [<-z,m7,t] at o;injection o
 have L:i.b=b:=by rw [<-F,<-K];rfl
 obtain ⟨A,B,rfl,a0,M⟩:=I.at_ qO;have N:d.cell? ⟨A,B+e*2+1,none⟩=_:=M _ _ (di t).2;have O:=J i (g8 t);have s0:=zeI e;have t0:=ltI e m.length;obtain ⟨u0,C,P,Q⟩:=i;simp only at N O L;subst L;have R:=bAl d (.cells #[] 5);have b0:=(O.1.below R).1;have c0:=eY d;have d0:=H.lt;have v0:(d.alloc (.cells #[] 5)).cell? ⟨g,1,none⟩=some (.slice (some ⟨A,B,none⟩) m X):=by rw [F7 _ _ _ (by exact d0)];exact Y
 have w0:(d.alloc (.cells #[] 5)).cell? ⟨A,B+e*2+1,none⟩=some (.slice P C Q):=by rw [F7 _ _ _ (by exact a0)];exact N
 clear t K s W F M I J z;go_wp2_with (at_builtin;refine bQ rfl (.tmp 19) (.tmp 27) rfl d.heap.size _ 0 [] rfl c0 _ P C.length Q C rfl b0 (by omega) (by simp) ?_);intro e0 f0 g0 x0 h0 i0 j0 _ _ y0 z0;go_wp2_with fail;go_ret2;rw [j];exact ⟨e0,f0,g0,h0,rfl,World.ownsRow.mono i0 G.size,G.next (R.trans j0)⟩
end
section
variable {w w':World} {g:Nat} {D:Dk}
theorem JN (h:Rdk w g D) (f:OkW D):Calls an 197 #[.pointer (some ⟨g,0,none⟩)] w fun k w'=>k= .returned (.bool (spR D).1)/\(∀(b:List FilA) (A:OA) (c:Nat),Blk w g 54 (rcells D.cap A b c D.done D.left D.dark)->Blk w' g 54 (rcells (spR D).2.cap A b c (spR D).2.done (spR D).2.left (spR D).2.dark))/\w.grownBy w' (some g):=by
 obtain ⟨b,A,c,o,q,r,l,s,_⟩:=h.row;have z2:=h.free 2;have t:=h.free 3;have u:=h.free 4;have m:=f.left0;have n:=f.left1;by_cases a:D.left=0
 ·have d:Hid (spR D=(false,{ D with dark:=true,left:=-1 })):=if_pos a;rw [a] at l;clear a m n;go_in;go_wp2_with fail;go_ret;rw [d];have e:w.grownBy ((w.setCell ⟨g,4,none⟩ (.bool true)).setCell ⟨g,3,none⟩ (.int .i64 (-1))) (some g):=ae (ae (gR w _) 4 _) 3 _;exact ⟨rfl,fun b A c hB=>(hB.set 4 _).set 3 _,e⟩
 have v:=beq_eq_false_iff_ne.2 a;have i:=xE D.done;by_cases j:0<D.left
 ·have d:Hid (spR D=(true,{ D with left:=D.left-1,done:=D.done+1 })):=by unfold Hid spR;rw [if_neg a,if_pos j]
  have x:=qiJ (D.left-1);obtain ⟨od,HOD⟩:=gH (bo (D.done+1));rw [<-HOD] at i;clear a;go_in;go_wp2_with fail;go_ret;rw [d];have e:w.grownBy ((w.setCell ⟨g,3,none⟩ (.int .i64 (D.left-1))).setCell ⟨g,2,none⟩ (.int .i64 od)) (some g):=ae (ae (gR w _) 3 _) 2 _;refine ⟨rfl,fun b A c hB=> ?_,e⟩;exact z198
 have d:Hid (spR D=(true,{ D with left:=D.left,done:=D.done+1 })):=by unfold Hid spR;rw [if_neg a,if_neg j]
 obtain ⟨od,HOD⟩:=gH (bo (D.done+1));rw [<-HOD] at i;clear a;go_in;go_wp2_with fail;go_ret;rw [d];have e:w.grownBy (w.setCell ⟨g,2,none⟩ (.int .i64 od)) (some g):=ae (gR w _) 2 _;refine ⟨rfl,fun b A c hB=> ?_,e⟩;have:=hB.set 2 (.int .i64 od);rw [HOD] at this ⊢;exact this
end
section
variable {w w':World} {g:Nat} {D:Dk}
theorem xI (h:Rdk w g D) (n) (u0:D.l.length<=3518437208883) (v:(aa D.l n).isSome=true):
  Calls an 198 #[.pointer (some g),.string n] w fun e w'=>e= .returned (.tuple #[])/\Rdk w' g { D with l:=am D.l n }/\w.grownBy w' (some g):=by
 have C:=mL h n qO;obtain ⟨i,x⟩:=gX (bS D.l n);rw [<-x,v] at C;have e0:=qI C;have f0:Hid (am D.l n=D.l.take i++D.l.drop (i+1)):=by unfold Hid;rw [Co v,<-x]
 have v0:i<D.l:=by
  have hs:=v;rw [jo,<-x] at hs;exact z181
 have w0:=qiJ (i+1);clear C x v;go_in;go_wp2_with fail;refine e0.mono ?_;rintro e m ⟨nq,rfl,E⟩;have P:Below w w m:=by rw [E];exact (bR _ _).drewN' nq
 have h0:Rdk m g D:=by rw [E];exact h.drewN nq
 have g0:=P.size;clear E;obtain ⟨a,b,c,y,hO,Q,R⟩:=id h0;have r:=dz hO;have i0:a.length=D.l:=by rw [<-R,g7]
 have hr:=d8 hO;have x0:a.length<=D.l:=qO;have y0:D.l.length<=a:=qO;clear i0;have j0:=y.c 1;have k0: ∀d:World,(PY 22 (.slice b a c) none (some (.int .i64 (i:Nat))) none).run an d= .ok (.slice b i c) d:=fun d=>xH d qO r.1 r.2;have S:Rd m m 2 b i (fc (a.take i)):=by
  exact z246
 have l0:=y.lt;go_wp2_with (at_builtin;refine iO rfl (.tmp 14) (.tmp 20) rfl m.heap.size _ [] 0 rfl rfl (j9 _ _ _ _) _ b i c (a.take i) rfl (by rw [b9];omega) S (by omega) (lR _) ?_);intro F z0 A0 B0 m0 G b1 _;have H:=m0;have s:=b1;have n0:=s.size;have C0:F<=i:=by rw [H,b9];omega
 have I:=y.below s l0;have D0:=I.c 1;have o0:=Q.below s;have T:=hr.belowW s (lR _);have J: ∀d:World,(PY 22 (.slice b a c) (some (.int .i64 (i+1))) none none).run an d= .ok (.slice (if c=i+1 then b else b.map (·.add ((i+1)*2))) (a-(i+1)) (c-(i+1))) d:=fun d=>by have:=qv (A:=b) (n:=a.length) (c:=c) (k:=i+1) d qO r.1 r.2;exact this
 have z:=(T.cut (lo:=i+1) (hi:=a.length) (cap:=c) qO (lR _) r.1);rw [om,i9 (by rw [ir,b8];omega)] at z;obtain ⟨K,U⟩: ∃K,K=(if c=i+1 then b else b.map (·.add ((i+1)*2))):=⟨_,rfl⟩;rw [<-U] at z J;obtain ⟨L,M⟩:=gX (a-(i+1));obtain ⟨p0,V⟩:=gX (c-(i+1));rw [<-M] at z J;rw [<-V] at J;have W:L=(a.drop (i+1)).length:=by rw [b8];exact M
 have q0:=qI W;have E0:L+i<=a:=qO;clear U M V W Q hr y hO k0 S j0 T;go_wp2_with (at_builtin;refine iO rfl (.tmp 23) (.tmp 30) rfl m.heap.size _ F F.length rfl rfl G _ K L p0 (a.drop (i+1)) rfl q0.out z (by omega) n0 ?_);intro N X Y O Z r0 s0 a0;have t:=I.grown a0 (own_ne G I (by decide)).symm;have F0:=t.c 1;have z5:=t.free 1;have b0:=o0.keep a0 (K9 G (by decide) (zL));go_wp2_with fail;go_end0;have A:O.grownBy (O.setCell ⟨g,1,none⟩ (.slice X N.length Y)) (some g):=ae (gR O _) 1 _;have c0:=v8 (B:=0) t (by decide) (zL);have t0:=s.trans s0;refine ⟨rfl,⟨N,X,Y,t.set 1 _,(aE r0 t (by decide) A).base (zL),?_,qI ?_⟩,aq (ax (P.trans (t0.mono g0)) _) A⟩
 ·intro d0 o;rw [Z,H] at o;rcases l7.1 o with o | o
  ·exact b0.keep A c0 d0 (Pe o)
  exact b0.keep A c0 d0 (List.mem_of_mem_drop o)
 show N.map FilA.f=am D.l n;rw [f0,Z,H,p8,List.map_take,List.map_drop,R]
end
section
variable {w w':World} {g:Nat} {D:Dk}
theorem oG (h:Rdk w g D) (d:OkW D) (n) (f:n.size<=maxLen) (i:D.l.length<=3518437208883):Calls an 126 #[.pointer (some g),.string n] w (fF w g (aB D n)):=by
 have HT:=qI (qt h n f qO);obtain ⟨a,ht⟩:=gX (bK D n);rw [<-ht] at HT;by_cases h0:a=0
 ·have HF:Hid (aB D n=aW D (am D.l n)):=by unfold Hid aB;rw [if_neg (by rw [<-ht,h0];simp)]
  obtain ⟨_,_,o,b⟩:=iq (ht.symm.trans h0);have j:Hid ((aa D.l n).isSome=true):=by unfold Hid;rw [b];rfl
  subst h0;clear ht b;go_in;go_wp2_with ((go_at_call 196;refine HT.mono ?_;rintro e w1 ⟨nq,rfl,rfl⟩));have HS:=qu (h.drewN nq) d;have hgq:w.grownBy (w.drewN nq) (some g):=ax ((bR _ _).drewN' nq) _;cases hs:(spR D).1 with
  | true=>
   have HE:Hid (aB D n=(0,{ (spR D).2 with l:=am D.l n })):=by
    unfold Hid;rw [HF,ki,if_pos hs]
   rw [hs] at HS;have HS2:=qI HS;clear HS hs;refine HS2.mono ?_;rintro e w2 ⟨rfl,hR2,hg2⟩;have c:=qI (xI hR2 n (by rw [eo];exact i) (by rw [eo];exact j.out));rw [eo] at c;go_wp2_with fail;refine c.mono ?_;rintro e q ⟨rfl,k,m⟩;go_wp2_with fail;go_ret;rw [HE];exact ⟨rfl,k,aq hgq (aq hg2 m)⟩
  | false=>
  have HE:Hid (aB D n=(5,(spR D).2)):=by
   exact z262
  exact z48
 have HF:Hid (aB D n=(a,D)):=by unfold Hid aB;rw [if_pos (by rw [<-ht];exact h0),<-ht]
 exact z291
end
theorem qw {n} (a:ab n=true):n.size<=200:=by
 unfold ab at a;simp only [m8,decide_eq_true_eq] at a;exact a.1.2
section
variable {w w':World} {g:Nat} {D:Dk}
theorem Rdk.spent (l:Rdk w g D) {w2 w3 w4} (f:Below w w w2) (m: ∀(d:List FilA) (A:OA) (c:Nat),Blk w2 g 54 (rcells D.cap A d c D.done D.left D.dark)->Blk w3 g 54 (rcells (spR D).2.cap A d c (spR D).2.done (spR D).2.left (spR D).2.dark)) (n:w2.grownBy w3 (some g)) (a:Below w w3 w4):Rdk w4 g (spR D).2/\w.grownBy w4 (some g):=by
 have b:=aq (ax f _) n;have h:w.grownBy w4 (some g):=⟨a.os.trans b.os,a.tape.trans b.tape,a.output.trans b.output,lT b.size a.size,fun i j o=>(a.block i j).trans (b.block i j o)⟩;refine ⟨l.turn (eo D) (fun d A c e=> ?_) h,h⟩;have k:=m d A c (e.below f e.lt);unfold Blk at k ⊢;exact (a.block g e.lt).trans k
theorem IW (h:Rdk w g D) (k:OkW D) (n) (R:n.size<=maxLen) (B A b c) (e0:Far w B A b) (f0:B<=g):
  Calls an 200 #[.pointer (some g),.string n,.slice A b c] w (fF w g (aF D n b)):=by
 have C0:=k.len;have S:=qI (hI n w R);obtain ⟨D0,E0,F0,G0,H0,I0,J0,T,_⟩:=h.row;go_in;go_wp2_with fail;refine S.mono ?_;rintro e U ⟨rfl,g0⟩;obtain rfl:=g0.symm;clear S;cases i:ab n with
 | false=>
  have HF:Hid (aF D n b=(1,D)):=if_pos (.inr i);clear i;exact z45
 | true=>
 have K0:=qw i;by_cases v:64<b.length
 ·have HF:Hid (aF D n b=(1,D)):=if_pos (.inl v);have h0:=dtX ((b:Int)>64);clear v i;exact z45
 have h0:=dfX ((b:Int)>64);have s:aF D n b=if D.dark=true then (5,D) else cy D (cJ D n b) (ag D.l n ((aa D.l n).getD []++b)):=if_neg (by rw [i];exact fun h=>h.elim v (fun h=>by cases h));have V:=qI i;clear i;cases m:D.dark with
 | true=>
  have HF:Hid (aF D n b=(5,D)):=by unfold Hid;rw [s,if_pos m]
  rw [m] at T;clear s m;exact z45
 | false=>
 rw [m] at T;rw [m,if_neg (by decide)] at s;have W:=qI s;have X:=qI (jA h n R qO (fun c i0=>k.small' i0));have L0:b.length<=64:=qO;clear m s v;go_wp2_with fail;refine X.mono ?_;rintro e U ⟨d,M0,N0,Y,rfl,j0,x⟩;obtain ⟨Z,G⟩:=gX ((aU D n).2);rw [<-G];have t:Hid ((Z=0/\d.length<=kam/\cJ D n b=b\/Z=3/\d.length=0/\cJ D n b=b+16+n.size)/\(aa D.l n).getD []=d):=by
  have k0:=Y.out;rw [k0,G];unfold Hid aU cJ;rw [if_neg (by rw [V];decide)];cases l0:aa D.l n with
  | none=>exact ⟨.inr ⟨rfl,rfl,by simp only;omega⟩,rfl⟩
  | some O0=>exact ⟨.inl ⟨rfl,by have:=k.small l0;omega,by simp only;omega⟩,rfl⟩
 have m0:=h.below x;clear Y G X V;go_upto_if 31 with (fail);go_cut [9] (fun I y=> ∃a:Int,I= .int .i64 a/\Hid (cJ D n b=a)/\y=U)
 case first=>
  rcases t.1 with ⟨J,-,u⟩ | ⟨J,-,u⟩
  ·have K:=qI u;subst J;clear u;go_wp2_with fail;go_meet;exact ⟨_,rfl,K,rfl⟩
  have K:=qI u;have P0:=qiJ (b+16);have Q0:=qiJ (b+16+n.size);subst J;clear u;go_wp2_with fail;go_meet;exact ⟨_,rfl,K,rfl⟩
 case rest=>
 obtain ⟨a,rfl,a0,rfl⟩:=hcut;have R0:d.length<=kaa-64:=by rcases t.1 with ⟨_,h,_⟩ | ⟨_,h,_⟩<;>omega
 obtain ⟨f,L⟩:=gX (frD D);have HFr:=qI (mz m0 ⟨k.cap0,k.cap1⟩ qO);rw [<-L] at HFr;have z:Hid (aF D n b=if 0<a/\f<a then (4,D) else aW D (ag D.l n (d++b))):=by unfold Hid;rw [W,t.2,a0,L];rfl
 have S0:=qI t.2;clear L a0 t W;go_upto_region 9 with (fail);go_cut [44] (fun I y=> ∃C:Bool,I= .bool C/\Hid (C=true↔0<a/\f<a)/\Rdk y g D/\Below wc wc y)
 case first=>
  by_cases j:f<a
  ·have n0:decide (a>f)=true:=dT j;by_cases o:0<a
   ·have o0:decide (a>0)=true:=dT o;have H:Hid (0<a/\f<a):=⟨o,j⟩;clear j o;go_wp2_with fail;refine HFr.mono ?_;rintro e w2 ⟨rfl,hD2,b2⟩;go_wp2_with fail;go_meet;exact ⟨true,rfl,⟨fun _=>H,fun _=>rfl⟩,hD2,b2⟩
   have o0:decide (a>0)=false:=qF o;have H:Hid (¬(0<a/\f<a)):=fun h=>o h.1;clear j o;exact z258
  have n0:decide (a>f)=false:=qF j;have H:Hid (¬(0<a/\f<a)):=fun h=>j h.2;clear j;exact z258
 case rest=>
 obtain ⟨C,rfl,E,hD2,b2⟩:=hcut;have F:=x.trans (b2.mono x.size);cases C with
 | true=>
  have HF:Hid (aF D n b=(4,D)):=z.out.trans (if_pos (E.1 rfl));clear z E;go_wp2_with fail;go_ret;rw [HF];exact ⟨rfl,hD2,ax F _⟩
 | false=>
 have HF:Hid (aF D n b=aW D (ag D.l n (d++b))):=z.out.trans (if_neg fun h=>by cases E.2 h);have q:=JN hD2 k;clear z E HFr;cases hs:(spR D).1 with
 | true=>
  have M:Hid (aF D n b=(0,{ (spR D).2 with l:=ag (spR D).2.l n (d++b) })):=by
   unfold Hid;rw [HF,ki,if_pos hs,eo]
  rw [hs] at q;have N:=qI q;clear q hs HF;go_wp2_with fail;refine N.mono ?_;rintro e p0 ⟨rfl,O,r⟩;obtain ⟨T0,U0,V0,P,_⟩:=id hD2;have hO:=v8 (B:=B) P (by decide) f0;have q0:=((e0.below x).below b2).keep r hO;have r0:=aE (az j0 b2) P (by decide) r;have s0:=lT F.size r.size;clear P;go_wp2_with (at_builtin;refine bQ rfl (.tmp 50) (.tmp 51) rfl w.heap.size _ d.length d rfl r0 _ A b.length c b rfl q0.1 (by omega) s0 ?_);intro b0 t0 u0 W0 c0 v0 w0 _ _ X0 Y0;obtain ⟨x0,Q⟩:=h.spent F O r w0;have y0:b0.length<=kaa:=by rw [c0,b7];omega
  have z0:=qI (qq x0 n _ t0 b0 u0 (by rw [eo];omega) (d8 v0) y0);go_wp2_with fail;refine z0.mono ?_;rintro e Z0 ⟨rfl,d0,A0⟩;go_wp2_with fail;go_ret;rw [M];refine ⟨rfl,?_,aq Q A0⟩;rw [c0] at d0;exact d0
 | false=>
 have M:Hid (aF D n b=(5,(spR D).2)):=by
  exact z262
 rw [hs] at q;have N:=qI q;clear q hs HF;go_wp2_with fail;refine N.mono ?_;rintro e p0 ⟨rfl,O,r⟩;obtain ⟨B0,Q⟩:=h.spent F O r (bR _ _);go_wp2_with fail;go_ret;rw [M];exact ⟨rfl,B0,Q⟩
end
section
variable {w w':World} {g:Nat} {D:Dk}
theorem IY (h:Rdk w g D) (f:OkW D) (a b) (ha:a.size<=maxLen) (e0:b.size<=maxLen):
  Calls an 202 #[.pointer (some g),.string a,.string b] w (fF w g (bx D a b)):=by
 have A0:=f.len;have O:=qI (hI a w ha);have P:=qI (hI b w e0);go_in;go_wp2_with fail;refine O.mono ?_;rintro e i ⟨rfl,m⟩;obtain rfl:=m.symm;clear O;cases t:ab a with
 | false=>
  have HF:Hid (bx D a b=(1,D)):=if_pos (.inl t);clear t;exact z45
 | true=>
 have B0:=qw t;have Q:=qI t;clear t;go_wp2_with fail;refine P.mono ?_;rintro e i ⟨rfl,m⟩;obtain rfl:=m.symm;clear P;cases u:ab b with
 | false=>
  have HF:Hid (bx D a b=(1,D)):=if_pos (.inr u);clear u;exact z45
 | true=>
 have C0:=qw u;have C:bx D a b=if bK D a≠0 then (bK D a,D) else cy D (fC D a b) (ag (am D.l a) b ((aa D.l a).getD [])):=if_neg (by rw [Q,u];rintro (h | h)<;>cases h);clear u Q;have E:=qI (qt h a ha qO);obtain ⟨j,x⟩:=gH (bK D a);rw [<-x] at E C;have y:=qI C;clear C;go_wp2_with fail;refine E.mono ?_;rintro e i ⟨f0,rfl,m⟩;have z:Below w w i:=by rw [m];exact (bR _ _).drewN' f0
 have c:=h.below z;clear m E;by_cases n:j=0
 case neg=>
  have HF:Hid (bx D a b=(j,D)):=by unfold Hid;rw [y,if_pos n]
  have D0:=beq_eq_false_iff_ne.2 n;clear n y x;go_wp2_with fail;go_ret;rw [HF];exact ⟨rfl,c,ax z _⟩
 obtain ⟨_,_,o,q⟩:=iq (x.symm.trans n);obtain ⟨d,F⟩:=gX (frD D);have v:Hid (bx D a b=if (aa D.l b).isSome=false/\d<(b.size:Int)-a.size/\a.size<b.size then (4,D) else aW D (ag (am D.l a) b o)):=by
  unfold Hid;rw [y,if_neg (by simp [n]),q,F];unfold cy fC;cases aa D.l b with
  | none=>
   by_cases c:0<(b.size:Int)-a.size/\frD D<(b.size:Int)-a.size
   ·rw [if_pos c,if_pos ⟨rfl,c.2,qO⟩]
   rw [if_neg c,if_neg (fun h=>c ⟨qO,h.2.1⟩)];rfl
  | some E0=>rw [if_neg (by simp),if_neg (by simp)];rfl
 have g0:=qI (f.small' q);have h0:Hid (aU (spR D).2 a=(o,0)):=by unfold Hid aU;rw [if_neg (by rw [f.named q];decide),eo,q]
 have i0:Hid (aa D.l a=some o):=q;have G:=fun (j0:World) (k0:Rdk j0 g D)=>mz k0 ⟨f.cap0,f.cap1⟩ qO;have I:=gi c b qO;obtain ⟨R,S⟩:=gX ((aa D.l b).isSome);rw [<-S] at I v;rw [<-F] at G;have HFr:=qI G;have T:=qI I;have F0:=qiJ (b.size-a.size);subst n;clear x y q F G I S;go_upto_region 6 with (fail);go_cut [44] (fun l0 U=> ∃j:Bool,l0= .bool j/\Hid (j=true↔R=false/\d<(b.size:Int)-a.size/\a.size<b.size)/\Rdk U g D/\Below i i U)
 case first=>
  go_wp2_with fail;refine T.mono ?_;rintro e m0 ⟨n0,rfl,V⟩;have bq2:Below i i m0:=by rw [V];exact (bR _ _).drewN' n0
  have h2:=c.below bq2;clear V;cases R with
  | true=>
   go_wp2_with fail;go_meet;exact ⟨false,rfl,⟨fun h=>(by cases h),fun h=>(by cases h.1)⟩,h2,bq2⟩
  | false=>
  by_cases k:d<(b.size:Int)-a.size
  ·have o0:decide ((b.size:Int)-a.size>d)=true:=dT k;by_cases r:a.size<b.size
   ·have p0:decide (a.size<b.size)=true:=dT r;have H:Hid (d<(b.size:Int)-a.size/\a.size<b.size):=⟨k,r⟩;clear k r;go_wp2_with fail;refine (HFr.out _ h2).mono ?_;rintro e w3 ⟨rfl,hD2,b2⟩;go_wp2_with fail;go_meet;exact ⟨true,rfl,⟨fun _=>⟨by simp,H.out⟩,fun _=>rfl⟩,hD2,bq2.next b2⟩
   have p0:decide (a.size<b.size)=false:=qF r;have H:Hid (¬(d<(b.size:Int)-a.size/\a.size<b.size)):=fun h=>r h.2;clear k r;exact z255
  have o0:decide ((b.size:Int)-a.size>d)=false:=qF k;have H:Hid (¬(d<(b.size:Int)-a.size/\a.size<b.size)):=fun h=>k h.1;clear k;exact z255
 case rest=>
 obtain ⟨j,rfl,A,hD2,b2⟩:=hcut;have J:w.grownBy wc (some g):=ax (z.trans (b2.mono z.size)) _;clear T;cases j with
 | true=>
  have HF:Hid (bx D a b=(4,D)):=v.out.trans (if_pos (A.1 rfl));clear v A;go_wp2_with fail;go_ret;rw [HF];exact ⟨rfl,hD2,J⟩
 | false=>
 have HF:Hid (bx D a b=aW D (ag (am D.l a) b o)):=v.out.trans (if_neg fun h=>by cases A.2 h);have s:=qu hD2 f;clear v A;cases hs:(spR D).1 with
 | true=>
  have K:Hid (bx D a b=(0,{ (spR D).2 with l:=ag (am (spR D).2.l a) b o })):=by
   unfold Hid;rw [HF,ki,if_pos hs,eo]
  rw [hs] at s;have L:=qI s;clear s hs HF;go_wp2_with fail;refine L.mono ?_;rintro e w3 ⟨rfl,B,M⟩;have W:=qI (jA B a ha (by rw [eo];omega) (by rw [eo];intro G0 q0;exact f.small' q0));rw [h0] at W;go_wp2_with fail;refine W.mono ?_;rintro e H0 ⟨N,r0,s0,X,rfl,t0,Y⟩;have Z:Hid (N=o):=X;clear X;have u0:N.length<=kaa:=by rw [Z];exact g0.out
  have a0:=B.below Y;have v0:=qI (xI a0 a (by rw [eo];omega) (by rw [eo,i0];rfl));go_wp2_with fail;refine v0.mono ?_;rintro e I0 ⟨rfl,w0,b0⟩;obtain ⟨J0,K0,L0,c0,_⟩:=id a0;have x0:=aE t0 c0 (by decide) b0;clear c0;have y0:=qI (qq w0 b _ r0 N s0 (by rw [eo];show (am D.l a).length+1<=_;have c:=JO D.l a;omega) (d8 x0) u0);go_wp2_with fail;refine y0.mono ?_;rintro e M0 ⟨rfl,d0,z0⟩;go_wp2_with fail;go_ret;rw [K];refine ⟨rfl,?_,aq J (aq M (aq (ax Y _) (aq b0 z0)))⟩;rw [Z] at d0;exact d0
 | false=>
 have K:Hid (bx D a b=(5,(spR D).2)):=by
  exact z262
 rw [hs] at s;have L:=qI s;clear s hs HF;go_wp2_with fail;refine L.mono ?_;rintro e w3 ⟨rfl,B,M⟩;go_wp2_with fail;go_ret;rw [K];exact ⟨rfl,B,aq J M⟩
end
def JP (w:World) (d:List Fil) (e:Ending) (w':World):Prop:=
 ∃(a:List FilA) (b:OA) (c:Nat),Hid (a.map FilA.f=d)/\e= .returned (.slice b a c)/\w'.ownsRow w 110 2 (.slice b a c) a (fc a)/\Fls8 w' 0 a/\Below w w w'
def JQ (D:Dk) (w:World) (q i:Value) (wr:World):Prop:=
 ∃(a:Nat) (ys:List FilA) (b:OA) (c:Nat),q= .slice b ys c/\i= .int .i64 a/\a<=D.l/\Hid (ys.map FilA.f=D.l.take a)/\ys=a/\wr.ownsRow w 110 2 (.slice b ys c) ys (fc ys)/\Fls8 wr 0 ys/\Below w w wr
section
variable {w:World} {g:Nat} {D:Dk}
theorem xB (h:Rdk w g D) (M:OkL D):Calls an 35 #[.pointer (some g)] w (JP w D.l):=by
 have G0:=M.len;have N:=M.small;have O:=h.lt;obtain ⟨d,H0,b0,c0,P,d0,e0,f0,B,I0,J0,Q,R⟩:=h.row;have g0:D.l.length=d:=by rw [<-R,g7]
 have K0:D.l.length<=d:=qO;have L0:d.length<=D.l:=qO;clear g0;go_in;go_wp2_with fail;go_loopw [3,4] (fun q i wr=>JQ D w q i wr) (fun _ i _=>d-(intOf i).toNat)
 case atStart=>exact ⟨0,[],none,0,rfl,rfl,zL,by simp [Hid],rfl,j9 _ _ _ _,fun o r=>(m9 r).elim,bR _ _⟩
 case round=>
  obtain ⟨a,e,h0,i0,rfl,rfl,M0,j,S,C,T,k⟩:=hrel;have j0:=k.size;have N0:=(k.cell (p:=⟨g,1,none⟩) O).trans P;by_cases k0:a<d
  ·have O0:=ltI a d.length;have P0:=zeI a;obtain ⟨o,r⟩: ∃o,d[a]?=some o:=⟨d[a],gE k0⟩;have E:=qr R.out r;have U:=g8 r;have F:D.l.take (a+1)=D.l.take a++[(o.n,o.b)]:=by rw [t7,E];rfl
   have l0:=B.belowW k (lR _);obtain ⟨c,s,rfl,G,H⟩:=B.at_ qO;have V:w.cell? ⟨c,s+a*2,none⟩=_:=H _ _ (di r).1;have W:w.cell? ⟨c,s+a*2+1,none⟩=_:=H _ _ (di r).2;have m0:=(k.cell (p:=⟨c,s+a*2,none⟩) G).trans V;have n0:=(k.cell (p:=⟨c,s+a*2+1,none⟩) G).trans W;have o0:=N _ (g8 E);obtain ⟨X,Q0,R0⟩:=(Q.below k) o U;have S0:=qiJ (a+1);have T0:e.length<=kac:=qO;obtain ⟨m,I,Y,Z⟩:=o;simp only at m0 n0 o0 X F;have J:Below wr wr (wr.drew.alloc (.cells #[] 5)):=(bR wr wr).drew.alloc (lR _) _;have p0:=(X.below J).1;have q0:=eY wr.drew;have r0:g<wr:=qO;have s0:c<wr:=qO;have t0:=qI F;have u0:=qI S;clear r E U H l0 F B S V W N c0 P d0 e0 f0 Q;go_wp2_with fail;go_region_held3 (fun y=>y.cell? ⟨g,1,none⟩=some (.slice (some ⟨c,s,none⟩) d b0)/\y.cell? ⟨c,s+a*2,none⟩=some (.string m)/\y.cell? ⟨c,s+a*2+1,none⟩=some (.slice Y I Z)) (first | go_keep | (go_split_ands;refine ⟨?_,?_,?_⟩<;>first | (rw [z2.cell (p:=⟨c,_,none⟩) G];assumption) | (rw [z2.cell (p:=⟨g,_,none⟩) O];assumption) | (rw [x.cell (p:=⟨c,_,none⟩) s0];assumption) | (rw [x.cell (p:=⟨g,_,none⟩) r0];assumption)))
    (first
     | (refine nT (by rfl) (.tmp 23) (.tmp 31) (by rfl) wr _ 0 [] (by rfl) q0 _ Y I Z I (by rfl) p0 qO (by simp) ?_;intro t u v z v0 w0 x U0 V0 x0 y0)
     | (refine ft (by rfl) (.tmp 14) (.tmp 34) 22 110 _ 2 40 (by rfl) N7 xF rfl (by decide) w _ e (fc e) (by rfl) (E7 (az C (J.trans x)) _) (z.heap.size+1) _ 1 1 (fc [⟨m,t,u,v⟩]) (by rfl) (Rd.fileT z 110 ⟨m,t,u,v⟩) (iT _) (by unfold maxLen;omega) qO (by have:=x.size;simp at this ⊢; omega) ?_;intro z0 A0 y B0 z2 C0 W0 z5))
   have A:=J.trans x;have X0:=A.size;have K:=bAl z (.cells #[m,.slice u t v] 110);have D0:Fls8 (z.alloc (.cells #[m,.slice u t v] 110)) 0 (e++[⟨m,t,u,v⟩]):=by
    intro E0 j;rcases l7.1 j with j | j
    ·exact ((T.below A).below K) E0 j
    rw [i7.1 j];exact ⟨(J7 (s7 w0)).below K,x0,y0⟩
   have F0:=D0.keep C0 (K9 (E7 (az C A) _) (by decide) (zL));have L:(e++[(⟨m,t,u,v⟩:FilA)]).length=e+1:=by rw [b7];rfl
   go_wp2_with fail;refine ⟨⟨a+1,e++[⟨m,t,u,v⟩],z0,A0,by rw [L],by go_num,qO,?_,by rw [L,u0],?_,F0,k.trans ((A.mono j0).trans ((K.mono qO).trans z2))⟩,by simp [intOf];omega⟩
   ·unfold Hid;rw [t0,<-j,p8,v0];rfl
   rw [L,iS];exact B0
  have a0:a=D.l:=qO;have HA:Hid (e.map FilA.f=D.l):=qI (by rw [j,a0,y7]);clear a0;go_wp2_with fail;go_ret;exact ⟨e,h0,i0,HA,rfl,C,T,k⟩
end
