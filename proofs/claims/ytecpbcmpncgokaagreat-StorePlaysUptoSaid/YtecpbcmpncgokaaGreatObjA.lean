/- Walks and laws. Conditions: as stated. -/
import Derived.Test.YtecpbcmpncgokaaGreatCodeA
import Derived.Test.YtecpbcmpncgokaaGreatDisk4
set_option maxRecDepth 99999
set_option maxHeartbeats 25600000
set_option linter.all false
open Go.Instr renaming typeAssert->PP,lookup->No
open Go.Value renaming string->th,slice->it
open List renaming range->PO
open Go.Proofs.Tryz renaming prog->an
open Go.RowKit Go.Dol
namespace Go.Dol
structure Ent where
 name:BA
 dir:Bool
 id:BA
structure Obj where
 kind:Int
 data:LU
 ents:List Ent
 tree:BA
 pars:List BA
 target:BA
 name:BA
 who:BA
 stamp:Int
 text:BA
def Obj.zero:Obj:=⟨0,[],[],⟨#[]⟩,[],⟨#[]⟩,⟨#[]⟩,⟨#[]⟩,0,⟨#[]⟩⟩
def dc (s:BA):Bool:=!s.data.toList.contains 0&& !s.data.toList.contains 47&&decide (1<=s.size)&&decide (s.size<=100)&&(!(s.toList==[46])&& !(s.toList==[46,46]))
def lr (ge:BA->BA->Bool) (l:List Ent) (nm:BA):Nat->Bool
 | 0=>true
 | j+1=>match l[j]? with | none=>true | some p=> !ge p.name nm
def ff (ge:BA->BA->Bool) (l:List Ent) (i:Nat):Bool:=
 match l[i]? with
 | none=>true
 | some a=>dc a.name&&decide (a.id.size=32)&&lr ge l a.name i
def eO (ge:BA->BA->Bool) (l:List Ent) (k:Nat):Prop:=∀ a,a<k->ff ge l a=true
def cT (ge:BA->BA->Bool) (l:List Ent):Bool:=(PO l).all (ff ge l)&&decide (l.length<=4096)
def cK (l:List BA) (p:BA):Bool:=l.any fun a=>a.toList==p.toList
def eP (l:List BA) (i:Nat):Bool:=
 match l[i]? with
 | none=>true
 | some a=>decide (a.size=32)&& !cK (l.take i) a
def fG (l:List BA) (k:Nat):Prop:=∀ a,a<k->eP l a=true
def cU (l:List BA):Bool:=(PO l).all (eP l)&&decide (l.length<=4)
def aG (b:BA) (a:Int) (text:BA):Bool:=decide (b.size<=1000)&&decide (text.size<=1000)&&decide (0<=a)&&decide (a<=kaf)
def ex (a:Obj):Bool:=decide (a.who.size=0)&&decide (a.text.size=0)&&decide (a.stamp=0)
def dp (a:Obj):Bool:=decide (a.tree.size=0)&&decide (a.pars.length=0)
def de (a:Obj):Bool:=decide (a.target.size=0)&&decide (a.name.size=0)
def dq (a:Obj):Bool:=decide (a.data.length=0)
def dr (a:Obj):Bool:=decide (a.ents.length=0)
def ay (ge:BA->BA->Bool) (a:Obj):Bool:=
 if a.kind=1 then decide (a.data.length<=kad)&&(dr a&&dp a&&de a&&ex a)
 else if a.kind=2 then cT ge a.ents&&(dq a&&dp a&&de a&&ex a)
 else if a.kind=3 then decide (a.tree.size=32)&&cU a.pars&&aG a.who a.stamp a.text&&(dq a&&dr a&&de a)
 else if a.kind=4 then decide (a.target.size=32)&&decide (1<=a.name.size)&&decide (a.name.size<=200)&&aG a.who a.stamp a.text&&(dq a&&dr a&&dp a)
 else false
def tx (s:BA):LU:=text s.data.toList
def aY (a:Ent):LU:=tx a.name++((if a.dir then 1 else 0)::a.id.data.toList)
def fg (l:List Ent):LU:=num l.length++l.flatMap aY
def gj (l:List BA):LU:=num l.length++l.flatMap fun a=>a.data.toList
def gk (a:Obj):LU:=tx a.who++(num (aj a.stamp)++tx a.text)
def ct (a:Obj):LU:=
 UInt8.ofNat a.kind.toNat::
  (if a.kind=1 then a.data
  else if a.kind=2 then fg a.ents
  else if a.kind=3 then a.tree.data.toList++(gj a.pars++gk a)
  else a.target.data.toList++(tx a.name++gk a))
def bf (n:Nat) (r:LU):Option (LU×LU):=if r<n then none else some (r.take n,r.drop n)
def bM (r:LU):Option (LU×LU):=bh r 1048576
def ds (r:LU):Option (Ent×LU):=
 match bM r with
 | none=>none
 | some (a,b)=>match bf 1 b with
  | none=>none
  | some (c,d)=>match bf 32 d with
   | none=>none
   | some (e,f)=>some (⟨⟨a.toArray⟩,decide (c=[1]),⟨e.toArray⟩⟩,f)
def iw:Nat->LU->Option (List Ent×LU)
 | 0,r=>some ([],r)
 | n+1,r=>match ds r with
  | none=>none
  | some (a,b)=>match iw n b with
   | none=>none
   | some (l,c)=>some (a::l,c)
def ix:Nat->LU->Option (List BA×LU)
 | 0,r=>some ([],r)
 | n+1,r=>match bf 32 r with
  | none=>none
  | some (p,a)=>match ix n a with
   | none=>none
   | some (l,b)=>some (⟨p.toArray⟩::l,b)
def gl (r:LU):Option (BA×Int×BA):=
 match bM r with
 | none=>none
 | some (a,b)=>match ad b with
  | none=>none
  | some (c,d)=>match bM d with
   | none=>none
   | some (e,f)=>some (⟨a.toArray⟩,(c:Int),⟨e.toArray⟩)
def jB (r:LU):Option Obj:=
 match ad r with
 | none=>none
 | some (a,b)=>match iw a b with
  | none=>none
  | some (c,_)=>some { Obj.zero with kind:=2,ents:=c }
def jC (r:LU):Option Obj:=
 match bf 32 r with
 | none=>none
 | some (a,b)=>match ad b with
  | none=>none
  | some (c,d)=>match ix c d with
   | none=>none
   | some (e,f)=>match gl f with
    | none=>none
    | some (g,h,tx)=>some { Obj.zero with kind:=3,tree:=⟨a.toArray⟩,pars:=e,who:=g,stamp:=h,text:=tx }
def jD (r:LU):Option Obj:=
 match bf 32 r with
 | none=>none
 | some (a,b)=>match bM b with
  | none=>none
  | some (c,d)=>match gl d with
   | none=>none
   | some (e,f,tx)=>some { Obj.zero with kind:=4,target:=⟨a.toArray⟩,name:=⟨c.toArray⟩,who:=e,stamp:=f,text:=tx }
def cu (k:UInt8) (r:LU):Option Obj:=if k=1 then some { Obj.zero with kind:=1,data:=r } else if k=2 then jB r else if k=3 then jC r else if k=4 then jD r else none
def jE (b:LU):Option Obj:=
 match b with
 | []=>none
 | a::r=>cu a r
theorem tP (r):cu 1 r=some { Obj.zero with kind:=1,data:=r }:=rfl
theorem lu (r):cu 2 r=jB r:=rfl
theorem oH (r):cu 3 r=jC r:=rfl
theorem oI (r):cu 4 r=jD r:=rfl
def aZ (ge:BA->BA->Bool) (b:LU):Option Obj:=
 match jE b with
 | none=>none
 | some a=>if ay ge a=true/\ct a=b then some a else none
theorem fH (s):(⟨s.data.toList.toArray⟩:BA)=s:=by cases s;simp
theorem cV {s:BA} (a:s.size=0):s=⟨#[]⟩:=by
 have b:=nZ (by rw [aC];exact a);rw [<-fH s,b]
theorem jF {n a r} (b:a.length=n):bf n (a++r)=some (a,r):=by
 unfold bf;rw [if_neg (by rw [b7];omega),List.take_left' b,List.drop_left' b]
theorem lv {s r} (a:s.size<=1048576):bM (tx s++r)=some (s.data.toList,r):=by
 unfold bM tx;exact nl _ _ _ (by rw [aC];omega) (by rw [aC];unfold av;omega)
theorem tQ {s} (a:dc s=true):1<=s.size/\s.size<=100:=by
 unfold dc at a;simp only [m8,decide_eq_true_eq] at a;exact ⟨a.1.1.2,a.1.2⟩
theorem Dj {e r} (a:e.name.size<=1048576) (b:e.id.size=32):ds (aY e++r)=some (e,r):=by
 unfold ds aY;rw [g9,lv a];simp only;have c:((if e.dir then 1 else 0)::e.id.data.toList)++r=[if e.dir then 1 else 0]++(e.id.data.toList++r):=rfl;rw [c,jF (by rfl)];simp only;rw [jF (by rw [aC];exact b)];simp only;rw [fH,fH];congr 2;cases e with
 | mk f d g=>cases d<;>rfl
theorem tR: ∀(l:List Ent) (r:LU),(∀a∈l,a.name.size<=1048576/\a.id.size=32)->iw l.length (l.flatMap aY++r)=some (l,r)
 | [],r,_=>rfl
 | a::l,r,b=>by
  rw [List.length_cons,iw,List.flatMap_cons,g9,Dj (b a (by simp)).1 (b a (by simp)).2];simp only;rw [tR l r fun x c=>b x (by simp [c])]
theorem tS: ∀(l:List BA) (r:LU),(∀p∈l,p.size=32)->ix l.length (l.flatMap (fun p=>p.data.toList)++r)=some (l,r)
 | [],r,_=>rfl
 | p::l,r,a=>by
  rw [List.length_cons,ix,List.flatMap_cons,g9,jF (by rw [aC];exact a p (by simp))];simp only;rw [tS l r fun x b=>a x (by simp [b]),fH]
theorem iy {who text stamp} (a:aG who stamp text=true):who.size<=1000/\text.size<=1000/\0<=stamp/\stamp<=1099511627776:=by
 unfold aG at a;simp only [m8,decide_eq_true_eq] at a;exact ⟨a.1.1.1,a.1.1.2,a.1.2,a.2⟩
theorem tT {o} (b:aG o.who o.stamp o.text=true):gl (gk o)=some (o.who,o.stamp,o.text):=by
 obtain ⟨c,d,e,f⟩:=iy b;unfold gl gk;rw [lv qO];simp only;rw [dV _ _ (eE _)];simp only;have a:=lv (s:=o.text) (r:=[]) qO;rw [List.append_nil] at a;rw [a];simp only;rw [fH,fH];congr 2;rw [show ((aj o.stamp:Nat):Int)=o.stamp by unfold aj;omega]
theorem gm {ge l} (h:cT ge l=true):eO ge l l.length/\l.length<=4096:=by
 unfold cT at h;exact z150
theorem tU {ge l} (a:eO ge l l.length):cT ge l=decide (l.length<=4096):=by
 unfold cT;rw [show (PO l).all (ff ge l)=true from Nu.2 fun b c=>a b (Nq.1 c),Bool.true_and]
theorem iz {ge l i} (hi:i<l.length) (h:ff ge l i=false):cT ge l=false:=by
 unfold cT;have a:(PO l).all (ff ge l)=false:=by
  exact z165
 rw [a,Bool.false_and]
theorem tV {ge l} (c:eO ge l l.length): ∀a∈l,a.name.size<=1048576/\a.id.size=32:=by
 intro a d;obtain ⟨e,b,rfl⟩:=I8 d;have:=c e b;unfold ff at this;rw [gE b] at this;simp only [m8,decide_eq_true_eq] at this;have f:=tQ this.1.1;exact ⟨qO,this.1.2⟩
theorem iA {l} (h:cU l=true):fG l l.length/\l.length<=4:=by
 unfold cU at h;exact z150
theorem tW {l} (a:fG l l.length):cU l=decide (l.length<=4):=by
 unfold cU;rw [show (PO l).all (eP l)=true from Nu.2 fun b c=>a b (Nq.1 c),Bool.true_and]
theorem lw {l i} (hi:i<l.length) (h:eP l i=false):cU l=false:=by
 unfold cU;have a:(PO l).all (eP l)=false:=by
  exact z165
 rw [a,Bool.false_and]
theorem tX {l} (b:fG l l.length): ∀p∈l,p.size=32:=by
 intro p c;obtain ⟨d,a,rfl⟩:=I8 c;have:=b d a;unfold eP at this;rw [gE a] at this;simp only [m8,decide_eq_true_eq] at this;exact this.1
theorem tY {o} (a:ex o=true):o.who=⟨#[]⟩/\o.text=⟨#[]⟩/\o.stamp=0:=by
 unfold ex at a;simp only [m8,decide_eq_true_eq] at a;exact ⟨cV a.1.1,cV a.1.2,a.2⟩
theorem oJ {o} (a:dp o=true):o.tree=⟨#[]⟩/\o.pars=[]:=by
 unfold dp at a;simp only [m8,decide_eq_true_eq] at a;exact ⟨cV a.1,nZ a.2⟩
theorem oK {o} (a:de o=true):o.target=⟨#[]⟩/\o.name=⟨#[]⟩:=by
 unfold de at a;simp only [m8,decide_eq_true_eq] at a;exact ⟨cV a.1,cV a.2⟩
theorem oL {o} (a:dq o=true):o.data=[]:=nZ (of_decide_eq_true a)
theorem oM {o} (a:dr o=true):o.ents=[]:=nZ (of_decide_eq_true a)
theorem Dl {ge o} (a:ay ge o=true):jE (ct o)=some o:=by
 unfold ay at a;unfold ct;by_cases g:o.kind=1
 ·rw [if_pos g] at a;simp only [m8] at a;obtain ⟨i,j,k⟩:=tY a.2.2;obtain ⟨b,c⟩:=oK a.2.1.2;obtain ⟨d,e⟩:=oJ a.2.1.1.2;have l:=oM a.2.1.1.1;obtain ⟨n,p,q,r,s,t,u,v,w,x⟩:=o;simp only at g i j k b c d e l;subst g i j k b c d e l;rfl
 rw [if_neg g] at a;by_cases f:o.kind=2
 ·rw [if_pos f] at a;simp only [m8] at a;obtain ⟨i,j,k⟩:=tY a.2.2;obtain ⟨b,c⟩:=oK a.2.1.2;obtain ⟨d,e⟩:=oJ a.2.1.1.2;have l:=oL a.2.1.1.1;obtain ⟨y,A⟩:=gm a.1;have z:=tR o.ents [] (tV y);rw [List.append_nil] at z;rw [if_neg g,if_pos f,f];show cu 2 (fg o.ents)=_;rw [lu];unfold fg;unfold jB;rw [dV _ _ (by unfold av;omega)];simp only;rw [z];obtain ⟨n,p,q,r,s,t,u,v,w,x⟩:=o;simp only at f i j k b c d e l;subst f i j k b c d e l;rfl
 rw [if_neg f] at a;by_cases h:o.kind=3
 ·rw [if_pos h] at a;simp only [m8,decide_eq_true_eq] at a;obtain ⟨b,c⟩:=oK a.2.2;have d:=oM a.2.1.2;have e:=oL a.2.1.1;obtain ⟨y,A⟩:=iA a.1.1.2;rw [if_neg g,if_neg f,if_pos h,h];show cu 3 (o.tree.data.toList++(gj o.pars++gk o))=_;rw [oH];unfold jC;rw [jF (by rw [aC];exact a.1.1.1)];simp only;unfold gj;rw [g9,dV _ _ (by unfold av;omega)];simp only;rw [tS _ _ (tX y)];simp only;rw [tT a.1.2,fH];obtain ⟨n,p,q,r,s,t,u,v,w,x⟩:=o;simp only at h b c d e;subst h b c d e;rfl
 rw [if_neg h] at a;by_cases m:o.kind=4
 ·rw [if_pos m] at a;simp only [m8,decide_eq_true_eq] at a;obtain ⟨b,c⟩:=oJ a.2.2;have d:=oM a.2.1.2;have e:=oL a.2.1.1;rw [if_neg g,if_neg f,if_neg h,m];show cu 4 (o.target.data.toList++(tx o.name++gk o))=_;rw [oI];unfold jD;rw [jF (by rw [aC];exact a.1.1.1.1)];simp only;rw [lv (by have:=a.1.1.2;omega)];simp only;rw [tT a.1.2,fH,fH];obtain ⟨n,p,q,r,s,t,u,v,w,x⟩:=o;simp only at m b c d e;subst m b c d e;rfl
 rw [if_neg m] at a;cases a
theorem Dm {ge o} (a:ay ge o=true):aZ ge (ct o)=some o:=by
 unfold aZ;rw [Dl a];exact if_pos ⟨a,rfl⟩
theorem tZ {ge b o} (a:aZ ge b=some o):ay ge o=true/\ct o=b:=by
 unfold aZ at a;split at a
 ·cases a
 split at a
 ·rename_i c;injection a with a;subst a;exact c
 cases a
def pc (l:List BA):List Value:=l.map th
def ec (l:List Ent):List Value:=l.flatMap fun a=>[.string a.name,.bool a.dir,.string a.id]
theorem ub (l):(pc l).length=l.length:=by simp [pc]
theorem uc (l):(ec l).length=l.length*3:=by
 induction l with
 | nil=>rfl
 | cons b l a=>unfold ec at *; simp only [List.flatMap_cons,b7,List.length_cons,List.length_nil,a];omega
theorem eQ {l k} (a:k<l.length):(pc l)[k]?=some (.string l[k]):=by simp [pc,gE a]
theorem eR: ∀{l:List Ent} {k:Nat} (a:k<l),(ec l)[k*3]?=some (.string l[k].name)/\(ec l)[k*3+1]?=some (.bool l[k].dir)/\(ec l)[k*3+2]?=some (.string l[k].id)
 | [],k,a=>by simp at a
 | b::l,0,a=>⟨rfl,rfl,rfl⟩
 | b::l,k+1,a=>by
  have:=eR (l:=l) (k:=k) (by simpa using a);have d: ∀c,(ec (b::l))[(k+1)*3+c]?=(ec l)[k*3+c]?:=fun c=>by
   show ([.string b.name,.bool b.dir,.string b.id]++ec l)[(k+1)*3+c]?=_;rw [G7 (by simp;omega)];congr 1;simp;omega
  have e:=d 0;have f:=d 1;have g:=d 2;rw [Oe,Oe] at e;rw [e,f,g];exact this
theorem fh {x y:BA} (a:x.toList=y.toList):x=y:=by
 rw [t8,t8] at a;exact WideShapes.bytes_inj a
def ey (l:List BA):List (Value×Value):=l.map fun a=>(th a,Value.int .i64 1)
theorem jH {l p}:cK l p=true↔p∈l:=by
 unfold cK;rw [List.any_eq_true];constructor
 ·rintro ⟨d,a,b⟩;rw [<-fh (beq_iff_eq.1 b)];exact a
 intro c;exact ⟨p,c,beq_iff_eq.2 rfl⟩
theorem jI {l p} (b:cK l p=false): ∀q∈ey l,q.1≠th p:=by
 intro q c a;obtain ⟨e,d,rfl⟩:=e9.1 c;injection a with a;subst a;rw [jH.2 d] at b;cases b
theorem uf {l p} (a:cK l p=true):(th p,Value.int .i64 1)∈ey l:=e9.2 ⟨p,jH.1 a,rfl⟩
theorem ug {l p v} (b:(th p,v)∈ey l):v= .int .i64 1:=by
 obtain ⟨c,d,a⟩:=e9.1 b;injection a with _ a;exact a.symm
theorem DA {l k p} (a:l[k]?=some p):eP l k=(decide (p.size=32)&& !cK (l.take k) p):=by
 unfold eP;rw [a]
theorem DB {l k} (b:fG l k) (c:eP l k=true):fG l (k+1):=fun a e=>by
 by_cases d:a=k
 ·rw [d];exact c
 exact b a qO
def bG (l:List BA):LU:=l.flatMap fun a=>a.data.toList
theorem uj {l:List BA} {k} (a:k<l.length):bG (l.take (k+1))=bG (l.take k)++(l[k]).data.toList:=by
 rw [n9 a];simp only [bG,I9,List.flatMap_cons,List.flatMap_nil,List.append_nil]
theorem lD (l k):(bG (l.take k)).length<=(bG l).length:=by
 conv=>rhs;rw [<-r8 k l]
 simp only [bG,I9,b7];omega
theorem oO {l:List Ent} {k} (a:k<l.length):(l.take (k+1)).flatMap aY=(l.take k).flatMap aY++aY l[k]:=by
 rw [n9 a];simp only [I9,List.flatMap_cons,List.flatMap_nil,List.append_nil]
theorem DH (l:List Ent) (k):((l.take k).flatMap aY).length<=(l.flatMap aY).length:=by
 conv=>rhs;rw [<-r8 k l]
 simp only [I9,b7];omega
theorem uk {l:List Ent} {k} (a:k<l.length):((l.take k).flatMap aY).length+(aY l[k]).length<=(l.flatMap aY).length:=by
 have:=DH l (k+1);rw [oO a,b7] at this;exact this
theorem ul (e):e.name.size+1+e.id.size<=(aY e).length:=by
 unfold aY tx text;simp only [b7,List.length_cons,aC];omega
end Go.Dol
namespace Go.Proofs.YtecpbcmpncgokaaGreat
def iB (s:BA) (r:Bool):Prop:=r=(!s.data.toList.contains 0&& !s.data.toList.contains 47&&decide (1<=s.size)&&decide (s.size<=100)&&(!(s.toList==[46])&& !(s.toList==[46,46])))
theorem Dn (s w):Calls an 333 #[.string s] w fun d w'=>d= .returned (.bool (dc s))/\w=w':=by
 obtain ⟨e,i⟩:=gX (dc s);rw [<-i];have a:iB s e:=i;clear i;by_cases m:1<=s.size
 ·have o:=dtX ((1:Int)<=(s.size:Int));have q:(1:Int)<=(s.size:Int):=qO;by_cases n:s.size<=100
  ·have r:=dtX ((s.size:Int)<=100);have t:(s.size:Int)<=100:=qO;cases b:s.data.toList.contains 47 with
   | true=>
    have g:=nX b;obtain ⟨j,c⟩:=gX (Lib.indexByte s.data.toList 47);rw [<-c] at g;have k:=qI c;have HF:Hid (e=false):=by unfold Hid iB at *; rw [a,b];simp
    have u:=dfX (j<0);clear c b a;go_in;go_wp2_with (go_at_call 172;refine (gN s 47 47 rfl _).mono ?_;rintro d w' ⟨rfl,rfl⟩;rw [<-k]);go_ret;rw [HF];exact ⟨rfl,rfl⟩
   | false=>
   have g:=qI (nY b);cases f:s.data.toList.contains 0 with
   | true=>
    have l:=nX f;obtain ⟨j,c⟩:=gX (Lib.indexByte s.data.toList 0);rw [<-c] at l;have k:=qI c;have HF:Hid (e=false):=by unfold Hid iB at *; rw [a,f];simp
    have u:=dfX (j<0);clear c b f a;go_in;go_wp2_with (first
     | (go_at_call 172;refine (gN s 47 47 rfl _).mono ?_;rintro d w' ⟨rfl,rfl⟩;rw [g])
     | (go_at_call 172;refine (gN s 0 0 rfl _).mono ?_;rintro d w' ⟨rfl,rfl⟩;rw [<-k]))
    go_ret;rw [HF];exact ⟨rfl,rfl⟩
   | false=>
   have l:=qI (nY f);have HF:Hid (e=(!(s.toList==[46])&& !(s.toList==[46,46]))):=by unfold Hid iB at *; rw [a,b,f];simp [m,n]
   clear b f a;go_in;go_wp2_with (first
    | (go_at_call 172;refine (gN s 47 47 rfl _).mono ?_;rintro d w' ⟨rfl,rfl⟩;rw [g])
    | (go_at_call 172;refine (gN s 0 0 rfl _).mono ?_;rintro d w' ⟨rfl,rfl⟩;rw [l]))
   all_goals
    go_ret;rw [HF]
    first
     | exact ⟨rfl,rfl⟩
     | exact ⟨by simp [*],rfl⟩
  have r:=dfX ((s.size:Int)<=100);have t: ¬(s.size:Int)<=100:=qO;have HF:Hid (e=false):=by unfold Hid iB at *; rw [a,qF n];simp
  clear a;go_in;exact z36
 have o:=dfX ((1:Int)<=(s.size:Int));have q: ¬(1:Int)<=(s.size:Int):=qO;have HF:Hid (e=false):=by unfold Hid iB at *; rw [a,qF m];simp
 clear a;go_in;exact z36
theorem Do (s w):Calls an 334 #[.string s] w fun c w'=>c= .returned (.bool (decide (s.size=32)))/\w=w':=by
 by_cases a:s.size=32
 ·have d:((s.size:Int)==32)=true:=beq_iff_eq.2 qO;have b:=qI a;clear a;go_in;go_wp2_with fail;go_ret;exact ⟨by rw [dT b.out];rfl,rfl⟩
 have d:((s.size:Int)==32)=false:=beq_eq_false_iff_ne.2 qO;have b:=qI a;clear a;go_in;go_wp2_with fail;go_ret;exact ⟨by rw [qF b.out];rfl,rfl⟩
theorem ua (who stamp text w):Calls an 326 #[.agg #[.string who,.int .i64 stamp,.string text]] w fun e w'=>e= .returned (.bool (aG who stamp text))/\Below w.heap.size w w':=by
 have hbel:=bAl w (.cells #[who,stamp,text] 213);by_cases a:who.size<=1000
 ·have f:=dtX ((who.size:Int)<=1000);by_cases b:text.size<=1000
  ·have g:=dtX ((text.size:Int)<=1000);by_cases c:0<=stamp
   ·have i:=dtX (0<=stamp);by_cases d:stamp<=kaf
    ·have j:=dtX (stamp<=kaf);have HF:Hid (aG who stamp text=true):=by unfold Hid aG;simp [a,b,c,d]
     clear a b;exact z57
    have j:=dfX (stamp<=kaf);have HF:Hid (aG who stamp text=false):=by unfold Hid aG;simp [d]
    clear a b;exact z57
   have i:=dfX (0<=stamp);have HF:Hid (aG who stamp text=false):=by unfold Hid aG;simp [c]
   clear a b;exact z57
  have g:=dfX ((text.size:Int)<=1000);have HF:Hid (aG who stamp text=false):=by unfold Hid aG;simp [b]
  clear a b;exact z57
 have f:=dfX ((who.size:Int)<=1000);have HF:Hid (aG who stamp text=false):=by unfold Hid aG;simp [a]
 clear a;exact z57
def lx (p:Prop) (w:World) (b:Ending) (w':World):Prop:=∃ (a:Bool) (c:Nat),b= .returned a/\(a=true↔p)/\w'=w.drewN c
theorem oN (w x0 y0 x2 y2 x1 y1):(binOp .neq 177 (.agg #[.string x0,.bool x1,.string x2]) (.agg #[.string y0,.bool y1,.string y2])).run an w= .ok (.bool (!(x0.toList==y0.toList&&(x1==y1&&x2.toList==y2.toList)))) w:=by
 go_simp;by_cases a:x0.toList=y0.toList<;>by_cases b:x1=y1<;>by_cases c:x2.toList=y2.toList<;>simp [a,b,c]
theorem Dp {x0 b x2 c:BA} {x1 d:Bool} (e: ¬(x0=b/\x1=d/\x2=c)):(!(x0.toList==b.toList&&(x1==d&&x2.toList==c.toList)))=true:=by
 rw [Bool.not_eq_true'];rw [J8];intro a;simp only [m8,beq_iff_eq] at a;exact e ⟨fh a.1,a.2.1,fh a.2.2⟩
def Dq (a b:LU) (w:World) (i:Value) (wr:World):Prop:=
 ∃c e:Nat,i= .int .i64 c/\c<=a.length/\Hid (∀d,d<c->a[d]?=b[d]?)/\Hid (wr=w.drewN e)
theorem Dr (A a c A2 b f w B B2) (y:Rd w B 1 A a.length (bc a)) (z:Rd w B2 1 A2 b.length (bc b)) (ha:a.length<=kaa) (G:b.length<=kaa):
  Calls an 161 #[.slice A a c,.slice A2 b f] w (lx (a=b) w):=by
 by_cases hl:a.length=b
 ·have d0:((a:Int)!=b)=false:=by simp;omega
  have HL:=qI hl;have H:a.length<=b:=qO;clear hl;go_in;go_wp2_with fail;go_loopw [13] (fun i wr=>Dq a b w i wr) (fun i _=>a-(intOf i).toNat)
  case atStart=>exact ⟨0,0,rfl,zL,fun j hj=>by omega,rfl⟩
  case round=>
   obtain ⟨k,q,rfl,I,hs,hwr⟩:=hrel;have C:Rd wr B 1 A a (bc a):=by rw [hwr];exact y.drewN q
   have D:Rd wr B2 1 A2 b (bc b):=by rw [hwr];exact z.drewN q
   have J:=qiJ (k+1);by_cases n:k<a
   ·have d1:=dtX ((k:Int)<a);have d1':=ltI k a.length;have K:=ltI k b.length;have L:=zeI k;have o:k<b:=qO;obtain ⟨M,N,rfl,O,r⟩:=C.at_ qO;obtain ⟨P,Q,rfl,R,s⟩:=D.at_ qO;have E:=r k _ (bu a k n);have f:=s k _ (bu b k o);have g:=qI (gE n);have l:=qI (gE o);obtain ⟨t,u⟩:=gX (a[k]);obtain ⟨v,x⟩:=gX (b[k]);rw [<-u] at E g;rw [<-x] at f l;clear u x r s;by_cases m:t=v
    ·subst m;have HS:Hid (∀j,j<k+1->a[j]?=b[j]?):=fun j hj=>by
      by_cases F:j=k
      ·rw [F,g,l]
      exact hs.out j qO
     exact z23
    have HN:Hid (¬a=b):=fun e=>by
     have d:=l.out;rw [<-e,g] at d;injection d with d;exact m d
    have S:((t.toNat:Int)!=v.toNat)=true:=bne_iff_ne.2 fun e=>m (C9.1 qO);exact z22
   exact z15
 exact z25
def Ds (a b:List BA) (w:World) (i:Value) (wr:World):Prop:=
 ∃c e:Nat,i= .int .i64 c/\c<=a.length/\Hid (∀d,d<c->a[d]?=b[d]?)/\Hid (wr=w.drewN e)
theorem Dt (A a c A2 b c2 w B B2) (hr:Rd w B 1 A a.length (pc a)) (hr2:Rd w B2 1 A2 b.length (pc b)) (ha:a.length<=kaa) (d:b.length<=kaa):
  Calls an 228 #[.slice A a c,.slice A2 b c2] w (lx (a=b) w):=by
 by_cases hl:a.length=b
 ·have d0:((a:Int)!=b)=false:=by simp;omega
  have HL:=qI hl;have f:a.length<=b:=qO;clear hl;go_in;go_wp2_with fail;go_loopw [13] (fun i wr=>Ds a b w i wr) (fun i _=>a-(intOf i).toNat)
  case atStart=>exact ⟨0,0,rfl,zL,fun j hj=>by omega,rfl⟩
  case round=>
   exact z217
 exact z25
def Du (a b:List BA) (w:World) (i:Value) (wr:World):Prop:=
 ∃c e:Nat,i= .int .i64 c/\c<=a.length/\Hid (∀d,d<c->a[d]?=b[d]?)/\Hid (wr=w.drewN e)
theorem jG (A a c A2 b c2 w B B2) (hr:Rd w B 1 A a.length (pc a)) (hr2:Rd w B2 1 A2 b.length (pc b)) (ha:a.length<=kaa) (d:b.length<=kaa):
  Calls an 20 #[.slice A a c,.slice A2 b c2] w (lx (a=b) w):=by
 by_cases hl:a.length=b
 ·have d0:((a:Int)!=b)=false:=by simp;omega
  have HL:=qI hl;have f:a.length<=b:=qO;clear hl;go_in;go_wp2_with fail;go_loopw [5] (fun i wr=>Du a b w i wr) (fun i _=>a-(intOf i).toNat)
  case atStart=>exact ⟨0,0,rfl,zL,fun j hj=>by omega,rfl⟩
  case round=>
   exact z217
 exact z25
def Dv (a b:List Ent) (w:World) (i:Value) (wr:World):Prop:=
 ∃c e:Nat,i= .int .i64 c/\c<=a.length/\Hid (∀d,d<c->a[d]?=b[d]?)/\Hid (wr=w.drewN e)
theorem Dw (A a c A2 b d w B B2) (V:Rd w B 3 A a.length (ec a)) (W:Rd w B2 3 A2 b.length (ec b)) (ha:a.length<=kaa) (h0:b.length<=kaa):
  Calls an 227 #[.slice A a c,.slice A2 b d] w (lx (a=b) w):=by
 by_cases hl:a.length=b
 ·have d0:((a:Int)!=b)=false:=by simp;omega
  have HL:=qI hl;have i0:a.length<=b:=qO;clear hl;go_in;go_wp2_with fail;go_loopw [13] (fun i wr=>Dv a b w i wr) (fun i _=>a-(intOf i).toNat)
  case atStart=>exact ⟨0,0,rfl,zL,fun j hj=>by omega,rfl⟩
  case round=>
   obtain ⟨k,q,rfl,j0,hs,hwr⟩:=hrel;have X:Rd wr B 3 A a (ec a):=by rw [hwr];exact V.drewN q
   have Y:Rd wr B2 3 A2 b (ec b):=by rw [hwr];exact W.drewN q
   have k0:=qiJ (k+1);by_cases u:k<a
   ·have d1:=dtX ((k:Int)<a);have d1':=ltI k a.length;have l0:=ltI k b.length;have m0:=zeI k;have v:k<b:=qO;obtain ⟨x,y,rfl,n0,f⟩:=X.at_ qO;obtain ⟨z,C,rfl,o0,g⟩:=Y.at_ qO;obtain ⟨D,E,F⟩:=eR u;obtain ⟨G,H,I⟩:=eR v;have J:=f _ _ D;have K:wr.cell? ⟨x,y+k*3+1,none⟩=_:=f _ _ E;have d:wr.cell? ⟨x,y+k*3+2,none⟩=_:=f _ _ F;have L:=g _ _ G;have M:wr.cell? ⟨z,C+k*3+1,none⟩=_:=g _ _ H;have N:wr.cell? ⟨z,C+k*3+2,none⟩=_:=g _ _ I;have O:=gE u;have P:=gE v;have r:=qI O;have s:=qI P;obtain ⟨Z,Q⟩:=gX (a[k]);obtain ⟨a0,R⟩:=gX (b[k]);rw [<-Q] at J K d r;rw [<-R] at L M N s;obtain ⟨l,m,n⟩:=Z;obtain ⟨S,T,U⟩:=a0;simp only at J K d L M N;clear Q R O P f g D E F G H I;by_cases t:l=S/\m=T/\n=U
    ·obtain ⟨rfl,rfl,rfl⟩:=t;have HS:Hid (∀j,j<k+1->a[j]?=b[j]?):=fun j hj=>by
      by_cases b0:j=k
      ·rw [b0,r,s]
      exact hs.out j qO
     have c0: ∀w:World,(binOp .neq 177 (.agg #[l,m,n]) (.agg #[l,m,n])).run an w= .ok (.bool false) w:=fun w=>by rw [oN];simp
     exact z23
    have HN:Hid (¬a=b):=fun e=>by
     have o:=s.out;rw [<-e,r] at o;injection o with o;injection o with e0 f0 g0;exact t ⟨e0,f0,g0⟩
    have c0: ∀w:World,(binOp .neq 177 (.agg #[l,m,n]) (.agg #[S,T,U])).run an w= .ok (.bool true) w:=fun w=>by
     rw [oN,Dp t]
    exact z22
   exact z15
 exact z25
def geS (a b:BA):Bool:=!(Op.bytesLess a.toList b.toList)
theorem ly (s v) (b:Hid (dc s=v)) (w):Calls an 333 #[.string s] w fun a w'=>a= .returned (.bool v)/\w'=w:=
 (Dn s w).mono fun a w' ⟨c,d⟩=>⟨by rw [c,b],d.symm⟩
theorem fI (s v) (b:Hid (decide (s.size=32)=v)) (w):Calls an 334 #[.string s] w fun a w'=>a= .returned (.bool v)/\w'=w:=
 (Do s w).mono fun a w' ⟨c,d⟩=>⟨by rw [c,b],d.symm⟩
theorem Dx (A n c w):Calls an 329 #[.agg #[.slice A n c]] w fun e w'=>e= .returned (.bool (decide (n<=1048576)))/\Below w.heap.size w w':=by
 have d:=bAl w (.cells #[.slice A n c] 215);by_cases a:n<=kad
 ·have f:=dtX ((n:Int)<=kad);have b:=qI a;clear a;go_in;go_wp2_with fail;go_ret;exact ⟨by rw [dT b.out];rfl,d⟩
 have f:=dfX ((n:Int)<=kad);have b:=qI a;clear a;go_in;go_wp2_with fail;go_ret;exact ⟨by rw [qF b.out];rfl,d⟩
def Dy (l:List Ent) (A:OA) (c g:Nat) (w:World) (i:Value) (wr:World):Prop:=
 ∃k:Nat,i= .int .i64 k/\k<=l.length/\Hid (eO geS l k)/\Blk wr g 217 [.slice A l c]/\Below w w wr
theorem ud {l k e} (a:l[k]?=some e):ff geS l k=(dc e.name&&decide (e.id.size=32)&&lr geS l e.name k):=by
 unfold ff;rw [a]
theorem ue {l j p nm} (a:l[j]?=some p):lr geS l nm (j+1)= !geS p.name nm:=by
 show (match l[j]? with | none=>true | some p=> !geS p.name nm)=_;rw [a]
theorem lz {l k} (b:eO geS l k) (c:ff geS l k=true):eO geS l (k+1):=fun a e=>by
 by_cases d:a=k
 ·rw [d];exact c
 exact b a qO
theorem Dz (A l c w) (U:Rd w w.heap.size 3 A l.length (ec l)) (e0:l.length<=kaa):
  Calls an 332 #[.agg #[.slice A l c]] w fun V w'=>V= .returned (.bool (cT geS l))/\Below w w w':=by
 obtain ⟨k,o⟩:=gH (cT geS l);rw [<-o];have f:=o9 w 217 [.slice A l c];have s:=bAl w (.cells #[.slice A l c] 217);go_in;go_wp2_with fail;obtain ⟨W,E⟩:=gX w.heap.size;obtain ⟨f0,F⟩:=gX (w.alloc (.cells #[.slice A l c] 217));change Blk (w.alloc (.cells #[.slice A l c] 217)) _ _ _ at f;rw [<-F] at f s ⊢;rw [<-E] at f ⊢;clear F E;go_loopw [8] (fun i wr=>Dy l A c W w i wr) (fun i _=>l-(intOf i).toNat)
 case atStart=>exact ⟨0,rfl,zL,fun i d=>by omega,f,s⟩
 case round=>
  clear f s;obtain ⟨a,rfl,g0,t,f,m⟩:=hrel;have h0:=f.c 0;have i0:=f.lt;have j0:=qiJ (a+1);by_cases q:a<l
  ·have X:=dtX ((a:Int)<l);have Y:=ltI a l.length;have k0:=zeI a;have Z:=U.below m;obtain ⟨u,G,rfl,l0,g⟩:=Z.at_ qO;obtain ⟨H,I,J⟩:=eR q;have K:=g _ _ H;have L:wr.cell? ⟨u,G+a*3+1,none⟩=_:=g _ _ I;have M:wr.cell? ⟨u,G+a*3+2,none⟩=_:=g _ _ J;have j:=gE q;obtain ⟨a0,N⟩:=gX (l[a]);rw [<-N] at K L M j;have n:=qI (ud j);obtain ⟨x0,O,x2⟩:=a0;simp only at K L M n;clear N H I J j;have m0:u<wr:=by have:=m.size;omega
   have P:=f.alloc (.cells #[x0,O,x2] 177);have hb1:Below w w (wr.alloc (.cells #[x0,O,x2] 177)):=m.alloc m.size _;cases e:dc x0 with
   | false=>
    have HF:Hid (k=false):=by unfold Hid;rw [o,iz q (by rw [n,e];rfl)]
    have HP:=qI e;clear e g;go_wp2_with fail;go_quiet ((go_at_call 333;exact A9 (ly x0 _ HP _)));go_wp2_with fail;go_ret;rw [HF];exact ⟨rfl,hb1.drewN' nq⟩
   | true=>
   have HP:=qI e;cases d:decide (x2.size=32) with
   | false=>
    have HF:Hid (k=false):=by unfold Hid;rw [o,iz q (by rw [n,d];simp)]
    have HI:=qI d;clear e d g;exact z251
   | true=>
   have HI:=qI d;rcases p7 a with v | v
   ·have x:Hid (eO geS l (a+1)):=lz t.out (by rw [n,e,d,v];rfl);have n0:=dfX ((0:Int)<(a:Int));have o0: ¬(0:Int)<(a:Int):=qO;have p0:=dfX (0<a);clear e d v g;go_wp2_with fail;go_quiet ((first | (go_at_call 333;exact A9 (ly x0 _ HP _)) | (go_at_call 334;exact A9 (fI x2 _ HI _))));go_wp2_with fail;exact ⟨⟨a+1,by go_num,qO,x,P.drewN nq,hb1.drewN' nq⟩,by simp [intOf];omega⟩
   obtain ⟨b,rfl⟩: ∃b,a=b+1:=⟨a-1,qO⟩;have Q:b<l:=qO;obtain ⟨y,_,_⟩:=eR Q;have R:=g _ _ y;have j:=gE Q;obtain ⟨b0,z⟩:=gX (l[b]);rw [<-z] at R j;have B:=qI (ue (nm:=x0) j);obtain ⟨c0,q0,r0⟩:=b0;simp only at R B;have s0:IntKind.i64.wrap (((b+1:Nat):Int)-1)=(b:Int):=(qJ qO).trans qO;have t0:IntKind.i64.wrap (b+1-1)=(b:Int):=(qJ qO).trans qO;have u0:=ltI b l.length;have v0:=zeI b;cases S:Op.bytesLess c0.toList x0.toList with
   | false=>
    have HF:Hid (k=false):=by
     unfold Hid;rw [o,iz q (by rw [n,B];unfold geS;rw [S];simp)]
    clear e d z j y g;exact z251
   | true=>
   have x:Hid (eO geS l (b+1+1)):=lz t.out (by rw [n,B,e,d];unfold geS;rw [S];rfl);clear e d z j y g;go_wp2_with fail;go_quiet ((first | (go_at_call 333;exact A9 (ly x0 _ HP _)) | (go_at_call 334;exact A9 (fI x2 _ HI _))));go_wp2_with fail;exact ⟨⟨b+1+1,by go_num,qO,x,P.drewN nq,hb1.drewN' nq⟩,by simp [intOf];omega⟩
  have X:=dfX ((a:Int)<l);have Y: ¬(a:Int)<l:=qO;have C:a=l:=qO;have T:Hid (k=decide (l.length<=4096)):=by unfold Hid;rw [o,tU (by rw [<-C];exact t.out)]
  by_cases r:l.length<=4096
  ·have d0:=dtX ((l:Int)<=4096);have D:Hid (k=true):=by unfold Hid;rw [T,dT r]
   clear C r;go_wp2_with fail;go_ret;rw [D];exact ⟨rfl,m⟩
  have d0:=dfX ((l:Int)<=4096);have D:Hid (k=false):=by unfold Hid;rw [T,qF r]
  clear C r;go_wp2_with fail;go_ret;rw [D];exact ⟨rfl,m⟩
theorem dG:Go.Maps.Keyed an 9:=Go.Maps.string_keyed l9
theorem fi (w):(zeroValue 3).run an w= .ok i0 w:=qkR
theorem key_one {al:List (Value×Value)} {k u v} (h:(al.map Prod.fst).Nodup) (h1:(k,u)∈al) (h2:(k,v)∈al):u=v:=z39
theorem DC (target name who stamp text w):Calls an 340 #[.agg #[.string target,.string name,.string who,.int .i64 stamp,.string text]] w fun e w'=>
  e= .returned (.bool (decide (target.size=32)&&decide (1<=name.size)&&decide (name.size<=200)&&aG who stamp text))/\Below w.heap.size w w':=by
 obtain ⟨b,g⟩: ∃b,b=(decide (target.size=32)&&decide (1<=name.size)&&decide (name.size<=200)&&aG who stamp text):=⟨_,rfl⟩;rw [<-g];have d:=qI g;clear g;have hb0:=bAl w (.cells #[target,name,who,stamp,text] 221);cases a:decide (target.size=32) with
 | false=>
  have H1:=qI a;have HF:Hid (b=false):=by unfold Hid;rw [d,a];rfl
  clear a;exact z245
 | true=>
 have H1:=qI a;by_cases c:1<=name.size
 ·have i:=dtX ((1:Int)<=(name.size:Int));by_cases f:name.size<=200
  ·have j:=dtX ((name.size:Int)<=200);have HF:Hid (b=aG who stamp text):=by unfold Hid;rw [d,a];simp [c,f]
   clear a c f;go_in;go_wp2_with (first | (go_at_call 334;refine (fI target _ H1 _).mono ?_;rintro e w' ⟨rfl,rfl⟩) | (go_at_call 326;refine (ua who stamp text _).mono ?_;rintro e l ⟨rfl,k⟩));go_ret;rw [HF];exact ⟨rfl,hb0.next k⟩
  have j:=dfX ((name.size:Int)<=200);have HF:Hid (b=false):=by unfold Hid;rw [d];simp [f]
  clear a c f;exact z245
 have i:=dfX ((1:Int)<=(name.size:Int));have HF:Hid (b=false):=by unfold Hid;rw [d];simp [c]
 clear a c;exact z245
def DD (l:List BA) (a:BA) (A:OA) (c:Nat) (b:BA) (d:Int) (text:BA) (g B:Nat) (w:World) (i:Value) (wr:World):Prop:=
 ∃k:Nat,i= .int .i64 k/\k<=l.length/\Hid (fG l k)/\Blk wr g 219 [a,.slice A l c,b,d,text]/\MapL an 9 wr B (ey (l.take k))/\Below w w wr
theorem DE (tree A l c who stamp text w) (N:Rd w w.heap.size 1 A l.length (pc l)) (f0:l.length<=kaa) (O:Hid (∀p∈l,p.size<=maxLen)):
  Calls an 337 #[.agg #[.string tree,.slice A l c,.string who,.int .i64 stamp,.string text]] w fun e w'=>e= .returned (.bool (decide (tree.size=32)&&cU l&&aG who stamp text))/\Below w w w':=by
 obtain ⟨f,s⟩: ∃f,f=(decide (tree.size=32)&&cU l&&aG who stamp text):=⟨_,rfl⟩;rw [<-s];have t:=qI s;clear s;have d:=o9 w 219 [tree,.slice A l c,who,stamp,text];have G:=bAl w (.cells #[tree,.slice A l c,who,stamp,text] 219);have H:(w.alloc (.cells #[tree,.slice A l c,who,stamp,text] 219)).heap.size=w+1:=by simp
 go_in;have P:=@run_makeMap an;go_wp2_with fail;clear P;have n:MapL an 9 ((w.alloc (.cells #[tree,.slice A l c,who,stamp,text] 219)).alloc (.map #[] 0)) (w+1) []:=by rw [<-H];exact Pn _
 have g:=d.alloc (.map #[] 0);have j:=G.alloc (B:=w.heap.size) qO (.map #[] 0);obtain ⟨k,u⟩:=gH w.heap.size;obtain ⟨g0,I⟩:=gX ((w.alloc (.cells #[tree,.slice A l c,who,stamp,text] 219)).alloc (.map #[] 0));change Blk ((w.alloc (.cells #[tree,.slice A l c,who,stamp,text] 219)).alloc (.map #[] 0)) _ _ _ at g;rw [<-I] at g j n ⊢;rw [<-u] at g n ⊢;clear I d G H;go_loopw [10] (fun i wr=>DD l tree A c who stamp text k (k+1) w i wr) (fun i _=>l-(intOf i).toNat)
 case atStart=>exact ⟨0,rfl,zL,fun i a=>by omega,g,n,j⟩
 case round=>
  clear g j n;obtain ⟨b,rfl,h0,J,d,hmap,hbel⟩:=hrel;have x:=hbel.size;have j0:=d.lt;have k0:=qiJ (b+1);by_cases m:b<l
  ·have Q:=ltI b l.length;have l0:=zeI b;have R:=N.below hbel;obtain ⟨m0,n0,rfl,o0,K⟩:=R.at_ qO;have S:=K _ _ (eQ m);have y:=gE m;obtain ⟨p,o⟩:=gX (l[b]);rw [<-o] at S y;have z:=qI (DA y);have T:=O.out p (by rw [o];exact NF m);have hkey:=NJ l9 T;have U:Hid (l.take (b+1)=l.take b++[p]):=by unfold Hid;rw [n9 m,o]
   clear o y K;obtain ⟨V,C,W,hm1,hput1,D⟩:=hmap.update dG x7 hkey (.int .i64 1);obtain ⟨p0,E,L,hm2,hput2,q⟩:=hmap.update dG x7 hkey (.int .i64 2);cases hh:cK (l.take b) p with
   | true=>
    have HF:Hid (f=false):=by unfold Hid;rw [t,lw m (by rw [z,hh];simp)];simp
    have X:(No 269 (.map (some (k+1))) (.string p) false).run an wr= .ok (.int .i64 1) wr:=by
     exact z260
    have q0:(No 269 (.map (some (k+1))) (.string p) false).run an E= .ok (.int .i64 2) E:=by
     rcases hm2.look dG x7 (fi E) hkey false with ⟨h2,_⟩ | ⟨v,h2,h3⟩
     ·exact absurd rfl (h2 _ hput2.mem)
     exact z188
    have Y:=hbel.trans (ak q (by have:=u.out;omega) x);clear W hm1 hput1 D hh hm2 hput2 q;go_wp2_with fail;go_ret;rw [HF];exact ⟨rfl,Y⟩
   | false=>
   have X:(No 269 (.map (some (k+1))) (.string p) false).run an wr= .ok i0 wr:=by
    exact z266
   have r0:(No 269 (.map (some (k+1))) (.string p) false).run an C= .ok (.int .i64 1) C:=by
    rcases hm1.look dG x7 (fi C) hkey false with ⟨h2,_⟩ | ⟨v,h2,h3⟩
    ·exact absurd rfl (h2 _ hput1.mem)
    exact z187
   have j:=hbel.trans (ak D (by have:=u.out;omega) x);have Z:Hid (V=ey (l.take (b+1))):=by
    unfold Hid;rcases hput1 with ⟨_,rfl⟩ | ⟨s0,t0,a0,b0,_⟩
    ·rw [U];simp [ey]
    exact absurd rfl (jI hh (th p,a0) (by rw [b0];simp))
   have g:=d.grown D (by intro e;injection e;omega);cases a:decide (p.size=32) with
   | false=>
    have HI:=qI a;have HF:Hid (f=false):=by unfold Hid;rw [t,lw m (by rw [z,a];rfl)];simp
    clear L hm2 hput2 q hh hput1 a;go_wp2_with (go_at_call 334;refine (fI p _ HI _).mono ?_;rintro e w' ⟨rfl,rfl⟩);go_ret;rw [HF];exact ⟨rfl,j⟩
   | true=>
   have HI:=qI a;have c0:Hid (fG l (b+1)):=DB J.out (by rw [z,a,hh];rfl);clear L hm2 hput2 q hh hput1 a;go_wp2_with (go_at_call 334;refine (fI p _ HI _).mono ?_;rintro e w' ⟨rfl,rfl⟩);exact ⟨⟨b+1,by go_num,qO,c0,g,by rw [<-Z];exact hm1,j⟩,by simp [intOf];omega⟩
  have Q: ¬(b:Int)<l:=qO;have M:b=l:=qO;have F:Hid (f=(decide (tree.size=32)&&decide (l.length<=4)&&aG who stamp text)):=by unfold Hid;rw [t,tW (by rw [<-M];exact J.out)]
  have u0:=d.c 0;have v0:=d.c 1;have w0:=d.c 2;have x0:=d.c 3;have y0:=d.c 4;clear M;cases a:decide (tree.size=32) with
  | false=>
   have HI:=qI a;have HF:Hid (f=false):=by unfold Hid;rw [F,a];rfl
   clear a;exact z270
  | true=>
  have HI:=qI a;by_cases r:l.length<=4
  ·have d0:=dtX ((l:Int)<=4);have HF:Hid (f=aG who stamp text):=by unfold Hid;rw [F,a];simp [r]
   clear a r;go_wp2_with (first | (go_at_call 334;refine (fI tree _ HI _).mono ?_;rintro e w' ⟨rfl,rfl⟩) | (go_at_call 326;refine (ua who stamp text _).mono ?_;rintro e z0 ⟨rfl,e0⟩));go_ret;rw [HF];exact ⟨rfl,hbel.trans (e0.mono x)⟩
  have d0:=dfX ((l:Int)<=4);have HF:Hid (f=false):=by unfold Hid;rw [F];simp [r]
  clear a r;exact z270
theorem _root_.Go.Dol.Rd.alive {w w' A n xs size} (b:Rd w w.heap.size size A n xs) (a:Below w.heap.size w w'):Rd w' w'.heap.size size A n xs:=(b.below a).more a.size
theorem uh {w ops o a K Q} {i:Prop} (j:o.guard=none) (s x)
  (k:o.op= .call { callee:=.builtin .append,args:=#[s,x],argTypes:=#[36,9] })
  (base v n xs) (l:a.eval s=v) (c:w.ownsRow base 5 1 v n (bc xs))
  (st) (m:a.eval x= .string st) (p:n+st.size<=140737488355328) (hbase:base<=w.heap.size)
  (q: ∀(b:LU) (A':OA) (c':Nat) (w':World),Hid (b=xs++st.data.toList)->w'.ownsRow base 5 1 (.slice A' b.length c') b.length (bc b)->Below base w w'->w.grownBy w' v.ownBlock->
   b.length<=c'->c'<=maxLen->K (a.put o.dst (.slice A' b.length c')) w'):if Region.wanted o (yielded ops a.tmps)=true then Oper.wp an o a w K Q else i:=by
 have r:Region.wanted o (yielded ops a.tmps)=true:=by simp [Region.wanted,j]
 rw [if_pos r];obtain ⟨i0,t,u,y,z⟩:=info_parts eh;obtain ⟨E,w',e,d,f,_⟩:=Lib.run_append_own_string (P:=an) w base 36 9 o.type _ i0 q7 l9 t u y z v n (bc xs) c st (by unfold maxLen;omega) p hbase;obtain ⟨A',c',rfl,g,A⟩:=fA d;have F:n=xs:=by have:=c.1;rw [bC] at this;omega
 have G:st.size=st.data.toList:=by rw [v7];rfl
 have h:n+st.size=(xs++st.data.toList).length:=by rw [b7];omega
 have B:bc xs++Lib.strCells st=bc (xs++st.data.toList):=by rw [ez];rfl
 rw [B,h] at d;rw [h] at g e;unfold Oper.wp execOp;simp only [k,resolve,invoke,builtin,NI,NU,M7,Oy,List.map_cons,List.map_nil,l,m,e];exact q _ A' c' w' rfl d ((bR _ _).grown f hbase (fun C D=>(c.lt C D).1)) f g A
def fj (base:Nat) (w:World) (l:LU) (d:Ending) (w':World):Prop:=
 ∃(a:LU) (c:OA) (b:Nat),Hid (a=l)/\d= .returned (.slice c a b)/\w'.ownsRow base 5 1 (.slice c a b) a (bc a)/\Below base w w'/\a<=b/\b<=maxLen
theorem dX {s} (a:s.size<=140737488355328):(tx s).length<=9+s.size:=by
 unfold tx text;rw [b7,aC];have:=aJ 8 s.size qO;omega
theorem lB {w g who text stamp} (a:Blk w g 213 [.string who,.int .i64 stamp,.string text]):w.cell? ⟨g,0,none⟩=some (.string who)/\w.cell? ⟨g,1,none⟩=some (.int .i64 stamp)/\w.cell? ⟨g,2,none⟩=some (.string text):=
 ⟨by rw [a.cell];rfl,by rw [a.cell];rfl,by rw [a.cell];rfl⟩
theorem ui (who stamp text A l c w) (t:Rd w w.heap.size 1 A l.length (bc l)) (X:l.length+1000+who.size+text.size<=kaa):
  Calls an 325 #[.agg #[.string who,.int .i64 stamp,.string text],.slice A l c] w (fj w w (l++(tx who++(num (aj stamp)++tx text)))):=by
 have a:=o9 w 213 [who,stamp,text];have b:=bAl w (.cells #[who,stamp,text] 213);have f:=t.alive b;go_in;go_wp2_with fail;obtain ⟨g,h⟩:=gH w.heap.size;obtain ⟨d,u⟩:=gX (w.alloc (.cells #[who,stamp,text] 213));change Blk (w.alloc (.cells #[who,stamp,text] 213)) _ _ _ at a;rw [<-u] at a b f ⊢;rw [<-h] at a ⊢;clear u t;obtain ⟨Y,Z,a0⟩:=lB a;have i:=a.lt;have H:=f.drew;have v:l+9+who.size<=kaa:=qO;go_region_held3 (fun j=>j.cell? g=some (.string who)/\j.cell? ⟨g,1,none⟩=some (.int .i64 stamp)/\j.cell? ⟨g,2,none⟩=some (.string text)) (first | exact lB (a.below k i) | exact lB (a.below e i) | exact lB (a.below m i) | go_keep)
  ((first
   | (go_at_call 253;first | (with_reducible refine (ia A l c who _ f v).mono ?_) | (with_reducible refine (ia A l c who _ H v).mono ?_);rintro x y ⟨n,I,J,o,rfl,z,p,b0,c0⟩;have m:Below d d y:=(by first | exact p | exact (bR d d).drew.trans p);have d0:n.length<=l+9+who.size:=(by rw [o.out,b7];have:=dX (s:=who) qO;unfold tx at this;omega))
   | (go_at_call 167;have K:n.length+9<=kaa:=qO;have L:=d8 z;(with_reducible refine (dL I n J _ y L K).mono ?_);rintro x M ⟨q,N,O,r,rfl,B,C,e0,f0⟩;have e:=m.next C;have g0:q.length<=l+18+who.size:=(by rw [r.out,b7];have:=aJ 8 (aj stamp) (by have:=eE stamp;unfold av at this;omega);omega))
   | (go_at_call 253;have P:q.length+9+text.size<=140737488355328:=qO;have Q:=d8 B;(with_reducible refine (ia N q O text M Q P).mono ?_);rintro x h0 ⟨D,R,S,E,rfl,T,F,U,V⟩;have k:=e.next F)))
 have W:Hid (D=l++(tx who++(num (aj stamp)++tx text))):=by
  unfold Hid;rw [E,r,o];unfold tx;simp only [g9]
 have G:=b.next k;have i0:=(b.next e).size;clear o r E z B m p e C k F;go_wp2_with fail;go_ret;exact ⟨D,R,S,W,rfl,T.base (by have:=h.out;omega),by first | exact G | (rw [h];exact G),U,V⟩
theorem DF (base A2 d c2 A l c w) (b:w.ownsRow base 5 1 (.slice A l.length c) l.length (bc l)) (e:Rd w w.heap.size 1 A2 d.length (bc d))
  (f:l.length+d.length<=kaa) (hbase:base<=w.heap.size):
  Calls an 327 #[.agg #[.slice A2 d c2],.slice A l.length c] w (fj base w (l++d)):=by
 have a:Below base w (w.alloc (.cells #[.slice A2 d.length c2] 215)):=(bR _ _).alloc hbase _;have g:=b.alloc (.cells #[.slice A2 d.length c2] 215);have h:=e.alloc (lR _) (.cells #[.slice A2 d.length c2] 215);go_in;go_wp2_with (at_builtin;refine bQ rfl (.tmp 5) (.tmp 7) rfl base _ l.length l rfl g w.heap.size A2 d.length c2 d rfl h f (lT hbase a.size) ?_);intro i j k r m n o _ _ p q;go_wp2_with fail;go_ret;exact ⟨i,j,k,m,rfl,n,a.trans o,p,q⟩
theorem lC {w g ta na who text stamp} (a:Blk w g 221 [.string ta,.string na,.string who,.int .i64 stamp,.string text]):w.cell? ⟨g,0,none⟩=some (.string ta)/\w.cell? ⟨g,1,none⟩=some (.string na)/\w.cell? ⟨g,2,none⟩=some (.string who)/\w.cell? ⟨g,3,none⟩=some (.int .i64 stamp)/\w.cell? ⟨g,4,none⟩=some (.string text):=
 ⟨by rw [a.cell];rfl,by rw [a.cell];rfl,by rw [a.cell];rfl,by rw [a.cell];rfl,by rw [a.cell];rfl⟩
theorem DG (base ta na who stamp text A l c w) (r:w.ownsRow base 5 1 (.slice A l.length c) l.length (bc l))
  (b0:l.length+ta.size+na.size+2000+who.size+text.size<=140737488355328) (hbase:base<=w.heap.size):
  Calls an 338 #[.agg #[.string ta,.string na,.string who,.int .i64 stamp,.string text],.slice A l.length c] w (fj base w (l++(ta.data.toList++(tx na++(tx who++(num (aj stamp)++tx text)))))):=by
 have a:=o9 w 221 [ta,na,who,stamp,text];have i:Below base w (w.alloc (.cells #[ta,na,who,stamp,text] 221)):=(bR _ _).alloc hbase _;have f:=r.alloc (.cells #[ta,na,who,stamp,text] 221);go_in;go_wp2_with fail;obtain ⟨b,t⟩:=gX w.heap.size;obtain ⟨j,u⟩:=gX (w.alloc (.cells #[ta,na,who,stamp,text] 221));change Blk (w.alloc (.cells #[ta,na,who,stamp,text] 221)) _ _ _ at a;rw [<-u] at a i f ⊢;rw [<-t] at a ⊢;clear u t r;obtain ⟨c0,d0,e0,f0,g0⟩:=lC a;have I:some b≠(it A l c).ownBlock:=fun k=>own_ne f a (by decide) k.symm;have v:j.drew.ownsRow base 5 1 (.slice A l c) l (bc l):=f;have J:l+ta.size<=kaa:=qO;have x:=i.size |> lT hbase;go_region_held3 (fun d=>d.cell? b=some (.string ta)/\d.cell? ⟨b,1,none⟩=some (.string na)/\d.cell? ⟨b,2,none⟩=some (.string who)/\d.cell? ⟨b,3,none⟩=some (.int .i64 stamp)/\d.cell? ⟨b,4,none⟩=some (.string text)) (first | exact lC (e.below m y) | exact lC (e.below g y) | exact lC e | go_keep)
  ((first
   | (refine uh (by rfl) (.tmp 7) (.tmp 9) (by rfl) base _ l l (by rfl) (w:=World.drew j) v ta (by rfl) J x ?_;intro h K L M n z o N h0 i0;have e:=a.drew.grown N I;have y:=e.lt;have j0:h.length<=l+ta.size:=(by rw [n,b7,aC];omega);have B:=d8 z;have O:h+9+na.size<=kaa:=qO)
   | (go_at_call 253;(with_reducible refine (ia K h L na M B O).mono ?_);rintro k P ⟨p,Q,R,q,rfl,C,g,k0,l0⟩;have m0:p.length<=h+9+na.size:=(by rw [q.out,b7];have:=dX (s:=na) qO;unfold tx at this;omega);have D:=d8 C;have S:p+1000+who.size+text.size<=kaa:=qO)
   | (go_at_call 325;(with_reducible refine (ui who stamp text Q p R P D S).mono ?_);rintro k n0 ⟨E,T,U,F,rfl,V,G,W,X⟩;have m:=g.next G)))
 have Y:Hid (E=l++(ta.data.toList++(tx na++(tx who++(num (aj stamp)++tx text))))):=by
  unfold Hid;rw [F,q,n];unfold tx;simp only [g9]
 have H:=lT x o.size;have Z:=i.trans ((bR base j).drew.trans (o.trans (m.mono H)));have a0:=lT H g.size;clear n q F z C o g m G B D a e f v;go_wp2_with fail;go_ret;exact ⟨E,T,U,Y,rfl,V.base a0,Z,W,X⟩
theorem iC {w g tr who text stamp v} (a:Blk w g 219 [.string tr,v,.string who,.int .i64 stamp,.string text]):w.cell? ⟨g,0,none⟩=some (.string tr)/\w.cell? ⟨g,1,none⟩=some v/\w.cell? ⟨g,2,none⟩=some (.string who)/\w.cell? ⟨g,3,none⟩=some (.int .i64 stamp)/\w.cell? ⟨g,4,none⟩=some (.string text):=
 ⟨by rw [a.cell];rfl,by rw [a.cell];rfl,by rw [a.cell];rfl,by rw [a.cell];rfl,by rw [a.cell];rfl⟩
def DI (base g:Nat) (T:LU) (e:BA) (f:OA) (ps:List BA) (h:Nat) (j:BA) (k:Int) (text:BA) (w:World) (b i:Value) (wr:World):Prop:=
 ∃(c:Nat) (l:LU) (d:OA) (a:Nat),i= .int .i64 c/\b= .slice d l a/\c<=ps/\Hid (l=T++bG (ps.take c))/\wr.ownsRow base 5 1 (.slice d l a) l (bc l)/\l<=a/\a<=maxLen/\
  Blk wr g 219 [e,.slice f ps h,j,k,text]/\Below base w wr
theorem DJ (base tr A2 ps c2 who stamp text A l c w) (f:w.ownsRow base 5 1 (.slice A l.length c) l.length (bc l)) (m0:Rd w base 1 A2 ps.length (pc ps))
  (J0:ps.length<=kaa) (K0:l.length+tr.size+(bG ps).length+3000+who.size+text.size<=kaa) (hbase:base<=w):
  Calls an 335 #[.agg #[.string tr,.slice A2 ps c2,.string who,.int .i64 stamp,.string text],.slice A l.length c] w (fj base w (l++(tr.data.toList++(gj ps++(tx who++(num (aj stamp)++tx text)))))):=by
 have b:=o9 w 219 [tr,.slice A2 ps c2,who,stamp,text];have m:Below base w (w.alloc (.cells #[tr,.slice A2 ps c2,who,stamp,text] 219)):=(bR _ _).alloc hbase _;have n:=f.alloc (.cells #[tr,.slice A2 ps c2,who,stamp,text] 219);have n0:Hid (aj (ps.length:Int)=ps):=by unfold Hid aj;omega
 go_in;go_wp2_with fail;obtain ⟨d,R⟩:=gX w.heap.size;obtain ⟨v,S⟩:=gX (w.alloc (.cells #[tr,.slice A2 ps c2,who,stamp,text] 219));change Blk (w.alloc (.cells #[tr,.slice A2 ps c2,who,stamp,text] 219)) _ _ _ at b;rw [<-S] at b m n ⊢;rw [<-R] at b ⊢;clear S R f;obtain ⟨o0,p0,q0,o,g⟩:=iC b;have q:some d≠(it A l c).ownBlock:=fun i=>own_ne n b (by decide) i.symm;have T:v.drew.ownsRow base 5 1 (.slice A l c) l (bc l):=n;have r0:l+tr.size<=kaa:=qO;have x:=m.size |> lT hbase;go_region_held3 (fun j=>j.cell? d=some (.string tr)/\j.cell? ⟨d,1,none⟩=some (.slice A2 ps c2)/\j.cell? ⟨d,2,none⟩=some (.string who)/\j.cell? ⟨d,3,none⟩=some (.int .i64 stamp)/\j.cell? ⟨d,4,none⟩=some (.string text)) (first | exact iC (k.below r U) | exact iC k | go_keep)
  ((first
   | (refine uh (by rfl) (.tmp 7) (.tmp 9) (by rfl) base _ l l (by rfl) (w:=World.drew v) T tr (by rfl) r0 x ?_;intro y s0 t0 u0 z V B W L0 M0;have k:=b.drew.grown W q;have U:=k.lt;have N0:y.length<=l+tr.size:=(by rw [z,b7,aC];omega);have X:=d8 V;have v0:y.length+9<=kaa:=qO)
   | (go_at_call 167;(with_reducible refine (dL s0 y t0 _ u0 X v0).mono ?_);rintro i O0 ⟨Y,w0,x0,Z,rfl,a0,r,C,D⟩)))
 have E:=lT x B.size;have b0:=m.trans ((bR base v).drew.trans (B.trans (r.mono E)));have hT:Hid (Y=(l++(tr.data.toList++num ps))++bG (ps.take 0)):=by
  unfold Hid;rw [Z,z,n0];simp [bG]
 obtain ⟨s,t⟩:=gX (l++(tr.data.toList++num ps));have P0:s.length<=l+tr.size+9:=by
  rw [t];simp only [b7,aC];have:=aJ 8 ps qO;omega
 rw [<-t] at hT;have y0:=qI t;have F:=k.below r U;have c0:=a0.base E;clear t z Z V a0 B r X b k n T o0 p0 q0 o g W m q x E;obtain ⟨d0,e0,f0,g0,h0⟩:=iC F;go_wp2_with fail;clear d0 e0 f0 g0 h0;go_loopw [1,18] (fun z0 G wr=>DI base d s tr A2 ps c2 who stamp text w z0 G wr) (fun _ G _=>ps-(intOf G).toNat)
 case atStart=>exact ⟨0,Y,w0,x0,rfl,rfl,zL,hT,c0,C,D,F,b0⟩
 case round=>
  clear hT c0 F b0 C D;obtain ⟨a,e,i0,o,rfl,rfl,Q0,hT,f,C,D,b,u⟩:=hrel;obtain ⟨d0,e0,f0,g0,h0⟩:=iC b;have H:=u.size;have R0:e.length<=s+(bG ps).length:=by rw [hT,b7];have:=lD ps a;omega
  have S0:=qiJ (a+1);by_cases I:a<ps
  ·have A0:=ltI a ps.length;have T0:=zeI a;have B0:=m0.below u;obtain ⟨U0,V0,rfl,W0,j0⟩:=B0.at_ qO;have C0:=j0 _ _ (eQ I);obtain ⟨p,J⟩:=gX (ps[a]);rw [<-J] at C0;have k0:Hid (bG (ps.take (a+1))=bG (ps.take a)++p.data.toList):=by unfold Hid;rw [uj I,J]
   have D0:e+p.size<=kaa:=by
    have E0:=lD ps (a+1);rw [k0,b7,aC] at E0;exact z71
   have q:some d≠(it i0 e.length o).ownBlock:=fun i=>own_ne f b (by decide) i.symm;clear J j0;go_wp2_with (at_builtin;refine et rfl (.tmp 22) (.tmp 23) rfl base _ e.length e rfl f p rfl D0 (lT hbase H) ?_);intro K L g F0 M N O G0 P Q;go_wp2_with fail;refine ⟨⟨a+1,K,L,g,by go_num,rfl,I,?_,N,P,Q,b.grown G0 q,u.trans O⟩,by simp [intOf];omega⟩;unfold Hid;rw [M,hT,k0,g9]
  have A0: ¬(a:Int)<ps:=qO;have l0:a=ps:=qO;have H0:Hid (e=s++bG ps):=by unfold Hid;rw [hT,l0,y7]
  clear l0;have I0:e+1000+who.size+text.size<=kaa:=qO;go_wp2_with (go_at_call 325;refine (ui who stamp text i0 e o wr (d8 f) I0).mono ?_;rintro i F0 ⟨K,L,g,M,rfl,N,O,P,Q⟩);go_ret;refine ⟨K,L,g,?_,rfl,N.base (lT hbase H),u.trans (O.mono (lT hbase H)),P,Q⟩;unfold Hid;rw [M,H0,y0];unfold gj bG;simp only [g9]
def DK (base g:Nat) (T:LU) (f:OA) (c:List Ent) (h:Nat) (w:World) (b i:Value) (wr:World):Prop:=
 ∃(d:Nat) (l:LU) (e:OA) (a:Nat),i= .int .i64 d/\b= .slice e l a/\d<=c/\Hid (l=T++(c.take d).flatMap aY)/\wr.ownsRow base 5 1 (.slice e l a) l (bc l)/\l<=a/\a<=maxLen/\
  Blk wr g 217 [.slice f c h]/\Below base w wr
theorem DL (base A2 es c2 A l c w) (b0:Rd w w.heap.size 1 A l.length (bc l)) (F0:Rd w base 3 A2 es.length (ec es))
  (d1:es.length<=kaa) (e1:l+1000+(es.flatMap aY).length<=kaa) (hbase:base<=w):
  Calls an 330 #[.agg #[.slice A2 es c2],.slice A l c] w (fj base w (l++fg es)):=by
 have d:=o9 w 217 [.slice A2 es c2];have C:Below base w (w.alloc (.cells #[.slice A2 es c2] 217)):=(bR _ _).alloc hbase _;have c0:=bAl w (.cells #[.slice A2 es c2] 217);have M:=b0.alive c0;have d0:Hid (aj (es.length:Int)=es):=by unfold Hid aj;omega
 go_in;go_wp2_with fail;obtain ⟨G0,e0⟩:=gX w.heap.size;obtain ⟨H0,f0⟩:=gX (w.alloc (.cells #[.slice A2 es c2] 217));change Blk (w.alloc (.cells #[.slice A2 es c2] 217)) _ _ _ at d;rw [<-f0] at d C M ⊢;rw [<-e0] at d ⊢;clear f0 e0 b0 c0;refine (dL A l c _ H0 M qO).mono ?_;rintro b f1 ⟨g0,I0,J0,h0,rfl,i0,N,j0,k0⟩;have l0:=C.size |> lT hbase;have O:=d.below N d.lt;have m0:=C.trans (N.mono l0);have n0:=i0.base l0;obtain ⟨D,E⟩:=gX (l++num es);have hT:Hid (g0=D++(es.take 0).flatMap aY):=by unfold Hid;rw [h0,d0,E];simp
 have g1:D.length<=l+9:=by
  rw [E];simp only [b7];have:=aJ 8 es qO;omega
 have K0:=qI E;have L0:=O.c 0;clear E h0 i0 N M d d0 C;go_wp2_with fail;clear L0;go_loopw [1,15] (fun M0 i wr=>DK base G0 D A2 es c2 w M0 i wr) (fun _ i _=>es-(intOf i).toNat)
 case atStart=>exact ⟨0,g0,I0,J0,rfl,rfl,zL,hT,n0,j0,k0,O,m0⟩
 case round=>
  clear hT n0 O m0 j0 k0;obtain ⟨a,q,o0,p0,rfl,rfl,h1,hT,q0,N0,O0,d,r⟩:=hrel;have P0:=r.size;have F:=lT hbase P0;have i1:=qiJ (a+1);by_cases t:a<es
  ·have Q0:=ltI a es.length;have j1:=zeI a;have R0:=F0.below r;obtain ⟨r0,s0,rfl,k1,G⟩:=R0.at_ qO;obtain ⟨t0,u0,v0⟩:=eR t;have w0:=G _ _ t0;have x0:wr.cell? ⟨r0,s0+a*3+1,none⟩=_:=G _ _ u0;have y0:wr.cell? ⟨r0,s0+a*3+2,none⟩=_:=G _ _ v0;have z0:=uk t;have A0:=ul es[a];obtain ⟨H,P⟩:=gX (es[a]);have hsucc:Hid ((es.take (a+1)).flatMap aY=(es.take a).flatMap aY++aY H):=by unfold Hid;rw [oO t,P]
   rw [<-P] at w0 x0 y0 z0 A0;have S0:q+H.name.size+1+H.id.size<=D+(es.flatMap aY).length:=by
    exact z71
   obtain ⟨e,k,f⟩:=H;simp only at w0 x0 y0 S0;have u:=bAl wr (.cells #[e,k,f] 177);have m:=o9 wr 177 [e,k,f];have Q:=(d8 q0).alive u;have I:=d.alloc (.cells #[e,k,f] 177);clear P G t0 u0 v0 z0 A0;go_wp2_with fail;obtain ⟨l1,B0⟩:=gX wr.heap.size;obtain ⟨T0,C0⟩:=gX (wr.alloc (.cells #[e,k,f] 177));change Blk (wr.alloc (.cells #[e,k,f] 177)) _ _ _ at m;rw [<-C0] at u m Q I ⊢;rw [<-B0] at m ⊢;clear C0 B0;refine (ia o0 q p0 e T0 Q qO).mono ?_;rintro b m1 ⟨g,n1,o1,e6,rfl,D0,J,p1,q1⟩;have r1:g.length<=q+9+e.size:=by rw [e6,b7];have:=dX (s:=e) qO;unfold tx at this;omega
   have K:=u.next J;have v:=m.below J m.lt;have L:=I.below J I.lt;have o:=D0.base (base':=wr.heap.size) u.size;have s1:=v.c 1;clear Q u J D0 m I;cases k with
   | true=>
    go_wp2_with (at_builtin;refine cY rfl (.tmp 25) (.tmp 26) rfl wr.heap.size _ g.length g rfl o rfl (by decide) (by decide) (by omega) K.size ?_);intro d7 j U0 V0 W0 ed7 e7 x R y _ X0 Y0;have z:=K.trans R;have S:=v.grown y (fun b=>own_ne o v (by decide) b.symm);have B:=L.grown y (fun b=>own_ne o L (by decide) b.symm);have Z0:=S.c 2;have a1:j.length<=g+1:=by rw [e7,b7];exact lR _
    go_wp2_with (at_builtin;refine et rfl (.tmp 31) (.tmp 33) rfl wr.heap.size _ j.length j rfl x f rfl (by omega) z.size ?_);intro T U V b1 e8 W X Y Z a0;go_wp2_with fail;refine ⟨⟨a+1,T,U,V,by go_num,rfl,t,?_,W.base F,Z,a0,B.grown Y (fun b=>own_ne x B (by decide) b.symm),r.trans ((z.trans X).mono F)⟩,by simp [intOf];omega⟩;exact z104
   | false=>
   go_wp2_with (at_builtin;refine cY rfl (.tmp 28) (.tmp 29) rfl wr.heap.size _ g.length g rfl o rfl (by decide) (by decide) (by omega) K.size ?_);intro d7 j U0 V0 W0 ed7 e7 x R y _ X0 Y0;have z:=K.trans R;have S:=v.grown y (fun b=>own_ne o v (by decide) b.symm);have B:=L.grown y (fun b=>own_ne o L (by decide) b.symm);have Z0:=S.c 2;have a1:j.length<=g+1:=by rw [e7,b7];exact lR _
   go_wp2_with (at_builtin;refine et rfl (.tmp 31) (.tmp 33) rfl wr.heap.size _ j.length j rfl x f rfl (by omega) z.size ?_);intro T U V b1 e8 W X Y Z a0;go_wp2_with fail;refine ⟨⟨a+1,T,U,V,by go_num,rfl,t,?_,W.base F,Z,a0,B.grown Y (fun b=>own_ne x B (by decide) b.symm),r.trans ((z.trans X).mono F)⟩,by simp [intOf];omega⟩;exact z153
  have Q0: ¬(a:Int)<es:=qO;have E0:a=es:=qO;have c1:Hid (q=l++fg es):=by
   unfold Hid;rw [hT,E0,y7,K0];unfold fg;rw [g9]
  clear E0;go_wp2_with fail;go_ret;exact ⟨q,o0,p0,c1,rfl,q0,r,N0,O0⟩
theorem um (Ad nd cd Ae ne ce tr Ap np cp ta na wh st te w):
  Calls an 95 #[.agg #[.int .i64 1,.slice Ad nd cd,.slice Ae ne ce,.string tr,.slice Ap np cp,.string ta,.string na,.string wh,.int .i64 st,.string te]] w fun b w'=>b= .returned (.iface 215 (.agg #[.slice Ad nd cd]))/\Below w.heap.size w w':=by
 have a:=bAl w (.cells #[.int .i64 1,.slice Ad nd cd,.slice Ae ne ce,tr,.slice Ap np cp,ta,na,wh,st,te] 40);have c:=a.alloc (B:=w.heap.size) a.size (.cells #[wh,st,te] 213);go_in;go_wp2_with fail;go_ret;exact ⟨rfl,c⟩
theorem un (Ad nd cd Ae ne ce tr Ap np cp ta na wh st te w):
  Calls an 95 #[.agg #[.int .i64 2,.slice Ad nd cd,.slice Ae ne ce,.string tr,.slice Ap np cp,.string ta,.string na,.string wh,.int .i64 st,.string te]] w fun b w'=>b= .returned (.iface 217 (.agg #[.slice Ae ne ce]))/\Below w.heap.size w w':=by
 have a:=bAl w (.cells #[.int .i64 2,.slice Ad nd cd,.slice Ae ne ce,tr,.slice Ap np cp,ta,na,wh,st,te] 40);have c:=a.alloc (B:=w.heap.size) a.size (.cells #[wh,st,te] 213);go_in;go_wp2_with fail;go_ret;exact ⟨rfl,c⟩
theorem uo (Ad nd cd Ae ne ce tr Ap np cp ta na wh st te w):
  Calls an 95 #[.agg #[.int .i64 3,.slice Ad nd cd,.slice Ae ne ce,.string tr,.slice Ap np cp,.string ta,.string na,.string wh,.int .i64 st,.string te]] w fun b w'=>b= .returned (.iface 219 (.agg #[.string tr,.slice Ap np cp,.string wh,.int .i64 st,.string te]))/\Below w.heap.size w w':=by
 have a:=bAl w (.cells #[.int .i64 3,.slice Ad nd cd,.slice Ae ne ce,tr,.slice Ap np cp,ta,na,wh,st,te] 40);have c:=a.alloc (B:=w.heap.size) a.size (.cells #[wh,st,te] 213);go_in;go_wp2_with fail;go_ret;exact ⟨rfl,c⟩
theorem uq (Ad nd cd Ae ne ce tr Ap np cp ta na wh st te w):
  Calls an 95 #[.agg #[.int .i64 4,.slice Ad nd cd,.slice Ae ne ce,.string tr,.slice Ap np cp,.string ta,.string na,.string wh,.int .i64 st,.string te]] w fun b w'=>b= .returned (.iface 221 (.agg #[.string ta,.string na,.string wh,.int .i64 st,.string te]))/\Below w.heap.size w w':=by
 have a:=bAl w (.cells #[.int .i64 4,.slice Ad nd cd,.slice Ae ne ce,tr,.slice Ap np cp,ta,na,wh,st,te] 40);have c:=a.alloc (B:=w.heap.size) a.size (.cells #[wh,st,te] 213);go_in;go_wp2_with fail;go_ret;exact ⟨rfl,c⟩
theorem DM (Ad nd cd Ae ne ce tr Ap np cp ta na wh st te w k) (a:k≠1) (b:k≠2) (c:k≠3) (d:k≠4):
  Calls an 95 #[.agg #[.int .i64 k,.slice Ad nd cd,.slice Ae ne ce,.string tr,.slice Ap np cp,.string ta,.string na,.string wh,.int .i64 st,.string te]] w fun f w'=>f= .returned (.nilIface)/\Below w.heap.size w w':=by
 have e:=bAl w (.cells #[k,.slice Ad nd cd,.slice Ae ne ce,tr,.slice Ap np cp,ta,na,wh,st,te] 40);have g:=e.alloc (B:=w.heap.size) e.size (.cells #[wh,st,te] 213);have h:=beq_eq_false_iff_ne.2 a;have i:=beq_eq_false_iff_ne.2 b;have j:=beq_eq_false_iff_ne.2 c;have l:=beq_eq_false_iff_ne.2 d;clear a b c d;go_in;go_wp2_with fail;go_ret;exact ⟨rfl,g⟩
theorem DN (xs w):(PP (.iface 215 (.agg xs)) 151 215 true).run an w= .ok (.tuple #[.agg xs,true]) w:=qkR
theorem DO (xs w):(PP (.iface 217 (.agg xs)) 151 215 true).run an w= .ok (.tuple #[.agg #[eL],false]) w:=qkR
theorem DP (xs w):(PP (.iface 217 (.agg xs)) 151 217 true).run an w= .ok (.tuple #[.agg xs,true]) w:=qkR
theorem DQ (xs w):(PP (.iface 219 (.agg xs)) 151 215 true).run an w= .ok (.tuple #[.agg #[eL],false]) w:=qkR
theorem DR (xs w):(PP (.iface 219 (.agg xs)) 151 217 true).run an w= .ok (.tuple #[.agg #[eL],false]) w:=qkR
theorem DS (xs w):(PP (.iface 219 (.agg xs)) 151 219 true).run an w= .ok (.tuple #[.agg xs,true]) w:=qkR
theorem DT (xs w):(PP (.iface 221 (.agg xs)) 151 215 true).run an w= .ok (.tuple #[.agg #[eL],false]) w:=qkR
theorem DU (xs w):(PP (.iface 221 (.agg xs)) 151 217 true).run an w= .ok (.tuple #[.agg #[eL],false]) w:=qkR
theorem DV (xs w):(PP (.iface 221 (.agg xs)) 151 219 true).run an w= .ok (.tuple #[.agg #[eS,eL,eS,i0,eS],false]) w:=qkR
theorem DW (xs w):(PP (.iface 221 (.agg xs)) 151 221 true).run an w= .ok (.tuple #[.agg xs,true]) w:=qkR
theorem DX (w):(PP .nilIface 151 215 true).run an w= .ok (.tuple #[.agg #[eL],false]) w:=qkR
theorem DY (w):(PP .nilIface 151 217 true).run an w= .ok (.tuple #[.agg #[eL],false]) w:=qkR
theorem DZ (w):(PP .nilIface 151 219 true).run an w= .ok (.tuple #[.agg #[eS,eL,eS,i0,eS],false]) w:=qkR
theorem Ea (w):(PP .nilIface 151 221 true).run an w= .ok (.tuple #[.agg #[eS,eS,eS,i0,eS],false]) w:=qkR
theorem ur (Ad nd cd) (b:OA) (c d:Nat) (e:BA) (f:OA) (g h:Nat) (i j k:BA) (l:Int) (m:BA) (w):
  Calls an 159 #[.iface 215 (.agg #[.slice Ad nd cd])] w fun a w'=>a= .returned (.agg #[.int .i64 1,.slice Ad nd cd,eL,eS,eL,eS,eS,eS,i0,eS])/\Below w.heap.size w w':=by
 have n:=DN #[.slice Ad nd cd];go_in;go_wp2_with fail;refine bodyPost_ret (v:=.agg #[.int .i64 1,.slice Ad nd cd,eL,eS,eL,eS,eS,eS,i0,eS]) (by simp [results,OI,go_sem]) rfl ⟨rfl,?_⟩
 first
  | exact ((bR w w).alloc (lR _) _).alloc (by simp) _
  | exact (((bR w w).alloc (lR _) _).alloc (by simp) _).setCell (by simp) _
  | (trace_state;fail)
theorem us (b:OA) (c d:Nat) (Ae ne ce) (e:BA) (f:OA) (g h:Nat) (i j k:BA) (l:Int) (m:BA) (w):
  Calls an 159 #[.iface 217 (.agg #[.slice Ae ne ce])] w fun a w'=>a= .returned (.agg #[.int .i64 2,eL,.slice Ae ne ce,eS,eL,eS,eS,eS,i0,eS])/\Below w.heap.size w w':=by
 have n:=DO #[.slice Ae ne ce];have o:=DP #[.slice Ae ne ce];go_in;go_wp2_with fail;refine bodyPost_ret (v:=.agg #[.int .i64 2,eL,.slice Ae ne ce,eS,eL,eS,eS,eS,i0,eS]) (by simp [results,OI,go_sem]) rfl ⟨rfl,?_⟩
 first
  | exact ((bR w w).alloc (lR _) _).alloc (by simp) _
  | exact (((bR w w).alloc (lR _) _).alloc (by simp) _).setCell (by simp) _
  | (trace_state;fail)
theorem ut (c:OA) (d e:Nat) (f:OA) (g h:Nat) (tr Ap np cp) (i j a:BA) (st te w):
  Calls an 159 #[.iface 219 (.agg #[.string tr,.slice Ap np cp,a,.int .i64 st,.string te])] w fun b w'=>b= .returned (.agg #[.int .i64 3,eL,eL,.string tr,.slice Ap np cp,eS,eS,a,.int .i64 st,.string te])/\Below w.heap.size w w':=by
 have k:=DQ #[.string tr,.slice Ap np cp,.string a,.int .i64 st,.string te];have l:=DR #[.string tr,.slice Ap np cp,.string a,.int .i64 st,.string te];have m:=DS #[.string tr,.slice Ap np cp,.string a,.int .i64 st,.string te];go_in;go_wp2_with fail;refine bodyPost_ret (v:=.agg #[.int .i64 3,eL,eL,tr,.slice Ap np cp,eS,eS,a,st,te]) (by simp [results,OI,go_sem]) rfl ⟨rfl,?_⟩
 first
  | exact ((bR w w).alloc (lR _) _).alloc (by simp) _
  | exact (((bR w w).alloc (lR _) _).alloc (by simp) _).setCell (by simp) _
  | (trace_state;fail)
theorem uu (b:OA) (c d:Nat) (e:OA) (f g:Nat) (h:BA) (i:OA) (j k:Nat) (ta na wh st te w):
  Calls an 159 #[.iface 221 (.agg #[.string ta,.string na,.string wh,.int .i64 st,.string te])] w fun a w'=>a= .returned (.agg #[.int .i64 4,eL,eL,eS,eL,.string ta,.string na,.string wh,.int .i64 st,.string te])/\Below w.heap.size w w':=by
 have l:=DT #[.string ta,.string na,.string wh,.int .i64 st,.string te];have m:=DU #[.string ta,.string na,.string wh,.int .i64 st,.string te];have n:=DV #[.string ta,.string na,.string wh,.int .i64 st,.string te];have o:=DW #[.string ta,.string na,.string wh,.int .i64 st,.string te];go_in;go_wp2_with fail;refine bodyPost_ret (v:=.agg #[.int .i64 4,eL,eL,eS,eL,ta,na,wh,st,te]) (by simp [results,OI,go_sem]) rfl ⟨rfl,?_⟩
 first
  | exact ((bR w w).alloc (lR _) _).alloc (by simp) _
  | exact (((bR w w).alloc (lR _) _).alloc (by simp) _).setCell (by simp) _
  | (trace_state;fail)
theorem Eb (w):
  Calls an 159 #[.nilIface] w fun a w'=>a= .returned (.agg #[i0,eL,eL,eS,eL,eS,eS,eS,i0,eS])/\Below w.heap.size w w':=by
 have b:=DX;have c:=DY;have d:=DZ;have e:=Ea;go_in;go_wp2_with fail;refine bodyPost_ret (v:=.agg #[i0,eL,eL,eS,eL,eS,eS,eS,i0,eS]) (by simp [results,OI,go_sem]) rfl ⟨rfl,?_⟩
 first
  | exact (bR w w).alloc (lR _) _
  | (trace_state;fail)
def uv (p:Prop) (w:World) (b:Ending) (w':World):Prop:=∃ a:Bool,b= .returned (.bool a)/\(a=true↔p)/\Below w w w'
def dP (k:Int) (a b:Value) (c:BA) (d:Value) (e f g:BA) (h:Int) (i:BA):List Value:=[.int .i64 k,a,b,.string c,d,.string e,.string f,.string g,.int .i64 h,.string i]
theorem bg {w g k vd ve tr vp ta na wh st te} (a:Blk w g 40 (dP k vd ve tr vp ta na wh st te)):
  w.cell? g=some (.int .i64 k)/\w.cell? ⟨g,1,none⟩=some vd/\w.cell? ⟨g,2,none⟩=some ve/\w.cell? ⟨g,3,none⟩=some (.string tr)/\w.cell? ⟨g,4,none⟩=some vp/\w.cell? ⟨g,5,none⟩=some (.string ta)/\w.cell? ⟨g,6,none⟩=some (.string na)/\w.cell? ⟨g,7,none⟩=some (.string wh)/\w.cell? ⟨g,8,none⟩=some (.int .i64 st)/\w.cell? ⟨g,9,none⟩=some (.string te):=
 ⟨by rw [a.cell];rfl,by rw [a.cell];rfl,by rw [a.cell];rfl,by rw [a.cell];rfl,by rw [a.cell];rfl,by rw [a.cell];rfl,by rw [a.cell];rfl,by rw [a.cell];rfl,by rw [a.cell];rfl,by rw [a.cell];rfl⟩
theorem uw {x y:BA} (a:x=y):(x.toList==y.toList)=true:=by subst a;exact beq_iff_eq.2 rfl
theorem Ec {x y:BA} (a: ¬x=y):(x.toList==y.toList)=false:=beq_eq_false_iff_ne.2 fun b=>a (fh b)
