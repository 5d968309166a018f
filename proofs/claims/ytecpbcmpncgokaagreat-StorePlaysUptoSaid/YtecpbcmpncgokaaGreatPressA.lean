/- Walks and laws. Conditions: as stated. -/
import Derived.Test.YtecpbcmpncgokaaGreatCodeA
set_option maxRecDepth 99999
set_option maxHeartbeats 25600000
set_option linter.all false
open Go.Region renaming wanted->up
open Go.Value renaming slice->it
open UInt8 renaming ofNat->PJ
open Go.World renaming drew->pp
open Go.Proofs.Tryz renaming prog->an
open Go.RowKit Go.Dol
namespace Go.Dol
def cnt:Nat->LU->LU->Nat
 | f+1,x::xs,y::ys=>if x=y then cnt f xs ys+1 else 0
 | _,_,_=>0
def bT (b:LU) (k i:Nat):Nat:=cnt 259 (b.drop k) (b.drop i)
theorem rH (f): ∀a ys:LU,cnt f a ys<=f/\cnt f a ys<=ys.length:=by
 induction f with
 | zero=>intro a ys;simp [cnt]
 | succ f b=>
 intro a ys;cases a with
 | nil=>simp [cnt]
 | cons c a=>
 cases ys with
 | nil=>simp [cnt]
 | cons d ys=>
 have:=b a ys;rw [cnt];split
 ·simp only [List.length_cons];omega
 omega
theorem rJ (f): ∀(a ys:LU) (j:Nat),j<cnt f a ys->a[j]?=ys[j]?:=by
 induction f with
 | zero=>intro a ys j b;simp [cnt] at b
 | succ f c=>
 intro a ys j b;cases a with
 | nil=>simp [cnt] at b
 | cons e a=>
 cases ys with
 | nil=>simp [cnt] at b
 | cons g ys=>
 rw [cnt] at b;split at b
 ·rename_i d;cases j with
  | zero=>simp [d]
  | succ j=>simpa using c a ys j qO
 omega
theorem rL (f): ∀(a ys:LU) (n:Nat),n<=f->n<=a->n<=ys->(∀j,j<n->a[j]?=ys[j]?)->n<=cnt f a ys:=by
 induction f with
 | zero=>intro a ys n k _ _ _;omega
 | succ f e=>
 intro a ys n l b c d;cases n with
 | zero=>omega
 | succ n=>
 cases a with
 | nil=>simp at b
 | cons g a=>
 cases ys with
 | nil=>simp at c
 | cons h ys=>
 have i:g=h:=by simpa using d 0 qO
 rw [cnt,if_pos i];have:=e a ys n qO (by simpa using b) (by simpa using c) (fun j m=>by simpa using d (j+1) qO);omega
theorem mj (b k i):bT b k i<=259/\bT b k i<=b.length-i:=by
 have:=rH 259 (b.drop k) (b.drop i);rwa [b8] at this
theorem pL {b k i j} (a:j<bT b k i):b[k+j]?=b[i+j]?:=by
 have:=rJ 259 (b.drop k) (b.drop i) j a;rwa [H9,H9] at this
theorem vY {b k i n} (e:k<=i) (a:n<=259) (f:i+n<=b.length) (c: ∀j,j<n->b[k+j]?=b[i+j]?):n<=bT b k i:=
 rL 259 _ _ n a (by rw [b8];omega) (by rw [b8];omega) fun j d=>by
  rw [H9,H9];exact c j d
theorem pM {b k i n} (d:k<=i) (e:n<=259) (f:i+n<=b.length) (g: ∀j,j<n->b[k+j]?=b[i+j]?) (a:n=259\/i+n=b.length\/b[k+n]?≠b[i+n]?):bT b k i=n:=by
 have h:=vY d e f g;have l:=mj b k i;rcases D8 n (bT b k i) with c | c
 ·rcases a with a | a | a
  ·omega
  ·omega
  exact absurd (pL c) a
 omega
def bP (b:LU) (i:Nat):Nat->Nat×Nat
 | 0=>(0,0)
 | d+1=>if (bP b i d).1<bT b (i-(d+1)) i then (bT b (i-(d+1)) i,d+1) else bP b i d
def aL (b:LU) (i:Nat):Nat×Nat:=bP b i (min 4096 i)
theorem jS (b i): ∀d,(bP b i d).2<=d/\(bP b i d).1<=259/\(bP b i d).1<=b.length-i/\(0<(bP b i d).1->0<(bP b i d).2/\bT b (i-(bP b i d).2) i=(bP b i d).1)
 | 0=>by simp [bP]
 | d+1=>by
  have a:=jS b i d;have ha:=mj b (i-(d+1)) i;rw [bP];split
  ·exact ⟨lR _,ha.1,ha.2,fun _=>⟨qO,rfl⟩⟩
  exact ⟨qO,a.2.1,a.2.2.1,a.2.2.2⟩
theorem vZ {b i d} (a:(bP b i d).1=259): ∀m,bP b i (d+m)=bP b i d
 | 0=>rfl
 | m+1=>by
  have ha:=mj b (i-(d+m+1)) i;rw [show d+(m+1)=(d+m)+1 from rfl,bP,vZ a m,if_neg qO]
def bq (b:LU) (i d:Nat):Nat×Nat:=if 4<=(bP b i d).1 then bP b i d else (0,0)
theorem GQ (b i):bq b i 0=(0,0):=by simp [bq,bP]
theorem GR {b i d} (a:bT b (i-(d+1)) i<4):bq b i (d+1)=bq b i d:=by
 unfold bq;rw [bP];split
 ·rw [if_neg (by simp only;omega),if_neg qO]
 rfl
theorem GS {b i d} (e:4<=bT b (i-(d+1)) i):bq b i (d+1)=if (bq b i d).1<bT b (i-(d+1)) i then (bT b (i-(d+1)) i,d+1) else bq b i d:=by
 unfold bq;rw [bP];by_cases a:4<=(bP b i d).1
 ·rw [if_pos a];by_cases c:(bP b i d).1<bT b (i-(d+1)) i
  ·rw [if_pos c,if_pos (by simp only;omega)]
  rw [if_neg c,if_pos a]
 rw [if_neg a,if_pos (show (bP b i d).1<_ by omega),if_pos (show (0:Nat)<_ by omega)];rw [if_pos (by simp only;omega)]
theorem GT {b i d m} (a:(bq b i d).1=259):bq b i (d+m)=bq b i d:=by
 unfold bq at a ⊢;split at a
 ·rw [vZ a]
 simp at a
theorem wb {b i d}: ∀m,(∀a,d<a->a<=d+m->bT b (i-a) i<4)->bq b i (d+m)=bq b i d
 | 0,_=>rfl
 | m+1,c=>by
  rw [show d+(m+1)=(d+m)+1 from rfl,GR (c _ qO qO),wb m fun a e f=>c a e qO]
def lng (b:LU) (i:Nat):Nat×Nat:=bq b i (min 4096 i)
theorem GU (b i):(lng b i).1<4↔(aL b i).1<4:=by
 unfold lng bq aL;split
 ·exact Iff.rfl
 constructor
 ·omega
 intro _;simp
theorem GV {b i} (a:4<=(lng b i).1):lng b i=aL b i:=by
 unfold lng bq aL at*;split
 ·rfl
 rename_i c;rw [if_neg c] at a;simp at a
theorem GW {b i} (a:b.length<i+4):lng b i=(0,0):=by
 have c:=(jS b i (min 4096 i)).2.2.1;unfold lng bq;rw [if_neg qO]
theorem wd {b k i} (f:k<=i) (hi:i+4<=b.length):(b.drop k).take 4=(b.drop i).take 4↔4<=bT b k i:=by
 constructor
 ·intro c;refine vY f qO hi fun a d=> ?_;have e:((b.drop k).take 4)[a]?=((b.drop i).take 4)[a]?:=by rw [c]
  rw [w7,w7,if_pos d,if_pos d,H9,H9] at e;exact e
 intro c;apply N8;intro a;rw [w7,w7];split
 ·rw [H9,H9];exact pL qO
 rfl
def aH (l:LU):LU:=if l=[] then [] else num (2*(l.length-1))++l
theorem pN (b i):(aL b i).1<=b.length-i:=(jS b i _).2.2.1
def bw (b:LU) (i a:Nat):LU:=
 if c:i<b then
  if (aL b i).1<4 then bw b (i+1) a
  else aH ((b.drop a).take (i-a))++(num (2*((aL b i).1-4)+1)++(num (aL b i).2++bw b (i+(aL b i).1) (i+(aL b i).1)))
 else aH (b.drop a)
termination_by b-i
decreasing_by all_goals omega
def aA (b:LU):LU:=num b.length++bw b 0 0
theorem jT {b i frm} (a:b.length<=i):bw b i frm=aH (b.drop frm):=by rw [bw,dif_neg qO]
theorem jU {b i frm} (a:i<b.length) (c:(aL b i).1<4):bw b i frm=bw b (i+1) frm:=by rw [bw,dif_pos a,if_pos c]
theorem jV {b i frm} (a:i<b.length) (c:4<=(aL b i).1):
  bw b i frm=aH ((b.drop frm).take (i-frm))++(num (2*((aL b i).1-4)+1)++(num (aL b i).2++bw b (i+(aL b i).1) (i+(aL b i).1))):=by
 rw [bw,dif_pos a,if_neg qO]
theorem jW {b i} (d:0<(aL b i).1):0<(aL b i).2/\(aL b i).2<=i/\(aL b i).2<=4096/\(aL b i).1<=259/\i+(aL b i).1<=b.length/\
  ∀j,j<(aL b i).1->b[i-(aL b i).2+j]?=b[i+j]?:=by
 have a:=jS b i (min 4096 i);have e:=a.2.2.2 d;refine ⟨e.1,?_,?_,a.2.1,?_,fun j c=> ?_⟩
 ·have:=a.1;unfold aL;omega
 ·have:=a.1;unfold aL;omega
 ·unfold aL at d ⊢; omega
 unfold aL at c ⊢;rw [<-e.2] at c;exact pL c
def cw (out:LU) (d:Nat):Nat->LU
 | 0=>out
 | n+1=>cw (out++[out.getD (out-d) 0]) d n
theorem lZ (d): ∀(n:Nat) (out:LU),(cw out d n).length=out+n
 | 0,out=>rfl
 | n+1,out=>by rw [cw,lZ d n,b7,ND];omega
def ek (size:Nat):Nat->LU->LU->Option (LU)
 | _,out,[]=>if out=size then some out else none
 | 0,_,_::_=>none
 | f+1,out,c::q=>
  match ad (c::q) with
  | none=>none
  | some (a,rest)=>
   if a%2=0 then
    if a/2+1<=size-out/\a/2+1<=rest then ek size f (out++rest.take (a/2+1)) (rest.drop (a/2+1)) else none
   else
    match ad rest with
    | none=>none
    | some (d,b)=>if a/2+4<=size-out/\a/2+4<=259/\1<=d/\d<=out/\d<=4096 then ek size f (cw out d (a/2+4)) b else none
def bI (size:Nat) (out p:LU):Option (LU):=ek size p out p
def cf (p:LU) (b:Int):Option (LU):=
 match ad p with
 | none=>none
 | some (a,c)=>if (a:Int)<=b then bI a [] c else none
theorem bL {p t rest} (a:ad p=some (t,rest)):rest.length<p.length:=by
 obtain ⟨rfl,_⟩:=ch a;have:=kC t;rw [b7];omega
theorem we (size): ∀(f g:Nat) (out p:LU),p<=f->p<=g->ek size f out p=ek size g out p:=by
 intro f;induction f with
 | zero=>
  intro g out p hf hg;obtain rfl:p=[]:=nZ qO;cases g<;>rfl
 | succ f ih=>
 intro g out p hf hg;cases p with
 | nil=>cases g<;>rfl
 | cons c q=>
 cases g with
 | zero=>simp at hg
 | succ g=>
 rw [ek,ek];exact z35
theorem jX (size out):bI size out []=if out.length=size then some out else none:=rfl
theorem wg {size out p} (a:p≠[]) (b:ad p=none):bI size out p=none:=by
 cases p with
 | nil=>exact absurd rfl a
 | cons c d=>unfold bI;rw [List.length_cons,ek,b]
theorem pO {size out p t rest} (a:ad p=some (t,rest)) (b:t%2=0):
  bI size out p=if t/2+1<=size-out.length/\t/2+1<=rest.length then bI size (out++rest.take (t/2+1)) (rest.drop (t/2+1)) else none:=by
 have c:=bL a;cases p with
 | nil=>simp at c
 | cons d e=>
 unfold bI;rw [List.length_cons,ek,a];simp only;rw [if_pos b];split
 ·rw [we]
  ·rw [b8,List.length_cons] at *; omega
  exact lR _
 rfl
theorem jY {size out p t rest} (a:ad p=some (t,rest)) (e:t%2=1) {d rest2} (b:ad rest=some (d,rest2)):
  bI size out p=if t/2+4<=size-out.length/\t/2+4<=259/\1<=d/\d<=out.length/\d<=4096 then bI size (cw out d (t/2+4)) rest2 else none:=by
 have c:=bL a;have f:=bL b;cases p with
 | nil=>simp at c
 | cons g h=>
 unfold bI;rw [List.length_cons,ek,a];simp only;rw [if_neg qO,b];simp only;split
 ·rw [we]
  ·rw [List.length_cons] at *; omega
  exact lR _
 rfl
theorem pP {size out p t rest} (a:ad p=some (t,rest)) (d:t%2=1) (b:ad rest=none):bI size out p=none:=by
 have c:=bL a;cases p with
 | nil=>simp at c
 | cons e f=>
 unfold bI;rw [List.length_cons,ek,a];simp only;rw [if_neg qO,b]
theorem GX {size out p t rest} (a:ad p=some (t,rest)) (b:t%2=1) (e: ¬(t/2+4<=size-out.length/\t/2+4<=259)):bI size out p=none:=by
 cases c:ad rest with
 | none=>exact pP a b c
 | some f=>
 obtain ⟨g,h⟩:=f;rw [jY a b c,if_neg (fun d=>e ⟨d.1,d.2.1⟩)]
theorem wi {b:LU} {d}: ∀(n i:Nat),1<=d->d<=i->i+n<=b->(∀j,j<n->b[i-d+j]?=b[i+j]?)->cw (b.take i) d n=b.take (i+n)
 | 0,i,_,_,_,_=>rfl
 | n+1,i,f,k,l,a=>by
  have g:(b.take i).length=i:=by rw [b9];omega
  have c:i<b:=qO;have h:(b.take i).getD ((b.take i).length-d) 0=b[i]:=by
   have e:=a 0 qO;rw [Oe,Oe,gE c] at e;rw [g,Ov,w7,if_pos qO,e];rfl
  rw [cw,h,<-n9 c,wi n (i+1) f qO qO fun j m=> ?_]
  ·congr 1;omega
  have:=a (j+1) qO;rw [show i+1-d+j=i-d+(j+1) by omega,show i+1+j=i+(j+1) by omega];exact this
def cI:Nat:=1152921504606846975
theorem wj {size out l q} (b:l.length<=size-out.length) (c:l.length<=cI):bI size out (aH l++q)=bI size (out++l) q:=by
 unfold aH;by_cases a:l=[]
 ·rw [if_pos a,a];simp
 have e:=L9.2 a;rw [if_neg a,g9,pO (dV (2*(l.length-1)) (l++q) (by unfold av;unfold cI at c;omega)) qO];have d:2*(l.length-1)/2+1=l:=qO;rw [d,if_pos ⟨b,by rw [b7];omega⟩,Nx,OS]
theorem GY {size out q n d} (h:4<=n) (a:n<=size-out.length) (b:n<=259) (c:1<=d) (e:d<=out.length) (f:d<=4096):
  bI size out (num (2*(n-4)+1)++(num d++q))=bI size (cw out d n) q:=by
 rw [jY (dV (2*(n-4)+1) (num d++q) (by unfold av;omega)) qO (dV d q (by unfold av;omega))];have g:(2*(n-4)+1)/2+4=n:=qO;rw [g,if_pos ⟨a,b,c,e,f⟩]
theorem GZ (b) (t:b.length<=cI): ∀(m i a:Nat),b.length-i<=m->a<=i->i<=b.length->bI b.length (b.take a) (bw b i a)=some b:=by
 have f: ∀(i a:Nat),a<=i->i=b->bI b (b.take a) (bw b i a)=some b:=by
  intro i a g d;have e:(b.take a).length=a:=by rw [b9];omega
  have:=wj (size:=b.length) (out:=b.take a) (l:=b.drop a) (q:=[]) (by rw [b8,e];exact lR _) (by rw [b8];omega);rw [jT qO,<-List.append_nil (aH _),this,r8,jX,if_pos rfl]
 intro m;induction m with
 | zero=>intro i a g d p;exact f i a d qO
 | succ m h=>
 intro i a g d p;by_cases k:i<b
 ·by_cases r:(aL b i).1<4
  ·rw [jU k r];exact h (i+1) a qO qO qO
  have c:=jW (b:=b) (i:=i) qO;have e:(b.take a).length=a:=by rw [b9];omega
  have n:((b.drop a).take (i-a)).length=i-a:=by rw [b9,b8];omega
  have s:b.take a++(b.drop a).take (i-a)=b.take i:=by
   have:=PD (l:=b) (i:=a) (j:=i-a);rw [<-this];congr 1;omega
  have o:(b.take i).length=i:=by rw [b9];omega
  rw [jV k qO,wj (by rw [n,e];omega) (by rw [n];omega),s,
   GY qO (by rw [o];omega) c.2.2.2.1 c.1 (by rw [o];exact c.2.1) c.2.2.1,wi _ _ c.1 c.2.1 c.2.2.2.2.1 c.2.2.2.2.2]
  exact h _ _ qO (lR _) c.2.2.2.2.1
 exact f i a d qO
theorem tF {b} (a:b.length<=cI) (most):cf (aA b) most=if (b.length:Int)<=most then some b else none:=by
 unfold cf aA;rw [dV _ _ (by unfold av;unfold cI at a;omega)];simp only;have:=GZ b a b 0 0 qO (lR _) (zL);rw [Nw] at this;rw [this]
theorem nE {n} (a:n<128):(num n).length<=1:=aJ 0 n qO
theorem pQ {n} (a:n<16384):(num n).length<=2:=aJ 1 n qO
theorem gL {n} (a:n<268435456):(num n).length<=4:=aJ 3 n qO
theorem jc (l) (c:l.length<=16777216):(l.length=0->(aH l).length=0)/\(l.length<=64->(aH l).length<=l.length+1)/\(l.length<=8192->(aH l).length<=l.length+2)/\(aH l).length<=l.length+4:=by
 unfold aH;by_cases a:l=[]
 ·rw [if_pos a,a];simp
 have d:=L9.2 a;rw [if_neg a,b7];refine ⟨fun e=>by omega,fun b=> ?_,fun b=> ?_,?_⟩
 ·have:=nE (n:=2*(l.length-1)) qO;omega
 ·have:=pQ (n:=2*(l.length-1)) qO;omega
 have:=gL (n:=2*(l.length-1)) qO;omega
theorem Ha (b) (r:b.length<=16777216): ∀(m i a:Nat),b.length-i<=m->a<=i->i<=b.length->4*(bw b i a).length<=5*(b.length-a)+12:=by
 have f: ∀(i a:Nat),a<=i->i=b->4*(bw b i a).length<=5*(b-a)+12:=by
  intro i a g e;rw [jT qO];have k:(b.drop a).length=b-a:=b8;have d:=jc (b.drop a) qO;rw [k] at d;rcases (by omega:b-a=0\/(0<b-a/\b-a<=64)\/(64<b-a/\b-a<=8192)\/8192<b-a) with c | c | c | c
  ·have:=d.1 c;omega
  ·have:=d.2.1 c.2;omega
  ·have:=d.2.2.1 c.2;omega
  have:=d.2.2.2;omega
 intro m;induction m with
 | zero=>intro i a g e l;exact f i a e qO
 | succ m h=>
 intro i a g e l;by_cases j:i<b
 ·by_cases o:(aL b i).1<4
  ·rw [jU j o];exact h (i+1) a qO qO qO
  have p:=jW (b:=b) (i:=i) qO;have q:((b.drop a).take (i-a)).length=i-a:=by rw [b9,b8];omega
  have d:=jc ((b.drop a).take (i-a)) qO;rw [q] at d;have s:=h (i+(aL b i).1) (i+(aL b i).1) qO (lR _) p.2.2.2.2.1;have t:=pQ (n:=(aL b i).2) qO;rw [jV j qO,b7,b7,b7];have u:=pQ (n:=2*((aL b i).1-4)+1) qO;have v:4*(aH ((b.drop a).take (i-a))).length<=5*(i-a)+4:=by
   rcases (by omega:i-a=0\/(0<i-a/\i-a<=64)\/(64<i-a/\i-a<=8192)\/8192<i-a) with c | c | c | c
   ·have:=d.1 c;omega
   ·have:=d.2.1 c.2;omega
   ·have:=d.2.2.1 c.2;omega
   have:=d.2.2.2;omega
  by_cases w:(aL b i).1<=67
  ·have x:=nE (n:=2*((aL b i).1-4)+1) qO;omega
  omega
 exact f i a e qO
theorem ln (b) (a:b.length<=16777216):(aA b).length<=b.length+b.length/4+9:=by
 have c:=Ha b a b 0 0 qO (lR _) (zL);have d:=gL (n:=b.length) qO;unfold aA;rw [b7];omega
end Go.Dol
namespace Go.Proofs.YtecpbcmpncgokaaGreat
def wk (b:LU) (k i:Nat) (w:World) (n:Value) (wr:World):Prop:=
 ∃a d:Nat,n= .int .i64 a/\a<=259/\i+a<=b/\Hid (∀c,c<a->b[k+c]?=b[i+c]?)/\Hid (wr=w.drewN d)
theorem World.drewN_zero' (w:World):w.drewN 0=w:=rfl
theorem Hb (A b c k i w B) (a:Rd w B 1 A b.length (bc b)) (e:b.length<=kaa) (f:k<i) (hi:i<=b.length):
  Calls an 250 #[.slice A b c,.int .i64 k,.int .i64 i] w fun d w'=>d= .returned (.int .i64 (bT b k i:Nat))/\ ∃n,w'=w.drewN n:=by
 go_in;go_wp2_with fail;go_loopw [7] (fun n wr=>wk b k i w n wr) (fun n _=>259-(intOf n).toNat)
 case atStart=>exact ⟨0,0,rfl,qO,qO,fun j hj=>by omega,rfl⟩
 case round=>
  obtain ⟨m,q,rfl,g,l,hs,hwr⟩:=hrel;have hrw:Rd wr B 1 A b (bc b):=by rw [hwr];exact a.drewN q
  exact z215
def Hd (b:LU) (i:Nat) (w:World) (f g d:Value) (wr:World):Prop:=
 ∃a h c e:Nat,f= .int .i64 c/\g= .int .i64 e/\d= .int .i64 a/\1<=a/\a<=min 4096 i+1/\c<=259/\Hid (bP b i (a-1)=(c,e))/\Hid (wr=w.drewN h)
theorem wm (A b c i w B) (r:Rd w B 1 A b.length (bc b)) (s:b.length<=kaa) (hi:i<=b.length):
  Calls an 203 #[.slice A b c,.int .i64 i] w fun a w'=>a= .returned (.tuple #[.int .i64 ((aL b i).1:Nat),.int .i64 ((aL b i).2:Nat)])/\ ∃n,w'=w.drewN n:=by
 go_in;go_wp2_with fail;go_loopw [6,7,8] (fun t u d wr=>Hd b i w t u d wr) (fun _ _ d _=>4097-(intOf d).toNat)
 case atStart=>exact ⟨1,0,0,0,rfl,rfl,rfl,qO,qO,qO,rfl,rfl⟩
 case round=>
  obtain ⟨d,q,n,m,rfl,rfl,rfl,I,J,v,hbst,hwr⟩:=hrel;have x:Rd wr B 1 A b (bc b):=by rw [hwr];exact r.drewN q
  by_cases K:d<=4096
  ·have y:=dtX ((d:Int)<=4096);have z:(d:Int)<=4096:=qO;by_cases L:d<=i
   ·have C:=dtX (d<=i);have D:(d:Int)<=i:=qO;have ha:=(mj b (i-d) i).1;have E:=qiJ (i-d);have F:(i:Int)-d=((i-d:Nat):Int):=qO;have e:Hid (bP b i d=if n<bT b (i-d) i then (bT b (i-d) i,d) else (n,m)):=by
     unfold Hid;have a:d=(d-1)+1:=qO;rw [a,bP,<-a,hbst]
    obtain ⟨f,j⟩:=gH (bT b (i-d) i);rw [<-j] at e ha;go_wp2_with fail;refine (Hb A b c (i-d) i wr B x s qO hi).mono ?_;rintro a G ⟨rfl,g,k⟩;have l:Hid (G=w.drewN (q+g)):=by unfold Hid;rw [k,hwr,o8]
    rw [<-j];clear k E F;by_cases o:n<f
    ·rw [if_pos o] at e;have H:=dtX ((n:Int)<f);have M:=ltI n f;go_wp2_with fail;exact ⟨⟨d+1,q+g,f,d,rfl,rfl,by go_num,qO,qO,ha,e,l⟩,by simp [intOf];omega⟩
    rw [if_neg o] at e;have H:=dfX ((n:Int)<f);go_wp2_with fail;exact ⟨⟨d+1,q+g,n,m,rfl,rfl,by go_num,qO,qO,v,e,l⟩,by simp [intOf];omega⟩
   have C:=dfX (d<=i);have D: ¬((d:Int)<=i):=qO;exact z265
  have y:=dfX ((d:Int)<=4096);have z: ¬((d:Int)<=4096):=qO;exact z265
def He (w:World) (l:LU) (d:Ending) (w':World):Prop:=
 ∃(a:LU) (c:OA) (b:Nat),Hid (a=l)/\d= .returned (.slice c a b)/\Rd w' w' 1 c a (bc a)/\Below w w w'/\a<=b/\b<=maxLen
def wn (w:World) (l:LU) (d:Ending) (w':World):Prop:=
 ∃(a:LU) (c:OA) (b:Nat),Hid (a=l)/\d= .returned (.slice c a b)/\Far w' 0 c a/\Below w w w'/\a<=b/\b<=maxLen
theorem pR (A out c A2 l n c2 w) (hn:n=l.length) (hr:Far w 0 A out) (hc:out.length<=c) (hc2:c<=maxLen) (d:Rd w w.heap.size 1 A2 n (bc l))
  (t:out+9+n<=kaa):
  Calls an 204 #[.slice A out c,.slice A2 n c2] w (wn w (out++aH l)):=by
 by_cases h0:l=[]
 ·exact z277
 have e:=L9.2 h0;have u:0<n:=qO;have v:((n:Int)==0)=false:=by simp;omega
 have x:=qiJ (n-1);have hcl:Hid (aj (2*((n:Int)-1))=2*(l-1)):=by unfold Hid aj;omega
 clear hn e;go_in;go_wp2_with fail;refine (cj A out c _ w hr.1 qO).mono ?_;rintro y f ⟨b,z,B,e1,rfl,g,a,C,D⟩;have E:b.length<=out+9:=by
  exact z233
 have i:=(d.belowW a (lR _)).more a.size;go_wp2_with (at_builtin;refine bQ rfl (.tmp 14) (.tmp 15) rfl w.heap.size _ b.length b rfl g f.heap.size A2 n c2 l rfl i (by omega) a.size ?_);intro j k m F e2 o q _ _ r s;go_wp2_with fail;go_ret;refine ⟨j,k,m,?_,rfl,J7 (s7 o),a.trans q,r,s⟩;exact z249
theorem Hf (A out c A2 l n c2 w) (hn:n=l.length) (hr:Rd w w.heap.size 1 A out.length (bc out)) (hc:out.length<=c) (hc2:c<=maxLen) (d:Rd w w.heap.size 1 A2 n (bc l))
  (t:out+9+n<=kaa):
  Calls an 169 #[.slice A out c,.slice A2 n c2] w (He w (out++aH l)):=by
 by_cases h0:l=[]
 ·exact z277
 have e:=L9.2 h0;have u:0<n:=qO;have v:((n:Int)==0)=false:=by simp;omega
 have x:=qiJ (n-1);have hcl:Hid (aj (2*((n:Int)-1))=2*(l-1)):=by unfold Hid aj;omega
 clear hn e;go_in;go_wp2_with fail;refine (dL A out c _ w hr qO).mono ?_;rintro y f ⟨b,z,B,e1,rfl,g,a,C,D⟩;have E:b.length<=out+9:=by
  exact z233
 have i:=(d.belowW a (lR _)).more a.size;go_wp2_with (at_builtin;refine bQ rfl (.tmp 14) (.tmp 15) rfl w.heap.size _ b.length b rfl g f.heap.size A2 n c2 l rfl i (by omega) a.size ?_);intro j k m F e2 o q _ _ r s;go_wp2_with fail;go_ret;refine ⟨j,k,m,?_,rfl,d8 o,a.trans q,r,s⟩;exact z249
def Hg (b:LU) (w:World) (out g i:Value) (wr:World):Prop:=
 ∃(a d:Nat) (c:LU) (f:OA) (e:Nat),out= .slice f c e/\g= .int .i64 d/\i= .int .i64 a/\d<=a/\a<=b/\Hid (aA b=c++bw b a d)/\
  Far wr 0 f c/\Below w w wr/\c<=e/\e<=maxLen
theorem pS {b l k f} (a:b.length<=16777216) (c:aA b=l++bw b k f):l.length<=20971540:=by
 have d:=ln b a;rw [c,b7] at d;omega
theorem ml {k:Nat} (a:k<=kag):aj (k:Int)=k:=by unfold aj;omega
theorem Df (A b c w) (N:Rd w w.heap.size 1 A b.length (bc b)) (O:b.length<=kah) (D:b.length<=c):
  Calls an 128 #[.slice A b c] w (wn w (aA b)):=by
 go_in;go_wp2_with fail;refine (cj none [] 0 _ w L8 (by decide)).mono ?_;rintro e j0 ⟨E,g,o,e1,rfl,F,G,j,l⟩;have H:Hid (aA b=E++bw b 0 0):=by
  exact z278
 clear e1;go_wp2_with fail;go_loopw [3,4,5] (fun P f i wr=>Hg b w P f i wr) (fun _ _ i _=>b-(intOf i).toNat)
 case atStart=>exact ⟨0,0,E,g,o,rfl,rfl,rfl,lR _,zL,H,J7 (s7 F),G,j,l⟩
 case round=>
  clear F G H j l;obtain ⟨k,f,d,g,o,rfl,rfl,rfl,Q,R,q,s,hbel,j,l⟩:=hrel;have k0:=pS O q.out;have hs:=hbel.size;have t:=(N.belowW hbel (lR _)).more hs;by_cases I:k<b
  ·have S:=ltI k b.length;go_wp2_with fail;refine (wm A b c k wr _ t qO qO).mono ?_;rintro e r ⟨rfl,y,u⟩;have J:Far r 0 g d:=by rw [u];exact s.below ((bR _ _).drewN' y)
   have T:Rd r r 1 A b (bc b):=by rw [u];exact t.drewN y
   have z:Below w w r:=by rw [u];exact hbel.drewN' y
   clear u s t hbel hs;have hs:=z.size;have U:=pN b k;have a:=jW (b:=b) (i:=k);obtain ⟨n,m⟩:=gX ((aL b k).1);obtain ⟨B,v⟩:=gX ((aL b k).2);rw [<-m,<-v] at a ⊢;rw [<-m] at U;by_cases V:n<4
   ·have l0:(n:Int)<4:=qO;have heq':Hid (aA b=d++bw b (k+1) f):=by unfold Hid;rw [q,jU I (by rw [<-m];exact V)]
    clear m v a;go_wp2_with fail;exact ⟨⟨k+1,f,d,g,o,rfl,rfl,by go_num,qO,qO,heq',J,z,j,l⟩,by simp [intOf];omega⟩
   have a:=a qO;have heq':Hid (aA b=d++(aH ((b.drop f).take (k-f))++(num (2*(n-4)+1)++(num B++bw b (k+n) (k+n))))):=by unfold Hid;rw [q,jV I (by rw [<-m];omega),<-m,<-v]
   have hcut:=T.cut (lo:=f) (hi:=k) (cap:=c) Q R D;rw [if_neg qO,s9,s9,dW,dx] at hcut;have m0:=a.1;have n0:=a.2.2.1;have o0:=a.2.2.2.1;have W:=a.2.2.2.2.1;clear m v a q;have X:(f:Int)<=k:=qO;have p0:(k:Int)<=c:=qO;have C: ¬(c=f):=qO;go_wp2_with fail;refine (pR g d o _ ((b.drop f).take (k-f)) (k-f) _ r (by rw [b9,b8];omega) J j l hcut qO).mono ?_;rintro e w3 ⟨l3,A3,c3,e3,rfl,hr3,hb3,j1,j2⟩;go_wp2_with fail;have q0:l3.length<=37748800:=by
    exact z239
   have hcl1:Hid (aj (2*((n:Int)-4)+1)=2*(n-4)+1):=by unfold Hid aj;omega
   have hcl2:Hid (aj (B:Int)=B):=ml qO;refine (cj A3 l3 c3 _ w3 hr3.1 qO).mono ?_;rintro e Y ⟨K,Z,a0,e4,rfl,b0,L,r0,s0⟩;have t0:K.length<=37748809:=by
    exact z113
   go_wp2_with fail;refine (cj Z K a0 _ Y (d8 b0) qO).mono ?_;rintro e u0 ⟨M,c0,d0,e5,rfl,e0,f0,g0,h0⟩;have hfin:Hid (aA b=M++bw b (k+n) (k+n)):=by
    exact z123
   have i0:=((z.trans (hb3.mono hs)).trans (L.mono (lT hs hb3.size))).trans (f0.mono (lT (lT hs hb3.size) L.size));go_wp2_with fail;exact ⟨⟨k+n,k+n,M,c0,d0,rfl,by go_num,by go_num,lR _,W,hfin,J7 (s7 e0),i0,g0,h0⟩,by simp [intOf];omega⟩
  have S: ¬((k:Int)<b):=qO;have x:=t.tail (k:=f) (cap:=c) qO D;have hfin:Hid (aA b=d++aH (b.drop f)):=by unfold Hid;rw [q,jT qO]
  have X:(f:Int)<=b:=qO;by_cases C:c=f
  ·rw [if_pos C] at x;go_wp2_with fail;refine (pR g d o _ (b.drop f) (b-f) _ wr (by rw [b8]) s j l x qO).mono ?_;exact z31
  rw [if_neg C] at x;go_wp2_with fail;refine (pR g d o _ (b.drop f) (b-f) _ wr (by rw [b8]) s j l x qO).mono ?_;exact z31
def Hh (size:Nat) (r:Option (LU)) (w:World) (p out:Value) (wr:World):Prop:=
 ∃(l a:LU) (b c:OA) (d e:Nat),p= .slice b l d/\out= .slice c a e/\Hid (r=bI size a l)/\a<=size/\l.length<=kaa/\
  Seg wr w 5 1 b l d (bc l)/\wr.ownsRow w 5 1 (.slice c a e) a (bc a)/\Apart b d (.slice c a e)/\Below w w wr
def Hi (g:LU) (d n:Nat) (A:OA) (c:Nat) (l:LU) (w:World) (out k:Value) (wr:World):Prop:=
 ∃(b:Nat) (a:LU) (e:OA) (f:Nat),out= .slice e a f/\k= .int .i64 b/\b<=n/\Hid (cw g d n=cw a d (n-b))/\Hid (a.length=g+b)/\
  Seg wr w 5 1 A l c (bc l)/\wr.ownsRow w 5 1 (.slice e a f) a (bc a)/\Apart A c (.slice e a f)/\Below w w wr
def mn (w:World) (g:Nat) (c d h:Value) (r:Option (Nat×LU)) (e:Ending) (w':World):Prop:=
 match r with
 | none=>e= .returned (.int .i64 0)/\Blk w' g 243 [eL,c,d,.int .i64 2]/\w.grownBy w' (some g)
 | some (i,j)=> ∃(a:LU) (f:OA) (b:Nat),Hid (a=j)/\e= .returned (.int .i64 (i:Nat))/\Blk w' g 243 [.slice f a b,c,d,h]/\w'.ownsRow w 5 1 (.slice f a b) a (bc a)/\w.grownBy w' (some g)/\a<=b
theorem gq (g A p c vo vs ve w) (d:Blk w g 243 [.slice A p.length c,vo,vs,ve]) (m:Rd w w.heap.size 1 A p.length (bc p)) (n:p.length<=kaa) (o:p<=c):
  Calls an 175 #[.pointer (some g)] w (mn w g vo vs ve (ad p)):=by
 have f:=d.lt;have i:=d.c 0;go_in;go_wp2_with fail;refine (fu A p c w m n o).mono ?_;intro v x e;rcases ht:ad p with _ | ⟨y,z⟩
 ·rw [ht] at e;obtain ⟨rfl,b⟩:=e;have a:=d.below b f;have q:=a.free 0;have B:=a.free 3;have r:=a.c 0;have C:=a.c 3;have h:=qI ht;clear ht i;go_wp2_with fail;go_ret;rw [h];exact ⟨rfl,(a.set 3 (.int .i64 2)).set 0 (.slice none 0 0),ae (ae (ax b _) _ _) _ _⟩
 rw [ht] at e;obtain ⟨j,k,l,s,rfl,t,b,u,D⟩:=e;have a:=d.below b f;have q:=a.free 0;have r:=a.c 0;have h:=qI ht;clear ht i;go_wp2_with fail;go_ret;rw [h];exact ⟨j,k,l,s,rfl,a.set 0 (.slice k j l),fX t (ae (gR _ _) _ _) f,ae (ax b _) _ _,u⟩
theorem mo (g:Nat) (x:Nat) (vp vo vs w) (a:Blk w g 243 [vp,vo,vs,x]):
  Calls an 176 #[.pointer (some g),true] w fun b w'=>b= .returned (.bool ((x:Int)==0))/\w=w':=by
 have d:=a.c 3;go_in;go_wp2_with fail;go_ret;exact ⟨rfl,rfl⟩
theorem gt (g ve vp vo vs w) (a:Blk w g 243 [vp,vo,vs,ve]):
  Calls an 176 #[.pointer (some g),false] w fun b w'=>b= .returned false/\Blk w' g 243 [vp,vo,vs,.int .i64 2]/\w.grownBy w' (some g):=by
 have d:=a.c 3;have e:=a.free 3;go_in;go_wp2_with fail;go_ret;exact ⟨rfl,a.set 3 (.int .i64 2),ae (gR _ _) _ _⟩
end Go.Proofs.YtecpbcmpncgokaaGreat
namespace Go.Proofs.YtecpbcmpncgokaaGreat
attribute [local irreducible] wpStill
def OpnSt (w:World) (base g:Nat) (p a:LU) (size:Nat):Prop:=
 ∃(b c:OA) (d e:Nat),Blk w g 243 [.slice b p d,.slice c a e,size,i0]/\Seg w base 5 1 b p d (bc p)/\
  w.ownsRow base 5 1 (.slice c a e) a (bc a)/\Apart b d (.slice c a e)
def gu (w:World) (g size:Nat):Prop:=∃ (a b:OA) (c d e f:Nat),Blk w g 243 [.slice a c d,.slice b e f,size,.int .i64 2]
theorem wo (g Ap Ao np cp no co) (size n:Nat) (ve w) (hblk:Blk w g 243 [.slice Ap np cp,.slice Ao no co,size,ve]) (a: ¬(n<=size-no/\n<=np)) (i:no<=size) (j:size<=kag) (k:np<=kaa) (l:1<=n) (m:n<=kag):
  Calls an 177 #[.pointer (some g),n] w fun e w'=>e= .returned (.tuple #[])/\gu w' g size/\w.grownBy w' (some g):=by
 have o:=hblk.c 0;have q:=hblk.c 1;have r:=hblk.c 2;have s:=qiJ (size-no);by_cases b:n<=size-no
 ·have d: ¬n<=np:=fun h=>a ⟨b,h⟩;have f:=dtX ((n:Int)<=size-no);have t:(n:Int)<=size-no:=qO;have u:=dfX (n<=np);clear a b d;exact z242
 have f:=dfX ((n:Int)<=size-no);clear a b;exact z242
theorem ws {w ops o a K Q} {k:Prop} (l:o.guard=none) (s x)
  (p:o.op= .call { callee:=.builtin .append,args:=#[s,x],argTypes:=#[36,36] })
  (base v n xs) (q:a.eval s=v) (d:w.ownsRow base 5 1 v n (bc xs))
  (B A m c news) (r:a.eval x= .slice A m c) (e:Rd w B 1 A m (bc news))
  (D:n+m<=kaa) (hbase:base<=w.heap.size)
  (t: ∀(b:LU) (A':OA) (c':Nat) (w':World),Hid (b=xs++news)->w'.ownsRow base 5 1 (.slice A' b.length c') b.length (bc b)->Below base w w'->w.grownBy w' v.ownBlock->
   Hid ((it A' b.length c').ownBlock=v.ownBlock\/(it A' b.length c').ownBlock=some w.heap.size)->b.length<=c'->c'<=maxLen->K (a.put o.dst (.slice A' b.length c')) w'):if up o (yielded ops a.tmps)=true then Oper.wp an o a w K Q else k:=by
 have u:up o (yielded ops a.tmps)=true:=by simp [up,l]
 rw [if_pos u];refine hG w s x _ p base _ _ 1 1 q7 eh rfl (by decide) v n (bc xs) q d B A m c (bc news) r e (fW _) (by unfold maxLen;omega) qO hbase ?_;intro A' c' w' f g h i y;have E:n=xs:=by have:=d.1;rw [bC] at this;omega
 have F:m=news:=by have:=e.len;rw [bC] at this;omega
 have j:n+m=(xs++news).length:=by rw [b7];omega
 rw [<-ez,j] at f;rw [j] at h i ⊢;exact t _ A' c' w' rfl f ((bR _ _).grown g hbase (fun z C=>(d.lt z C).1)) g h i y
theorem wt {w4} {base g size n b c c':Nat} {p a:LU} {Ap A' Ao3} (d:Blk w4 g 243 [.slice Ap p c,.slice Ao3 a.length b,size,i0])
  (h:Seg w4 base 5 1 A' (p-n) c' (bc (p.drop n))) (i:w4.ownsRow base 5 1 (.slice Ao3 a.length b) a.length (bc a)) (j:Apart Ap c (.slice Ao3 a.length b)) (k:au A'=au Ap) (l:0<c'->0<c):
  OpnSt (w4.setCell g (.slice A' (p-n) c')) base g (p.drop n) a size:=by
 have e:w4.grownBy (w4.setCell g (.slice A' (p-n) c')) (some g):=ae (gR _ _) _ _;have m:=d.set 0 (.slice A' (p-n) c');have f:(p.drop n).length=p-n:=by simp
 refine ⟨A',Ao3,c',b,?_,?_,aE i d (by decide) e,j.piece l k⟩
 ·rw [f];exact m
 rw [f];exact fy h d (by decide) e
theorem Hj (base g p o size n w) (T:OpnSt w base g p o size) (f0:n<=size-o) (J:n<=p.length) (g0:o<=size) (h0:size<=kaa) (j0:p.length<=kaa) (k0:1<=n) (y:base<=g) (hbase:base<=w):
  Calls an 177 #[.pointer (some g),.int .i64 n] w fun t w'=>t= .returned (.tuple #[])/\OpnSt w' base g (p.drop n) (o++p.take n) size/\Below base w w':=by
 obtain ⟨h,u,a,v,d,z,K,A⟩:=T;have U:=d.c 0;have V:=d.c 1;have W:=d.c 2;have l0:=qiJ (size-o);have m0:=dtX ((n:Int)<=size-o);have n0:(n:Int)<=size-o:=qO;have o0:=dtX (n<=p);have p0:(n:Int)<=p:=qO;have q0:=z.2.1;have r0:(n:Int)<=a:=qO;go_in;go_wp2_with fail;go_still_tail 22,qkR;change wpList _ _ _ _ _ (pp w);go_wp2_with fail;refine (mo g 0 _ _ _ (pp w) d.drew).mono ?_;rintro t b ⟨rfl,i⟩;have j:Blk b g 243 [.slice h p a,.slice u o v,size,i0]:=by rw [<-i];exact d.drew
 have x:Seg b base 5 1 h p a (bc p):=by rw [<-i];exact z.drew
 have B:b.ownsRow base 5 1 (.slice u o v) o (bc o):=by rw [<-i];exact K
 have C:Below base w b:=by rw [<-i];exact (bR _ _).drew
 have X:=j.c 0;have L:=j.c 1;have Y:=lT hbase C.size;clear i U V W;go_wp2_with fail;have Z:some g≠(it u o v).ownBlock:=fun t=>own_ne B j (by decide) t.symm;have a0:(pp b).cell? ⟨g,1,none⟩=some (.slice u o v):=L;go_region_law ((refine ws (by rfl) (.tmp 31) (.tmp 37) (by rfl) base _ o o (by rfl) (w:=pp b) B _ h n a (p.take n) (by rfl) (x.drew.rd.head (l:=p) J) qO Y ?_;intro k m q e M N O D P s0 t0;have f:=(j.drew).grown D Z;have b0:=f.c 1;have c0:=f.free 1))
 all_goals
  have r:Blk (e.setCell ⟨g,1,none⟩ (.slice m k q)) g 243 [.slice h p a,.slice m k q,size,i0]:=f.set 1 _;have E:e.grownBy (e.setCell ⟨g,1,none⟩ (.slice m k q)) (some g):=ae (gR _ _) _ _;have Q:Seg e base 5 1 h p a (bc p):=x.drew.keepR D A;have R:=A.app x.drew (lR _) P.out;have S:=fy Q f (by decide) E;have F:=aE N f (by decide) E;have G:Below base w (e.setCell ⟨g,1,none⟩ (.slice m k q)):=(C.trans ((bR base b).drew.trans O)).setCell (p:=⟨g,1,none⟩) y _;obtain ⟨u0,H⟩:=gX (e.setCell ⟨g,1,none⟩ (.slice m k q));rw [<-H] at r S F G;rw [<-H];have v0:=r.c 0;have w0:=r.free 0;have s:=S.tail8 J;have x0:Hid ((p.drop n).length=p-n):=by unfold Hid;simp
  clear H f E Q N O D P b0 c0 x B j X L a0 C d z K A;by_cases I:a=n
  ·rw [if_pos I] at s;have d0:=qI I;go_wp2_with fail;go_end0;have e0:a-n=0:=by have:=d0.out;omega
   rw [e0] at s;rw [<-M];exact ⟨rfl,wt r s F R rfl qO,G.setCell (p:=⟨g,0,none⟩) y _⟩
  rw [if_neg I] at s;go_wp2_with fail;go_end0;rw [<-M];exact ⟨rfl,wt r s F R (jZ _ _) qO,G.setCell (p:=⟨g,0,none⟩) y _⟩
end Go.Proofs.YtecpbcmpncgokaaGreat
namespace Go.Proofs.YtecpbcmpncgokaaGreat
attribute [local irreducible] wpStill wpList
attribute [local go_sem ↓] Go.wp_at_zero Go.wp_at_succ
theorem Hk {w k ops o a K Q} {g:Prop} (i:o.guard=none) (s x)
  (j:o.op= .call { callee:=.builtin .append,args:=#[s,x],argTypes:=#[36,36] })
  (base v n xs) (l:a.eval s=v) (m:w.ownsRow base 5 1 v n (bc xs))
  (q:a.eval x= .slice (some ⟨w.heap.size,0,none⟩) 1 1) (r:0<=k) (t:k<256)
  (u:n+1<=140737488355328) (hbase:base<=w.heap.size)
  (h: ∀(d:UInt8) (b:LU) (A':OA) (c':Nat) (w':World),Hid ((d.toNat:Int)=k)->Hid (b=xs++[d])->w'.ownsRow base 5 1 (.slice A' b.length c') b.length (bc b)->Below base w w'->w.grownBy w' v.ownBlock->
   Hid ((it A' b.length c').ownBlock=v.ownBlock\/(it A' b.length c').ownBlock=some (w.heap.size+1))->
   b.length<=c'->c'<=maxLen->K (a.put o.dst (.slice A' b.length c')) w'):if up o (yielded ops a.tmps)=true then Oper.wp an o a (w.alloc (.cells #[.int .u8 k] 5)) K Q else g:=by
 have y:=(bR base w).alloc hbase (.cells #[.int .u8 k] 5);refine ws i s x j base v n xs l (m.alloc _) (w+1) _ 1 1 [PJ k.toNat] q (Rd.one w _ k r t) u (by simp;omega) ?_;intro b A' c' w' z A B c h4 C D;refine h (PJ k.toNat) b A' c' w' ?_ z A (y.trans B) ⟨c.os,c.tape,c.output,lT (by simp) c.size,fun f E F=>(c.block f (by simp;omega) F).trans (C7 w _ f E)⟩ ?_ C D
 ·unfold Hid;rw [NG];omega
 exact z195
def wu (c:LU) (d n base g:Nat) (q:LU) (size:Nat) (w:World) (k:Value) (wr:World):Prop:=
 ∃(a:Nat) (b:LU),k= .int .i64 a/\a<=n/\Hid (cw c d n=cw b d (n-a))/\Hid (b.length=c+a)/\OpnSt wr base g q b size/\Below base w wr
theorem Hl {w wr w5 o o4 o5 q} {d n m base g size x b a c:Nat} {A1 Ao Ao5 b5} (D:m<n) (k:Hid (cw o d n=cw o4 d (n-m))) (l:Hid (o4.length=o.length+m)) (r:Hid (o4.getD (o4.length-d) 0=PJ x))
  (s:Hid ((b5.toNat:Int)=(x:Int))) (f:Hid (o5=o4++[b5])) (h:Seg wr base 5 1 A1 q.length c (bc q)) (i:Apart A1 c (.slice Ao o4.length b)) (t:(pp wr).grownBy w5 (it Ao o4.length b).ownBlock)
  (u:Hid ((it Ao5 o5.length a).ownBlock=(it Ao o4.length b).ownBlock\/(it Ao5 o5.length a).ownBlock=some ((pp wr).heap.size+1)))
  (v:w5.ownsRow base 5 1 (.slice Ao5 o5.length a) o5.length (bc o5)) (y:Below base (pp wr) w5) (z:Below base w wr) (A:base<=g)
  (e:Blk w5 g 243 [.slice A1 q c,.slice Ao o4.length b,size,i0]):
  wu o d n base g q size w (.int .i64 (m+1)) (w5.setCell ⟨g,1,none⟩ (.slice Ao5 o5 a)):=by
 have j:w5.grownBy (w5.setCell ⟨g,1,none⟩ (.slice Ao5 o5 a)) (some g):=ae (gR _ _) _ _;have B:b5=PJ x:=eu s rfl;have C:=e.set 1 (.slice Ao5 o5 a);refine ⟨m+1,o5,by go_num,qO,?_,?_,⟨A1,Ao5,c,a,C,fy (h.drew.keepR t i) e (by decide) j,aE v e (by decide) j,i.app h.drew (PA _) u.out⟩,(z.trans ((bR base wr).drew.trans y)).setCell (p:=⟨g,1,none⟩) A _⟩
 ·unfold Hid;rw [k,show n-m=(n-(m+1))+1 by omega,cw,r,f,B]
 unfold Hid;rw [f,b7,l];rfl
theorem Hn (base g p q o size n d w) (Y:OpnSt w base g p o size) (s:ad p=some (d,q)) (s0:n<=size-o) (t0:n<=259) (u0:1<=d) (v0:d<=o.length) (w0:d<=4096) (x0:o<=size) (y0:size<=kaj) (Z:p.length<=kaa) (E:base<=g) (hbase:base<=w):
  Calls an 178 #[.pointer (some g),.int .i64 n] w fun i w'=>i= .returned (.tuple #[])/\OpnSt w' base g q (cw o d n) size/\Below base w w':=by
 obtain ⟨a0,t,b0,j,b,f,e,m⟩:=Y;have c0:=f.2.1;go_in;go_wp2_with fail;refine (gq g a0 p b0 _ _ _ w b f.rd Z c0).mono ?_;intro i F G;rw [s] at G;obtain ⟨H,u,v,I,rfl,l,x,y,z0⟩:=G;have A0:=qI s;have d0:=I.out;subst d0;have J:=aE e b (by decide) y;have K:=ON e (s7 x) (lR _);have L:=(s7 x).lower (base':=base) hbase;have M:=ak y E hbase;clear s m f e x y I;have e0:=l.c 1;have f0:=l.c 2;have g0:=qiJ (size-o);have B0:(n:Int)<=size-o:=qO;have C0:(n:Int)<=259:=qO;have D0:(1:Int)<=(d:Int):=qO;have E0:(d:Int)<=o:=qO;have F0:(d:Int)<=4096:=qO;go_wp2_with fail;go_still_tail 34,qkR;change wpList _ _ _ _ _ (pp F);go_wp2_with fail;refine (mo g 0 _ _ _ (pp F) l.drew).mono ?_;rintro i N ⟨rfl,z⟩;have r:OpnSt N base g H o size:=by
  rw [<-z];exact ⟨u,t,v,j,l.drew,L.drew,J,K⟩
 have O:Below base w N:=by rw [<-z];exact M.drew
 clear z e0 f0 l L J K M;go_wp2_with fail;go_loopw [43] (fun k wr=>wu o d n base g H size w k wr) (fun k _=>260-(intOf k).toNat)
 case atStart=>exact ⟨0,o,rfl,zL,rfl,rfl,r,O⟩
 case round=>
  clear r O;obtain ⟨h,a,rfl,G0,P,A,r,B⟩:=hrel;obtain ⟨u,t,v,j,b,f,e,m⟩:=r;have H0:=B.size;have I0:a.length<=o+h:=by have:=A.out;omega
  have J0:o+h<=a:=by have:=A.out;omega
  by_cases h0:h<n
  ·have i0:=ltI h n;have Q:a-d<a:=qO;have K0:d<=a:=qO;obtain ⟨R,S,rfl,L0,T⟩:=(d8 e).at_ qO;have j0:=T (a-d) _ (bu a (a-d) Q);obtain ⟨U,C⟩:=gX ((a[a-d]).toNat);have M0:U<256:=by have:=(a[a-d]).toNat_lt;omega
   rw [<-C] at j0;have g0:=qiJ (a-d);have N0:((a:Int)-d).toNat=a-d:=qO;have O0:(a:Int)-d<a:=qO;have V:a.getD (a-d) 0=PJ U:=by
    rw [Ov,gE Q,C];simp
   have k0:=qI V;have P0:=b.c 1;have Q0: ∀(k:Int),(pp (wr.alloc (.cells #[.int .u8 k] 5))).cell? ⟨g,1,none⟩=some (.slice (some ⟨R,S,none⟩) a j):=fun k=>by rw [(b.alloc _).drew.cell];rfl
   have l0:some g≠(it (some ⟨R,S,none⟩) a j).ownBlock:=fun i=>own_ne e b (by decide) i.symm;clear C V T;go_wp2_with fail;go_region_law ((refine Hk (by rfl) (.tmp 49) (.tmp 63) (by rfl) base _ a a (by rfl) (w:=pp wr) e (by rfl) qO qO qO (by simp;omega) ?_;intro R0 S0 T0 U0 V0 m0 n0 o0 p0 W q0 W0 X0;have D:=(b.drew).grown W l0;have Y0:=D.c 1;have Z0:=D.free 1))
   all_goals
    go_wp2_with fail;exact ⟨Hl h0 P A k0 m0 n0 f m W q0 o0 p0 B E D,by simp [intOf];omega⟩
  have i0: ¬((h:Int)<n):=qO;have X:h=n:=qO;have r0:Hid (cw o d n=a):=by
   unfold Hid;rw [P,X,Nat.sub_self];rfl
  clear X;go_wp2_with fail;go_end0;rw [r0];exact ⟨rfl,⟨u,t,v,j,b,f,e,m⟩,B⟩
end Go.Proofs.YtecpbcmpncgokaaGreat
namespace Go.Proofs.YtecpbcmpncgokaaGreat
attribute [local irreducible] wpStill
theorem ka {w g d x vo vs p} (f:(ad p=none/\d=0/\x=2)\/ ∃q,ad p=some (d,q)/\x=0) (e w') (a:mn w g vo vs i0 (ad p) e w'):
  ∃A n c,e= .returned (.int .i64 (d:Nat))/\Blk w' g 243 [.slice A n c,vo,vs,(x:Nat)]/\w.grownBy w' (some g):=by
 rcases f with ⟨b,rfl,rfl⟩ | ⟨q,b,rfl⟩
 ·rw [b] at a;exact ⟨none,0,0,a.1,a.2.1,a.2.2⟩
 rw [b] at a;obtain ⟨k,A,c,_,h,i,_,j,_⟩:=a;exact ⟨A,_,c,h,i,j⟩
theorem Ho (base g p o size n d x w) (j:OpnSt w base g p o size) (f:(ad p=none/\d=0/\x=2)\/ ∃q,ad p=some (d,q)/\x=0)  (k: ¬n<=size-o) (F:o<=size) (G:size<=kaj) (l:p.length<=kaa) (H:d<=4611686018427387903) (I:n<=4611686018427387903) (J:base<=g):
  Calls an 178 #[.pointer (some g),.int .i64 n] w fun a w'=>a= .returned (.tuple #[])/\gu w' g size/\w.grownBy w' (some g):=by
 obtain ⟨m,r,s,t,h,b,u,v⟩:=j;have y:=b.2.1;go_in;go_wp2_with fail;refine ((gq g m p s _ _ _ w h b.rd l y).mono (ka f)).mono ?_;rintro a i ⟨z,A,B,rfl,e,C⟩;have K:=e.c 1;have L:=e.c 2;have M:=qiJ (size-o);have N:=dfX ((n:Int)<=size-o);clear k;clear f b u v h;go_wp2_with fail;go_still_tail 34,qkR;change wpList _ _ _ _ _ (pp i);go_wp2_with fail;refine (gt g _ _ _ _ (pp i) e.drew).mono ?_;rintro a O ⟨rfl,D,E⟩;go_wp2_with fail;go_end0;exact ⟨rfl,⟨z,r,A,B,o.length,t,D⟩,aq (fa C) E⟩
theorem Hp (base g p o size n d x w) (j:OpnSt w base g p o size) (f:(ad p=none/\d=0/\x=2)\/ ∃q,ad p=some (d,q)/\x=0) (F:n<=size-o) (k: ¬n<=259) (G:o<=size) (H:size<=kaj) (l:p.length<=kaa) (I:d<=4611686018427387903) (J:n<=4611686018427387903) (K:base<=g):
  Calls an 178 #[.pointer (some g),.int .i64 n] w fun a w'=>a= .returned (.tuple #[])/\gu w' g size/\w.grownBy w' (some g):=by
 obtain ⟨m,r,s,t,h,b,u,v⟩:=j;have y:=b.2.1;go_in;go_wp2_with fail;refine ((gq g m p s _ _ _ w h b.rd l y).mono (ka f)).mono ?_;rintro a i ⟨z,A,B,rfl,e,C⟩;have L:=e.c 1;have M:=e.c 2;have N:=qiJ (size-o);have O:(n:Int)<=size-o:=qO;have P:=dfX ((n:Int)<=259);clear k;clear f b u v h;go_wp2_with fail;go_still_tail 34,qkR;change wpList _ _ _ _ _ (pp i);go_wp2_with fail;refine (gt g _ _ _ _ (pp i) e.drew).mono ?_;rintro a Q ⟨rfl,D,E⟩;go_wp2_with fail;go_end0;exact ⟨rfl,⟨z,r,A,B,o.length,t,D⟩,aq (fa C) E⟩
theorem Hq (base g p o size n d x w) (j:OpnSt w base g p o size) (f:(ad p=none/\d=0/\x=2)\/ ∃q,ad p=some (d,q)/\x=0) (F:n<=size-o) (G:n<=259) (k: ¬1<=d) (H:o<=size) (I:size<=kaj) (l:p.length<=kaa) (J:d<=4611686018427387903) (K:n<=4611686018427387903) (L:base<=g):
  Calls an 178 #[.pointer (some g),.int .i64 n] w fun a w'=>a= .returned (.tuple #[])/\gu w' g size/\w.grownBy w' (some g):=by
 obtain ⟨m,r,s,t,h,b,u,v⟩:=j;have y:=b.2.1;go_in;go_wp2_with fail;refine ((gq g m p s _ _ _ w h b.rd l y).mono (ka f)).mono ?_;rintro a i ⟨z,A,B,rfl,e,C⟩;have M:=e.c 1;have N:=e.c 2;have O:=qiJ (size-o);have P:(n:Int)<=size-o:=qO;have Q:(n:Int)<=259:=qO;have R:=dfX ((1:Int)<=(d:Int));clear k;clear f b u v h;go_wp2_with fail;go_still_tail 34,qkR;change wpList _ _ _ _ _ (pp i);go_wp2_with fail;refine (gt g _ _ _ _ (pp i) e.drew).mono ?_;rintro a S ⟨rfl,D,E⟩;go_wp2_with fail;go_end0;exact ⟨rfl,⟨z,r,A,B,o.length,t,D⟩,aq (fa C) E⟩
theorem Hr (base g p o size n d x w) (j:OpnSt w base g p o size) (f:(ad p=none/\d=0/\x=2)\/ ∃q,ad p=some (d,q)/\x=0) (F:n<=size-o) (G:n<=259) (H:1<=d) (k: ¬d<=o.length) (I:o<=size) (J:size<=kaj) (l:p.length<=kaa) (K:d<=4611686018427387903) (L:n<=4611686018427387903) (M:base<=g):
  Calls an 178 #[.pointer (some g),.int .i64 n] w fun a w'=>a= .returned (.tuple #[])/\gu w' g size/\w.grownBy w' (some g):=by
 obtain ⟨m,r,s,t,h,b,u,v⟩:=j;have y:=b.2.1;go_in;go_wp2_with fail;refine ((gq g m p s _ _ _ w h b.rd l y).mono (ka f)).mono ?_;rintro a i ⟨z,A,B,rfl,e,C⟩;have N:=e.c 1;have O:=e.c 2;have P:=qiJ (size-o);have Q:(n:Int)<=size-o:=qO;have R:(n:Int)<=259:=qO;have S:(1:Int)<=(d:Int):=qO;have T:=dfX (d<=o);clear k;clear f b u v h;go_wp2_with fail;go_still_tail 34,qkR;change wpList _ _ _ _ _ (pp i);go_wp2_with fail;refine (gt g _ _ _ _ (pp i) e.drew).mono ?_;rintro a U ⟨rfl,D,E⟩;go_wp2_with fail;go_end0;exact ⟨rfl,⟨z,r,A,B,o.length,t,D⟩,aq (fa C) E⟩
theorem Hs (base g p o size n d x w) (j:OpnSt w base g p o size) (f:(ad p=none/\d=0/\x=2)\/ ∃q,ad p=some (d,q)/\x=0) (F:n<=size-o) (G:n<=259) (H:1<=d) (I:d<=o.length) (k: ¬d<=4096) (J:o<=size) (K:size<=kaj) (l:p.length<=kaa) (L:d<=4611686018427387903) (M:n<=4611686018427387903) (N:base<=g):
  Calls an 178 #[.pointer (some g),.int .i64 n] w fun a w'=>a= .returned (.tuple #[])/\gu w' g size/\w.grownBy w' (some g):=by
 obtain ⟨m,r,s,t,h,b,u,v⟩:=j;have y:=b.2.1;go_in;go_wp2_with fail;refine ((gq g m p s _ _ _ w h b.rd l y).mono (ka f)).mono ?_;rintro a i ⟨z,A,B,rfl,e,C⟩;have O:=e.c 1;have P:=e.c 2;have Q:=qiJ (size-o);have R:(n:Int)<=size-o:=qO;have S:(n:Int)<=259:=qO;have T:(1:Int)<=(d:Int):=qO;have U:(d:Int)<=o:=qO;have V:=dfX ((d:Int)<=4096);clear k;clear f b u v h;go_wp2_with fail;go_still_tail 34,qkR;change wpList _ _ _ _ _ (pp i);go_wp2_with fail;refine (gt g _ _ _ _ (pp i) e.drew).mono ?_;rintro a W ⟨rfl,D,E⟩;go_wp2_with fail;go_end0;exact ⟨rfl,⟨z,r,A,B,o.length,t,D⟩,aq (fa C) E⟩
theorem Ht (base g p o size n d x w) (b:OpnSt w base g p o size) (c:(ad p=none/\d=0/\x=2)\/ ∃q,ad p=some (d,q)/\x=0) (t: ¬(n<=size-o/\n<=259/\1<=d/\d<=o.length/\d<=4096)) (e:o<=size) (f:size<=kaj) (h:p.length<=kaa) (i:d<=4611686018427387903) (j:n<=4611686018427387903) (k:base<=g):
  Calls an 178 #[.pointer (some g),.int .i64 n] w fun u w'=>u= .returned (.tuple #[])/\gu w' g size/\w.grownBy w' (some g):=by
 by_cases a:n<=size-o
 ·by_cases l:n<=259
  ·by_cases m:1<=d
   ·by_cases r:d<=o
    ·by_cases s:d<=4096
     ·exact absurd ⟨a,l,m,r,s⟩ t
     exact Hs base g p o size n d x w b c a l m r s e f h i j k
    exact Hr base g p o size n d x w b c a l m r e f h i j k
   exact Hq base g p o size n d x w b c a l m e f h i j k
  exact Hp base g p o size n d x w b c a l e f h i j k
 exact Ho base g p o size n d x w b c a e f h i j k
theorem Hu {w w1} {base g size d:Nat} {p a q:LU} {Ap Ao cp co} {b:Ending} (h:Blk w g 243 [.slice Ap p cp,.slice Ao a.length co,size,i0])
  (c:w.ownsRow base 5 1 (.slice Ao a.length co) a.length (bc a)) (hbase:base<=w) (i:base<=g)
  (j:mn w g (.slice Ao a co) (.int .i64 size) i0 (some (d,q)) b w1):b= .returned (.int .i64 (d:Nat))/\OpnSt w1 base g q a size/\Below base w w1:=by
 obtain ⟨s,k,l,m,n,o,e,f,t⟩:=j;have r:=m.out;subst r;exact ⟨n,⟨k,Ao,l,co,o,(s7 e).lower hbase,aE c h (by decide) f,ON c (s7 e) (lR _)⟩,ak f i hbase⟩
def wv (r:Option (LU)) (size base g:Nat) (w:World) (k:Nat) (wr:World):Prop:=
 ((∃a b:LU,k=a.length+1/\OpnSt wr base g a b size/\b.length<=size/\size<=kaj/\a.length<=140737488355328/\Hid (r=bI size b a))\/(k=0/\gu wr g size/\Hid (r=none)))/\Below base w wr
theorem ww (g b) (x:Nat) (vp vo vs w) (a:Blk w g 243 [vp,vo,vs,x]):
  Calls an 176 #[.pointer (some g),.bool b] w fun c w'=>c= .returned (.bool (b&&decide (x=0)))/\Blk w' g 243 [vp,vo,vs,.int .i64 ((if b then x else 2:Nat):Nat)]/\w.grownBy w' (some g):=by
 cases b with
 | true=>
  refine (mo g x vp vo vs w a).mono ?_;rintro c w' ⟨rfl,rfl⟩;refine ⟨?_,a,gR _ _⟩;congr 2;rw [Bool.true_and,Pm];simp
 | false=>
 refine (gt g _ vp vo vs w a).mono ?_;rintro c w' ⟨rfl,d,e⟩;exact ⟨rfl,d,e⟩
def Hv (r:Option (Nat×LU)) (w w':World) (d:Nat) (A:OA) (n c x:Nat):Prop:=
 (r=none/\A=none/\n=0/\c=0/\d=0/\x=2)\/ ∃q:LU,r=some (d,q)/\n=q.length/\x=0/\w'.ownsRow w 5 1 (.slice A n c) n (bc q)
theorem Hw {w w' g vo vs r} (e) (a:mn w g vo vs i0 r e w'):
  ∃d A n c x,e= .returned (.int .i64 (d:Nat))/\Blk w' g 243 [.slice A n c,vo,vs,(x:Nat)]/\w.grownBy w' (some g)/\Hv r w w' d A n c x:=by
 rcases r with _ | ⟨d,m⟩
 ·exact ⟨0,none,0,0,2,a.1,a.2.1,a.2.2,.inl ⟨rfl,rfl,rfl,rfl,rfl,rfl⟩⟩
 obtain ⟨b,A,c,f,h,i,j,k,_⟩:=a;have l:=f.out;subst l;exact ⟨d,A,_,c,0,h,i,k,.inr ⟨b,rfl,rfl,rfl,j⟩⟩
theorem OpnSt.len {w base g size p o} (a:OpnSt w base g p o size):g<w:=by
 obtain ⟨_,_,_,_,b,_⟩:=a;exact b.lt
def RetOpenN (w:World) (r:Option (LU)) (c:Ending) (w':World):Prop:=
 match r with
 | none=>c= .returned (.tuple #[eL,.int .i64 2])/\Below w w w'
 | some e=> ∃(a:LU) (d:OA) (b:Nat),Hid (a=e)/\c= .returned (.tuple #[.slice d a b,i0])/\w'.ownsRow w 5 1 (.slice d a b) a (bc a)/\Below w w w'/\a<=b/\b<=maxLen
theorem tu (A l c most w) (Q0:Rd w w.heap.size 1 A l.length (bc l)) (R0:l.length<=kaa) (S0:l.length<=c) (T0: ∀s r,ad l=some (s,r)->(s:Int)<=most->s<=70368744177664):
  Calls an 110 #[.slice A l c,.int .i64 most] w (RetOpenN w (cf l most)):=by
 obtain ⟨r,K⟩:=gH (cf l most);rw [<-K];obtain ⟨g,L⟩:=gX w.heap.size;go_in;go_wp2_with fail;have y:=o9 w 243 [.slice A l c,eL,i0,i0];have e0:Rd (w.alloc (.cells #[.slice A l c,eL,i0,i0] 243)) (w+1) 1 A l (bc l):=(Q0.alloc (lR _) _).more (PA _);have M:=bAl w (.cells #[.slice A l c,eL,i0,i0] 243);have z:(w.alloc (.cells #[.slice A l c,eL,i0,i0] 243)).heap.size=w+1:=by simp
 obtain ⟨t0,f0⟩:=gX (w.alloc (.cells #[.slice A l c,eL,i0,i0] 243));change Blk (w.alloc (.cells #[.slice A l c,eL,i0,i0] 243)) _ _ _ at y;rw [<-f0] at y e0 M z;rw [<-z] at e0;rw [<-f0];rw [<-L] at y M z;rw [<-L];have HG:=qI L;clear f0 L;have u0:g<=t0:=qO;have U0:=qI z;clear z;refine (gq g A l c _ _ _ t0 y e0 R0 S0).mono ?_;intro e V0 k;obtain ⟨size,g0,W0,q,x,rfl,B,v0,w0⟩:=Hw e k;have x0:=M.trans (ak v0 (lR _) u0);have X0:=B.c 2;have Y0:=B.free 2;have y0:Blk (V0.setCell ⟨g,2,none⟩ (.int .i64 size)) g 243 [.slice g0 W0 q,eL,size,x]:=B.set 2 _;have z0:=qI w0;clear w0 k;go_wp2_with fail;refine (ww g _ x _ _ _ _ y0).mono ?_;rintro e A0 ⟨rfl,N,B0⟩;have h0:=aq (ae (gR _ _) _ _) B0;have O:=x0.trans (ak h0 (lR _) (H7 B.lt));have hinv: ∃j0,wv r size g g w j0 A0:=by
  rcases z0.out with ⟨t,k0,l0,m0,Z0,a1⟩ | ⟨f,t,k0,l0,m0⟩
  ·subst k0 l0 m0 Z0 a1;refine ⟨0,.inr ⟨rfl,⟨none,none,0,0,0,0,?_⟩,by unfold Hid;rw [K,cf,t]⟩,O⟩;by_cases m:((0:Nat):Int)<=most<;>simpa [m] using N
  subst k0 l0;by_cases m:(size:Int)<=most
  ·refine ⟨_,.inl ⟨f,[],rfl,⟨g0,none,q,0,?_,(s7 (fX (w':=A0) (m0) h0 (by have:=U0.out;omega))).lower u0,⟨by simp [bc],.inl ⟨rfl,rfl⟩⟩,Apart.nil _ _⟩,zL,T0 _ _ t m,?_,?_⟩,O⟩
   ·simpa [m] using N
   ·have:=bL t;omega
   unfold Hid;rw [K,cf,t];simp only;rw [if_pos m]
  refine ⟨0,.inr ⟨rfl,⟨g0,none,f.length,q,0,0,?_⟩,?_⟩,O⟩
  ·simpa [m] using N
  unfold Hid;rw [K,cf,t];simp only;rw [if_neg m]
 obtain ⟨b1,hinv⟩:=hinv;clear z0 y B y0 N v0 B0 h0 x0 O X0 Y0 M;go_wp2_with fail;go_loopg [] b1 (fun j0 wr=>wv r size g g w j0 wr)
 case atStart=>exact hinv
 case round=>
  clear hinv;obtain ⟨C,hbel⟩:=hrel;rcases C with ⟨p,a,rfl,C,D,P,c1,n⟩ | ⟨rfl,C,hnone⟩
  ·obtain ⟨C0,Q,D0,R,hblk,S,E,d1⟩:=C;have E0:=hblk.c 0;have q:=hblk.c 1;have F0:=hblk.c 2;have G0:=hblk.c 3;have hbase:=H7 hblk.lt;by_cases F:p.length=0
   ·have T:=nZ F;have n0:=dfX (0<p.length);have H0:=dz E;by_cases U:a=size
    ·have G:Hid (r=some a):=by unfold Hid;rw [n,T,jX,if_pos U]
     have e1:((a:Int)==size)=true:=by simp;omega
     clear T U F;go_wp2_with fail;go_still_tail 11,qkR;change wpList _ _ _ _ _ (pp wr);go_wp2_with fail;refine (mo g 0 _ _ _ (pp wr) hblk.drew).mono ?_;rintro e w4 ⟨rfl,V⟩;have u:=hblk.drew;rw [V] at u;have w1:=u.c 1;have f1:w4.ownsRow g 5 1 (.slice Q a R) a (bc a):=by rw [<-V];exact E
     have hb4:Below g w w4:=by rw [<-V];exact hbel.drew
     clear V hblk E S;go_wp2_with fail;go_ret2;rw [G];exact ⟨a,Q,R,rfl,rfl,by rw [<-HG];exact f1,by rw [<-HG];exact hb4,H0.1,H0.2⟩
    have G:Hid (r=none):=by unfold Hid;rw [n,T,jX,if_neg U]
    have e1:((a:Int)==size)=false:=by simp;omega
    clear T U F;go_wp2_with fail;go_still_tail 11,qkR;change wpList _ _ _ _ _ (pp wr);go_wp2_with fail;refine (gt g _ _ _ _ (pp wr) hblk.drew).mono ?_;rintro e w4 ⟨rfl,hb4,hg4⟩;go_wp2_with fail;go_ret2;rw [G];exact ⟨rfl,by rw [<-HG];exact hbel.drew.trans (ak hg4 (lR _) hbase)⟩
   have x1:=ltI 0 p.length;have n0:=dtX (0<p.length);have g1:Hid (p≠[]):=fun h=>by rw [h] at F;simp at F
   have h1:=S.2.1;go_wp2_with fail;refine (gq g C0 p D0 _ _ _ wr hblk S.rd c1 h1).mono ?_;intro e w4 k;rcases ht:ad p with _ | ⟨o,f⟩
   ·rw [ht] at k;obtain ⟨rfl,u,hg4⟩:=k;have G:Hid (r=none):=by unfold Hid;rw [n,wg g1.out ht]
    have o0:bits .and .i64 0 1=0:=by decide
    clear ht;go_wp2_with fail;refine (wo g none Q 0 0 a R size 1 _ w4 u qO D qO qO qO qO).mono ?_;rintro e W ⟨rfl,H,I⟩;go_wp2_with fail;go_roundg 0
    case measure=>omega
    case rel=>exact ⟨.inr ⟨rfl,H,G⟩,hbel.trans (ak (aq hg4 I) (lR _) hbase)⟩
   rw [ht] at k;obtain ⟨rfl,J,hb4⟩:=Hu hblk E hbase (lR _) k;have y1:=bL ht;have z1:o<=kag:=(ch ht).2;have o0:=si o qO;have X:=hbel.trans hb4;have Y:=J.len;obtain ⟨d,I0⟩:=gX (o/2);have i1:(o:Int)/2=d:=qO;have A1:(o:Int).tdiv 2=(d:Int):=by rw [NW qO];exact i1
   have B1:d<=2305843009213693951:=qO;have p0:=qI I0;have Z:=qI ht;clear ht I0 k hb4 hblk S E d1 E0 q F0 G0;by_cases a0:o%2=0
   ·rw [a0] at o0;have b0:Hid (r=if d+1<=size-a/\d+1<=f then bI size (a++f.take (d+1)) (f.drop (d+1)) else none):=by
     unfold Hid;rw [n,pO Z.out a0,<-p0]
    clear a0;by_cases v:d+1<=size-a/\d+1<=f
    ·rw [if_pos v] at b0;have j1:=v.1;have k1:=v.2;clear v;go_wp2_with fail;refine (Hj g g f a size (d+1) w4 J j1 k1 D qO qO qO (lR _) (H7 Y)).mono ?_;rintro e W ⟨rfl,q0,r0⟩;go_wp2_with fail;go_roundg ((f.drop (d+1)).length+1)
     case measure=>rw [b8];omega
     case rel=>exact ⟨.inl ⟨_,_,rfl,q0,by rw [b7,b9];omega,P,by rw [b8];omega,b0⟩,X.trans r0⟩
    rw [if_neg v] at b0;obtain ⟨l1,m1,n1,o1,u,_⟩:=J;go_wp2_with fail;refine (wo g l1 m1 f n1 a o1 size (d+1) _ w4 u v D qO qO qO qO).mono ?_;rintro e W ⟨rfl,H,I⟩;go_wp2_with fail;go_roundg 0
    case measure=>omega
    case rel=>exact ⟨.inr ⟨rfl,H,b0⟩,X.trans (ak I (lR _) (H7 Y))⟩
   have c0:Hid (o%2=1):=qI qO;rw [c0] at o0;clear a0;by_cases d0: ∃b i,ad f=some (b,i)/\(d+4<=size-a/\d+4<=259/\1<=b/\b<=a.length/\b<=4096)
   ·obtain ⟨b,i,j,J0,K0,L0,M0,N0⟩:=d0;have p1:Hid (r=bI size (cw a b (d+4)) i):=by
     unfold Hid;rw [n,jY Z.out c0.out j,<-p0,if_pos ⟨J0,K0,L0,M0,N0⟩]
    have C1:=bL j;have q1:=qI j;clear j;go_wp2_with fail;refine (Hn g g f i a size (d+4) b w4 J q1.out J0 K0 L0 M0 N0 D P qO (lR _) (H7 Y)).mono ?_;rintro e W ⟨rfl,q0,r0⟩;go_wp2_with fail;go_roundg (i.length+1)
    case measure=>omega
    case rel=>exact ⟨.inl ⟨_,_,rfl,q0,by rw [lZ];omega,P,qO,p1⟩,X.trans r0⟩
   have r1: ∃b x,((ad f=none/\b=0/\x=2)\/ ∃i,ad f=some (b,i)/\x=0)/\ ¬(d+4<=size-a/\d+4<=259/\1<=b/\b<=a.length/\b<=4096)/\b<=4611686018427387903/\Hid (r=none):=by
    rcases j:ad f with _ | ⟨b,i⟩
    ·exact ⟨0,2,.inl ⟨rfl,rfl,rfl⟩,qO,qO,by unfold Hid;rw [n,pP Z.out c0.out j]⟩
    refine ⟨b,0,.inr ⟨i,rfl,rfl⟩,fun h=>d0 ⟨b,i,j,h⟩,(ch j).2,?_⟩;unfold Hid;rw [n,jY Z.out c0.out j,<-p0,if_neg (fun h=>d0 ⟨b,i,j,h⟩)]
   obtain ⟨b,x,O0,P0,s1,t1⟩:=r1;have u1:=qI O0;have v1:=qI P0;clear O0 P0 d0;go_wp2_with fail;refine (Ht g g f a size (d+4) b x w4 J u1.out v1.out D P qO s1 qO (lR _)).mono ?_;rintro e W ⟨rfl,H,I⟩;go_wp2_with fail;go_roundg 0
   case measure=>omega
   case rel=>exact ⟨.inr ⟨rfl,H,t1⟩,X.trans (ak I (lR _) (H7 Y))⟩
  obtain ⟨C0,Q,s0,D0,D1,R,hblk⟩:=C;have E0:=hblk.c 0;have q:=hblk.c 1;have F0:=hblk.c 2;have G0:=hblk.c 3;have hbase:=H7 hblk.lt;by_cases E1:0<s0
  ·have n0:=dtX (0<s0);exact z289
  have n0:=dfX (0<s0);exact z289
