/- Walks and laws. Conditions: as stated. -/
import Derived.Test.YtecpbcmpncgokaaGreatPressA
set_option maxRecDepth 99999
set_option maxHeartbeats 25600000
set_option linter.all false
open Go.RowKit Go.Dol
namespace Go.Dol
def begins (a b:LU):Nat:=cnt a a b
def ends (a b:LU):Nat:=begins a.reverse b.reverse
def bB (n k:Nat):LU:=if n=0 then [] else num (2*(n-1)+1)++num k
def fw (base b:LU):Nat->Nat->Option Nat
 | 0,_=>none
 | f+1,k=>if k+16<=base then (if (base.drop k).take 16=b.take 16 then some k else fw base b f (k+16)) else none
def cG (base b:LU):Option Nat:=if 16<=b.length then fw base b base 0 else none
def mid (base m:LU):Nat->Nat->Nat->LU
 | 0,_,a=>aH (m.drop a)
 | f+1,i,a=>
  if i<m then
   match cG base (m.drop i) with
   | none=>mid base m f (i+1) a
   | some k=>aH ((m.drop a).take (i-a))++(bB (begins (base.drop k) (m.drop i)) k++mid base m f (i+begins (base.drop k) (m.drop i)) (i+begins (base.drop k) (m.drop i)))
  else aH (m.drop a)
def eZ (base m:LU):LU:=mid base m m 0 0
def eg (base target:LU):LU:=
 num base.length++(num target.length++(bB (begins base target) 0++
  (eZ base ((target.drop (begins base target)).take (target.length-begins base target-ends (base.drop (begins base target)) (target.drop (begins base target))))++
   bB (ends (base.drop (begins base target)) (target.drop (begins base target))) (base.length-ends (base.drop (begins base target)) (target.drop (begins base target))))))
def dF (base:LU) (size:Nat):Nat->LU->LU->Option (LU)
 | _,out,[]=>if out=size then some out else none
 | 0,_,_::_=>none
 | f+1,out,c::q=>
  match ad (c::q) with
  | none=>none
  | some (a,rest)=>
   if a%2=0 then
    if a/2+1<=size-out/\a/2+1<=rest then dF base size f (out++rest.take (a/2+1)) (rest.drop (a/2+1)) else none
   else
    match ad rest with
    | none=>none
    | some (d,b)=>if a/2+1<=size-out/\d+(a/2+1)<=base then dF base size f (out++(base.drop d).take (a/2+1)) b else none
def dGo (base:LU) (size:Nat) (out p:LU):Option (LU):=dF base size p out p
def cH (base d:LU) (b:Int):Option (LU):=
 match ad d with
 | none=>none
 | some (c,e)=>
  if c=base then
   match ad e with
   | none=>none
   | some (a,f)=>if (a:Int)<=b then dGo base a [] f else none
  else none
theorem rF (base size): ∀(f g:Nat) (out p:LU),p<=f->p<=g->dF base size f out p=dF base size g out p:=by
 intro f;induction f with
 | zero=>
  intro g out p hf hg;obtain rfl:p=[]:=nZ qO;cases g<;>rfl
 | succ f ih=>
 intro g out p hf hg;cases p with
 | nil=>cases g<;>rfl
 | cons c q=>
 cases g with
 | zero=>simp at hg
 | succ g=>
 rw [dF,dF];exact z35
theorem iZ (base size out):dGo base size out []=if out.length=size then some out else none:=rfl
theorem rG {base size out p} (a:p≠[]) (b:ad p=none):dGo base size out p=none:=by
 cases p with
 | nil=>exact absurd rfl a
 | cons c d=>unfold dGo;rw [List.length_cons,dF,b]
theorem ja {base size out p t rest} (a:ad p=some (t,rest)) (b:t%2=0):
  dGo base size out p=if t/2+1<=size-out.length/\t/2+1<=rest.length then dGo base size (out++rest.take (t/2+1)) (rest.drop (t/2+1)) else none:=by
 have c:=bL a;cases p with
 | nil=>simp at c
 | cons d e=>
 unfold dGo;rw [List.length_cons,dF,a];simp only;rw [if_pos b];split
 ·rw [rF]
  ·rw [b8,List.length_cons] at *; omega
  exact lR _
 rfl
theorem jb {base size out p t rest} (a:ad p=some (t,rest)) (e:t%2=1) {d rest2} (b:ad rest=some (d,rest2)):
  dGo base size out p=if t/2+1<=size-out.length/\d+(t/2+1)<=base.length then dGo base size (out++(base.drop d).take (t/2+1)) rest2 else none:=by
 have c:=bL a;have f:=bL b;cases p with
 | nil=>simp at c
 | cons g h=>
 unfold dGo;rw [List.length_cons,dF,a];simp only;rw [if_neg qO,b];simp only;split
 ·rw [rF]
  ·rw [List.length_cons] at *; omega
  exact lR _
 rfl
theorem nC {base size out p t rest} (a:ad p=some (t,rest)) (d:t%2=1) (b:ad rest=none):dGo base size out p=none:=by
 have c:=bL a;cases p with
 | nil=>simp at c
 | cons e f=>
 unfold dGo;rw [List.length_cons,dF,a];simp only;rw [if_neg qO,b]
theorem AG {base size out p t rest} (a:ad p=some (t,rest)) (c: ¬(t/2+1<=size-out.length)):dGo base size out p=none:=by
 by_cases e:t%2=0
 ·rw [ja a e,if_neg (fun b=>c b.1)]
 cases d:ad rest with
 | none=>exact nC a qO d
 | some f=>rw [jb a qO d,if_neg (fun b=>c b.1)]
theorem eI (a b):begins a b<=a.length/\begins a b<=b.length:=rH _ _ _
theorem rI {a b j} (c:j<begins a b):a[j]?=b[j]?:=rJ _ _ _ _ c
theorem rK {a b n} (c:n<=a.length) (d:n<=b.length) (e: ∀j,j<n->a[j]?=b[j]?):n<=begins a b:=rL _ _ _ _ c c d e
theorem kK {a b n} (c:n<=begins a b):a.take n=b.take n:=by
 apply N8;intro d;rw [w7,w7];split
 ·exact rI qO
 rfl
theorem rM {a b n} (c:n<=a.length) (d:n<=b.length) (e:a.take n=b.take n):n<=begins a b:=by
 refine rK c d fun f g=> ?_;have:=congrArg (fun h=>h[f]?) e;simp only [w7,if_pos g] at this;exact this
theorem kL (a b):ends a b<=a.length/\ends a b<=b.length:=by
 have:=eI a.reverse b.reverse;simpa [ends] using this
theorem AH (a b:LU):a.drop (a-ends a b)=b.drop (b-ends a b):=by
 have c:a.reverse.take (ends a b)=b.reverse.take (ends a b):=kK (lR _);rw [List.take_reverse,List.take_reverse] at c;exact List.reverse_inj.1 c
theorem AI {base b}: ∀(f k c:Nat),fw base b f k=some c->c+16<=base.length/\(base.drop c).take 16=b.take 16:=by
 intro f;induction f with
 | zero=>intro k c a;cases a
 | succ f d=>
 intro k c a;rw [fw] at a;split at a
 ·split at a
  ·injection a with a;subst a;exact ⟨by assumption,by assumption⟩
  exact d _ _ a
 cases a
theorem ij {base b k} (a:cG base b=some k):k+16<=base.length/\16<=begins (base.drop k) b:=by
 unfold cG at a;split at a
 ·have:=AI _ _ _ a;exact ⟨this.1,rM (by rw [b8];omega) (by assumption) this.2⟩
 cases a
theorem rN {base size out x rest} (b:x.length<=cI) (c:x.length<=size-out.length):dGo base size out (aH x++rest)=dGo base size (out++x) rest:=by
 by_cases a:x=[]
 ·subst a;simp [aH]
 have e:=L9.2 a;unfold aH;rw [if_neg a,g9];have d:=dV (2*(x.length-1)) (x++rest) (by unfold av;unfold cI at b;omega);rw [ja d qO,show 2*(x.length-1)/2+1=x by omega,if_pos ⟨c,by rw [b7];omega⟩,Nx,OS]
theorem nD {base size n k out rest} (a:base.length<=cI) (c:n<=size-out.length) (d:k+n<=base.length):dGo base size out (bB n k++rest)=dGo base size (out++(base.drop k).take n) rest:=by
 by_cases b:n=0
 ·subst b;simp [bB]
 unfold bB;rw [if_neg b,g9];have e:=dV (2*(n-1)+1) (num k++rest) (by unfold av;unfold cI at a;omega);have f:=dV k rest (by unfold av;unfold cI at a;omega);rw [jb e qO f,show (2*(n-1)+1)/2+1=n by omega,if_pos ⟨c,d⟩]
theorem AJ {base m size out rest} (l:base.length<=cI) (v:m.length<=cI) (w:out.length+m.length<=size): ∀(f i c:Nat),m.length-i<=f->c<=i->i<=m.length->
  dGo base size (out++m.take c) (mid base m f i c++rest)=dGo base size (out++m) rest:=by
 have e: ∀c,c<=m.length->dGo base size (out++m.take c) (aH (m.drop c)++rest)=dGo base size (out++m) rest:=fun c x=>by
  rw [rN (by rw [b8];omega) (by rw [b8,b7,b9];omega),g9,r8]
 intro f;induction f with
 | zero=>intro i c n o p;rw [mid];exact e c qO
 | succ f g=>
 intro i c n o p;rw [mid];split
 ·cases q:cG base (m.drop i) with
  | none=>exact g _ _ qO qO qO
  | some d=>
   have r:=ij q;have h:=eI (base.drop d) (m.drop i);have j:=kK (a:=base.drop d) (b:=m.drop i) (lR _);rw [b8,b8] at h;simp only [g9];obtain ⟨k,s⟩:=gX (begins (base.drop d) (m.drop i));rw [<-s] at h r j ⊢;have t:out++(m.take c++(m.drop c).take (i-c))=out++m.take i:=by
    congr 1;rw [<-PD];congr 1;omega
   have u:out++(m.take i++(base.drop d).take k)=out++m.take (i+k):=by
    congr 1;rw [j,<-PD]
   rw [rN (by rw [b9,b8];omega) (by rw [b9,b8,b7,b9];omega),g9,t,
    nD l (by rw [b7,b9];omega) qO,g9,u]
   exact g _ _ qO (lR _) qO
 exact e c qO
theorem AK {base target} (e:base.length<=cI) (o:target.length<=cI) (most):cH base (eg base target) most=if (target.length:Int)<=most then some target else none:=by
 have p:=eI base target;have h:=kK (a:=base) (b:=target) (lR _);have g:=kL (base.drop (begins base target)) (target.drop (begins base target));have f:=AH (base.drop (begins base target)) (target.drop (begins base target));unfold cH eg;rw [dV _ _ (by unfold av;unfold cI at e;omega)];simp only;rw [if_pos trivial,dV _ _ (by unfold av;unfold cI at o;omega)];simp only;obtain ⟨c,q⟩:=gX (begins base target);rw [<-q] at p h g f ⊢;obtain ⟨d,r⟩:=gX (ends (base.drop c) (target.drop c));rw [<-r] at g f ⊢;rw [b8,b8] at g;rw [b8,b8,OT,OT,show c+(base-c-d)=base-d by omega,show c+(target-c-d)=target-d by omega] at f;have i:((target.drop c).take (target-c-d)).length=target-c-d:=by rw [b9,b8];omega
 have j:=AJ (base:=base) (m:=(target.drop c).take (target-c-d)) (size:=target.length) (out:=[]++(base.drop 0).take c) (rest:=bB d (base-d)) e qO
  (by rw [i,List.nil_append,y8,b9];omega) ((target.drop c).take (target-c-d)).length 0 0 qO (lR _) (zL)
 have l:=nD (base:=base) (size:=target.length) (n:=d) (k:=base-d) (out:=([]++(base.drop 0).take c)++(target.drop c).take (target-c-d)) (rest:=[]) e
  (by rw [b7,i,List.nil_append,y8,b9];omega) qO
 rw [Nw,List.append_nil] at j;rw [List.append_nil] at l;have s:dGo base target [] (bB c 0++(eZ base ((target.drop c).take (target-c-d))++bB d (base-d)))=some target:=by
  rw [nD e (by simp;omega) qO];unfold eZ;rw [j,l,iZ];have t:([]++(base.drop 0).take c)++(target.drop c).take (target-c-d)++(base.drop (base-d)).take d=target:=by
   have u:(base.drop (base-d)).take d=target.drop (target-d):=by rw [i9 (by rw [b8];omega),f]
   rw [u,List.nil_append,y8,h,<-PD,show c+(target-c-d)=target-d by omega,r8]
  rw [t,if_pos rfl]
 rw [s]
theorem AL {base base' d:LU} {n p} (a:ad d=some (n,p)) (b:n≠base'.length) (most):cH base' d most=none:=by
 unfold cH;rw [a];simp only;rw [if_neg b]
theorem rO {n k} (b:n<=16777216) (a:k<268435456):(bB n k).length<=8:=by
 unfold bB;split
 ·simp
 rw [b7];have:=gL (n:=2*(n-1)+1) qO;have:=gL a;omega
theorem rP {n} (a:n<=16777216):(bB n 0).length<=5:=by
 unfold bB;split
 ·simp
 rw [b7];have:=gL (n:=2*(n-1)+1) qO;have:=nE (n:=0) qO;omega
theorem rQ {base m} (q:base.length<=16777216) (r:m.length<=16777216): ∀(f i a:Nat),a<=i->i<=m.length->(mid base m f i a).length<=m.length-a+4:=by
 have d: ∀a,a<=m.length->(aH (m.drop a)).length<=m-a+4:=fun a s=>by
  have:=(jc (m.drop a) (by rw [b8];omega)).2.2.2;rw [b8] at this;exact this
 intro f;induction f with
 | zero=>intro i a h j;rw [mid];exact d a qO
 | succ f e=>
 intro i a h j;rw [mid];split
 ·cases k:cG base (m.drop i) with
  | none=>exact e _ _ qO qO
  | some b=>
   have l:=ij k;have g:=eI (base.drop b) (m.drop i);rw [b8,b8] at g;simp only;obtain ⟨c,o⟩:=gX (begins (base.drop b) (m.drop i));rw [<-o] at g l ⊢;have t:=e (i+c) (i+c) (lR _) qO;have u:=rO (n:=c) (k:=b) qO qO;have p:=(jc ((m.drop a).take (i-a)) (by rw [b9,b8];omega)).2.2.2;rw [b9,b8] at p;rw [b7,b7];omega
 exact d a qO
theorem rR {base target} (d:base.length<=16777216) (h:target.length<=16777216):
  (eg base target).length<=target.length-begins base target-ends (base.drop (begins base target)) (target.drop (begins base target))+25:=by
 have e:=eI base target;have c:=kL (base.drop (begins base target)) (target.drop (begins base target));unfold eg eZ;obtain ⟨a,f⟩:=gX (begins base target);rw [<-f] at e c ⊢;obtain ⟨b,g⟩:=gX (ends (base.drop a) (target.drop a));rw [<-g] at c ⊢;rw [b8,b8] at c;have i:((target.drop a).take (target-a-b)).length=target-a-b:=by rw [b9,b8];omega
 have j:=rQ (base:=base) (m:=(target.drop a).take (target-a-b)) d qO ((target.drop a).take (target-a-b)).length 0 0 (lR _) (zL);have l:=rP (n:=a) qO;have o:=rO (n:=b) (k:=base-b) qO qO;have p:=gL (n:=base.length) qO;have q:=gL (n:=target.length) qO;simp only [b7];omega
theorem kM {a b n} (e:n<=a.length) (f:n<=b.length) (g: ∀j,j<n->a[j]?=b[j]?) (c:n=a.length\/n=b.length\/a[n]?≠b[n]?):begins a b=n:=by
 have h:=rK e f g;have i:=eI a b;rcases D8 n (begins a b) with d | d
 ·rcases c with c | c | c
  ·omega
  ·omega
  exact absurd (rI d) c
 omega
theorem nF {a b n} (f:n<=a.length) (g:n<=b.length) (h: ∀j,j<n->a[a.length-1-j]?=b[b.length-1-j]?) (c:n=a.length\/n=b.length\/a[a.length-1-n]?≠b[b.length-1-n]?):ends a b=n:=by
 unfold ends;refine kM (by simpa using f) (by simpa using g) (fun j i=> ?_) ?_
 ·rw [NY qO,NY qO];exact h j i
 rcases c with c | c | c
 ·exact .inl (by simpa using c)
 ·exact .inr (.inl (by simpa using c))
 rcases D8 n a.length with d | d
 ·rcases D8 n b.length with e | e
  ·refine .inr (.inr ?_);rw [NY d,NY e];exact c
  exact .inr (.inl (by rw [NB];omega))
 exact .inl (by rw [NB];omega)
theorem rU {base b}: ∀(m f k:Nat),base.length<=k+f->k+16*m+16<=base.length->(base.drop (k+16*m)).take 16=b.take 16->(∀a,a<m->(base.drop (k+16*a)).take 16≠b.take 16)->fw base b f k=some (k+16*m):=by
 intro m;induction m with
 | zero=>
  intro f k e g c _;cases f with
  | zero=>omega
  | succ f=>rw [fw,if_pos qO,if_pos (by simpa using c)];rfl
 | succ m h=>
 intro f k e g c d;cases f with
 | zero=>omega
 | succ f=>
 rw [fw,if_pos qO,if_neg (by simpa using d 0 qO),h f (k+16) qO qO (by rw [<-c];congr 2;omega) fun a i=> ?_]
 ·congr 1;omega
 have:=d (a+1) qO;rw [show k+16*(a+1)=k+16+16*a by omega] at this;exact this
theorem rV {base b}: ∀(f k:Nat),(∀m,k+16*m+16<=base.length->(base.drop (k+16*m)).take 16≠b.take 16)->fw base b f k=none:=by
 intro f;induction f with
 | zero=>intro k _;rfl
 | succ f c=>
 intro k a;rw [fw];split
 ·rw [if_neg (by simpa using a 0 qO)];refine c _ fun m d=> ?_;have:=a (m+1) qO;rw [show k+16*(m+1)=k+16+16*m by omega] at this;exact this
 rfl
def kvB (K:LU):Value:=.agg (bc K).toArray
theorem AO {K L} (h:kvB K=kvB L):K=L:=z73
def Idx (base:LU) (n:Nat) (b:List (Value×Value)):Prop:=
 (∀d∈b,∃a,a<n/\d=(kvB ((base.drop (16*a)).take 16),.int .i64 ((16*a:Nat):Int))/\ ∀c,c<a->(base.drop (16*c)).take 16≠(base.drop (16*a)).take 16)/\
 (∀a,a<n-> ∃e,(kvB ((base.drop (16*a)).take 16),e)∈b)
theorem Idx.nil (base):Idx base 0 []:=⟨by simp,fun a b=>by omega⟩
theorem Idx.met {base n al v} (c:Idx base n al) (d:(kvB ((base.drop (16*n)).take 16),v)∈al):Idx base (n+1) al:=by
 refine ⟨fun e f=> ?_,fun a h=> ?_⟩
 ·obtain ⟨a,b,g⟩:=c.1 e f;exact ⟨a,qO,g⟩
 rcases D8 a n with b | b
 ·exact c.2 a b
 obtain rfl:a=n:=qO;exact ⟨v,d⟩
theorem Idx.put {base n al al'} (c:Idx base n al) (f: ∀p∈al,p.1≠kvB ((base.drop (16*n)).take 16)) (a:MPut al (kvB ((base.drop (16*n)).take 16)) (.int .i64 ((16*n:Nat):Int)) al'):Idx base (n+1) al':=by
 rcases a with ⟨_,rfl⟩ | ⟨m,o,h,rfl,rfl⟩
 ·refine ⟨fun p a=> ?_,fun b q=> ?_⟩
  ·rcases l7.1 a with a | a
   ·obtain ⟨b,d,i⟩:=c.1 p a;exact ⟨b,qO,i⟩
   refine ⟨n,qO,by simpa using a,fun j k l=> ?_⟩;obtain ⟨g,e⟩:=c.2 j k;exact f _ e (by rw [l])
  rcases D8 b n with d | d
  ·obtain ⟨g,e⟩:=c.2 b d;exact ⟨g,l7.2 (.inl e)⟩
  obtain rfl:b=n:=qO;exact ⟨.int .i64 ((16*b:Nat):Int),l7.2 (.inr (i7.2 rfl))⟩
 exact absurd rfl (f (kvB ((base.drop (16*n)).take 16),h) (by simp))
theorem Idx.hit {base b n al v} (e:Idx base n al) (m:16*n<=base) (f:16<=b.length) (g:(kvB (b.take 16),v)∈al): ∃k:Nat,v= .int .i64 (k:Nat)/\cG base b=some k:=by
 obtain ⟨c,o,a,h⟩:=e.1 _ g;injection a with a i;have d:=AO a;refine ⟨16*c,i,?_⟩;unfold cG;rw [if_pos f];have:=rU (base:=base) (b:=b) c base 0 qO qO (by rw [x9,d]) fun j l=>by rw [x9,d];exact h j l
 rw [this,x9]
theorem Idx.miss {base b n al} (c:Idx base n al) (h:base<16*n+16) (d: ∀p∈al,p.1≠kvB (b.take 16)):cG base b=none:=by
 unfold cG;split
 ·refine rV _ _ fun e f a=> ?_;rw [x9] at f a;obtain ⟨i,g⟩:=c.2 e qO;exact d _ g (by rw [<-a])
 rfl
end Go.Dol
namespace Go.Proofs.YtecpbcmpncgokaaGreat
def rS (a b:LU) (w:World) (n:Value) (wr:World):Prop:=
 ∃c e:Nat,n= .int .i64 c/\c<=a.length/\c<=b.length/\Hid (∀d,d<c->a[d]?=b[d]?)/\Hid (wr=w.drewN e)
def AM (a b:LU) (w:World) (n:Value) (wr:World):Prop:=
 ∃c e:Nat,n= .int .i64 c/\c<=a.length/\c<=b.length/\Hid (∀d,d<c->a[a.length-1-d]?=b[b.length-1-d]?)/\Hid (wr=w.drewN e)
theorem nG (A a c A2 b c2 w B B2) (hr:Rd w B 1 A a.length (bc a)) (hr2:Rd w B2 1 A2 b.length (bc b)) (ha:a.length<=kaa) (e:b.length<=kaa):
  Calls Tryz.prog 274 #[.slice A a c,.slice A2 b c2] w fun d w'=>d= .returned (.int .i64 (begins a b:Nat))/\ ∃n,w'=w.drewN n:=by
 go_in;go_wp2_with fail;go_loopw [5] (fun n wr=>rS a b w n wr) (fun n _=>a-(intOf n).toNat)
 case atStart=>exact ⟨0,0,rfl,qO,qO,fun j hj=>by omega,rfl⟩
 case round=>
  exact z216
theorem _root_.Go.Dol.Rd.mid {w B A l lo n m cap} (a:Rd w B 1 A l.length (bc l)) (b:m=n) (c:lo+n<=l.length) (d:l.length<=cap) (e: ¬cap=lo):Rd w B 1 (A.map fun x=>x.add lo) m (bc ((l.drop lo).take n)):=by
 subst b;have:=a.cut (lo:=lo) (hi:=lo+m) qO c d;rw [if_neg e,s9,s9,dW,dx,NN] at this;exact this
def AN (base:LU) (size:Nat) (r:Option (LU)) (w:World) (p out:Value) (wr:World):Prop:=
 ∃(l a:LU) (b c:OA) (d e:Nat),p= .slice b l d/\out= .slice c a e/\Hid (r=dGo base size a l)/\a<=size/\l.length<=kaa/\
  Seg wr w 5 1 b l d (bc l)/\wr.ownsRow w 5 1 (.slice c a e) a (bc a)/\Apart b d (.slice c a e)/\Below w w wr
end Go.Proofs.YtecpbcmpncgokaaGreat
namespace Go.Dol
theorem AU (base m): ∀(f g i a:Nat),m.length-i<=f->m.length-i<=g->mid base m f i a=mid base m g i a:=by
 intro f;induction f with
 | zero=>
  intro g i a c d;cases g with
  | zero=>rfl
  | succ g=>rw [mid,mid,if_neg qO]
 | succ f b=>
 intro g i a c d;cases g with
 | zero=>rw [mid,mid,if_neg qO]
 | succ g=>
 rw [mid,mid];split
 ·cases e:cG base (m.drop i) with
  | none=>exact b g _ _ qO qO
  | some h=>
   have j:=ij e;simp only;rw [b g _ _ qO qO]
 rfl
def cS (base m:LU) (i a:Nat):LU:=mid base m (m-i) i a
theorem rW (base m):eZ base m=cS base m 0 0:=rfl
theorem nJ {base m i frm} (a:m.length<=i):cS base m i frm=aH (m.drop frm):=by
 unfold cS;rw [show m-i=0 by omega];rfl
theorem nK {base m i frm} (a:i<m.length) (b:cG base (m.drop i)=none):cS base m i frm=cS base m (i+1) frm:=by
 unfold cS;rw [show m-i=(m-(i+1))+1 by omega,mid,if_pos a,b]
theorem rX {base m i frm k} (b:i<m.length) (a:cG base (m.drop i)=some k):
  cS base m i frm=aH ((m.drop frm).take (i-frm))++(bB (begins (base.drop k) (m.drop i)) k++cS base m (i+begins (base.drop k) (m.drop i)) (i+begins (base.drop k) (m.drop i))):=by
 have c:=ij a;unfold cS;rw [show m-i=(m-(i+1))+1 by omega,mid,if_pos b,a];simp only;rw [AU base m _ (m-(i+begins (base.drop k) (m.drop i))) _ _ qO (lR _)]
theorem AV {base m}: ∀(d i a:Nat),m.length-i<=d->m.length<i+16->cS base m i a=aH (m.drop a):=by
 intro d;induction d with
 | zero=>intro i a c e;exact nJ qO
 | succ d f=>
 intro i a c e;rcases D8 i m.length with b | b
 ·rw [nK b (by unfold cG;rw [if_neg (by rw [b8];omega)])];exact f _ _ qO qO
 exact nJ b
theorem rY (base target) {p e} (a:p=begins base target) (b:e=ends (base.drop p) (target.drop p)):
  eg base target=num base.length++(num target.length++(bB p 0++(cS base ((target.drop p).take (target.length-p-e)) 0 0++bB e (base.length-e)))):=by
 subst a;subst b;rfl
section
variable {P:Program} {w:World} {B:Nat} {A:OA} {l:LU} {c:Nat} {t e:TypeId}
end
end Go.Dol
namespace Go.Proofs.YtecpbcmpncgokaaGreat
theorem AQ (A a n c A2 b n2 c2 w B B2) (d:n=a.length) (e:n2=b.length) (f:Rd w B 1 A n (bc a)) (g:Rd w B2 1 A2 n2 (bc b)) (ha:n<=kaa) (h:n2<=kaa):
  Calls Tryz.prog 274 #[.slice A n c,.slice A2 n2 c2] w fun i w'=>i= .returned (.int .i64 (begins a b:Nat))/\ ∃n,w'=w.drewN n:=by
 subst d;subst e;exact nG A a c A2 b c2 w B B2 f g ha h
def nH (r:Option Nat):Int:=match r with | none=> -1 | some a=>(a:Int)
def AR (b x:LU) (w:World) (k:Value) (wr:World):Prop:=
 ∃c e a:Nat,k= .int .i64 a/\Hid (a=16*c)/\a<=b.length/\Hid (∀d,d<c->16<=x.length->(b.drop (0+16*d)).take 16≠x.take 16)/\Hid (wr=w.drewN e)
theorem AS (A b c A2 x c2 w B B2) (J:Rd w B 1 A b.length (bc b)) (K:Rd w B2 1 A2 x.length (bc x)) (L:b.length<=c) (T:b.length<=kaa) (M:x.length<=kaa):
  Calls Tryz.prog 277 #[.slice A b c,.slice A2 x c2] w fun z w'=>z= .returned (.int .i64 (nH (cG b x)))/\ ∃n,w'=w.drewN n:=by
 go_in;go_wp2_with fail;go_loopw [5] (fun k wr=>AR b x w k wr) (fun k _=>b+1-(intOf k).toNat)
 case atStart=>exact ⟨0,0,0,rfl,rfl,zL,fun _ e=>by omega,rfl⟩
 case round=>
  obtain ⟨i,g,d,rfl,h,U,q,j⟩:=hrel;have C:Rd wr B 1 A b (bc b):=by rw [j];exact J.drewN g
  have D:Rd wr B2 1 A2 x (bc x):=by rw [j];exact K.drewN g
  have V:=qiJ (d+16);by_cases r:d+16<=b
  ·have N:=dtX ((d:Int)+16<=b);have O:(d:Int)+16<=b:=qO;by_cases m:16<=x.length
   ·have P:=dtX ((16:Int)<=(x:Int));have Q:(16:Int)<=(x:Int):=qO;have hcut:=C.cut (lo:=d) (hi:=d+16) (cap:=c) qO r L;rw [if_neg qO,s9,s9,dW,dx,show d+16-d=16 by omega] at hcut;have s:Hid (16=((b.drop d).take 16).length):=qI (by rw [b9,b8];omega);have W:(d:Int)+16<=c:=qO;have X: ¬c=d:=qO;have Y:d+16-d=16:=qO;go_wp2_with fail;refine (AQ _ ((b.drop d).take 16) 16 _ A2 x x c2 wr B B2 s.out rfl hcut D qO M).mono ?_;rintro z R ⟨rfl,t,E⟩;have F:Hid (R=w.drewN (g+t)):=by unfold Hid;rw [E,j,o8]
    have G:=eI ((b.drop d).take 16) x;rw [<-s] at G;have l:Hid (begins ((b.drop d).take 16) x=16↔(b.drop d).take 16=x.take 16):=by
     constructor
     ·intro e;have:=kK (a:=(b.drop d).take 16) (b:=x) (n:=16) qO;rw [Om,Nat.min_self] at this;exact this
     intro e;have:=rM (a:=(b.drop d).take 16) (b:=x) (n:=16) (by rw [<-s];exact lR _) m (by rw [Om,Nat.min_self];exact e);omega
    obtain ⟨u,H⟩:=gX (begins ((b.drop d).take 16) x);rw [<-H] at l G ⊢;clear E hcut H C D;by_cases v:u=16
    ·have S:((u:Int)==16)=true:=by simp;omega
     have o:=l.1 v;have y:Hid (cG b x=some d):=by
      unfold Hid cG;rw [if_pos m,rU i b 0 qO (by have:=h.out;omega) (by rw [x9,<-h];exact o) (fun f p=>q.out f p m),x9,<-h]
     clear v o l;go_wp2_with fail;go_ret;exact ⟨by rw [y];rfl,g+t,F.out⟩
    have S:((u:Int)==16)=false:=by simp;omega
    have o:Hid (¬(b.drop d).take 16=x.take 16):=fun e=>v (l.2 e);clear l;go_wp2_with fail;refine ⟨⟨i+1,g+t,d+16,by go_num,by have:=h.out;unfold Hid;omega,r,fun f p e=> ?_,F⟩,by simp [intOf];omega⟩;rcases D8 f i with I | I
    ·exact q.out f I e
    obtain rfl:f=i:=qO;rw [x9,<-h];exact o.out
   have P:=dfX ((16:Int)<=(x:Int));have Q: ¬(16:Int)<=(x:Int):=qO;go_wp2_with fail;exact ⟨⟨i+1,g,d+16,by go_num,by have:=h.out;unfold Hid;omega,r,fun f p e=>absurd e m,j⟩,by simp [intOf];omega⟩
  have N:=dfX ((d:Int)+16<=b);have O: ¬(d:Int)+16<=b:=qO;have y:Hid (cG b x=none):=by
   unfold Hid cG;split
   ·exact rV _ _ fun f p=>q.out f (by have:=h.out;omega) (by assumption)
   rfl
  go_wp2_with fail;go_ret;exact ⟨by rw [y];rfl,g,j.out⟩
theorem AT (A a c A2 b g w B B2) (y:Rd w B 1 A a.length (bc a)) (z:Rd w B2 1 A2 b.length (bc b)) (ha:a.length<=kaa) (K:b.length<=kaa):
  Calls Tryz.prog 275 #[.slice A a c,.slice A2 b g] w fun C w'=>C= .returned (.int .i64 (ends a b:Nat))/\ ∃n,w'=w.drewN n:=by
 go_in;go_wp2_with fail;go_loopw [5] (fun n wr=>AM a b w n wr) (fun n _=>a-(intOf n).toNat)
 case atStart=>exact ⟨0,0,rfl,qO,qO,fun i D=>by omega,rfl⟩
 case round=>
  obtain ⟨d,q,rfl,L,M,e,hwr⟩:=hrel;have E:Rd wr B 1 A a (bc a):=by rw [hwr];exact y.drewN q
  have F:Rd wr B2 1 A2 b (bc b):=by rw [hwr];exact z.drewN q
  have N:=qiJ (d+1);by_cases O:d<a
  ·have G:=dtX ((d:Int)<a);have P:=ltI d a.length;by_cases Q:d<b
   ·have H:=dtX ((d:Int)<b);have R:=ltI d b.length;have S:=qiJ (a-1);have T:=qiJ (b-1);have U:=qiJ (a-1-d);have V:=qiJ (b-1-d);have W:((a:Int)-1-d).toNat=a-1-d:=qO;have X:((b:Int)-1-d).toNat=b-1-d:=qO;obtain ⟨Y,Z,rfl,a0,s⟩:=E.at_ qO;obtain ⟨b0,c0,rfl,d0,t⟩:=F.at_ qO;have I:=s (a-1-d) _ (bu a (a-1-d) qO);have g:=t (b-1-d) _ (bu b (b-1-d) qO);have u:a[a-1-d]?=some a[a-1-d]:=gE qO;have v:b[b-1-d]?=some b[b-1-d]:=gE qO;obtain ⟨j,k⟩:=gX ((a[a-1-d]).toNat);obtain ⟨l,m⟩:=gX ((b[b-1-d]).toNat);rw [<-k] at I;rw [<-m] at g;have f:Hid (a[a-1-d]?=b[b-1-d]?↔j=l):=by
     unfold Hid;rw [u,v,k,m];constructor
     ·intro h;injection h with h;rw [h]
     intro h;rw [C9.1 h]
    clear k m u v s t;by_cases o:j=l
    ·have r:=qI (f.2 o);clear f;subst o;go_wp2_with fail;go_quiet (fail);go_wp2_with fail;refine ⟨⟨d+1,q+nq,by go_num,qO,qO,?_,?_⟩,by simp [intOf];omega⟩
     ·intro i D;by_cases J:i=d
      ·rw [J];exact r.out
      exact e.out i qO
     unfold Hid;rw [hwr,o8]
    have x: ¬(a[a-1-d]?=b[b-1-d]?):=fun h=>o (f.1 h);have r:=qI x;have e0:((j:Int)==l)=false:=by simp;omega
    have HA:=qI (nF (a:=a) (b:=b) (n:=d) qO qO e.out (.inr (.inr r.out)));clear x f;exact z5
   have H:=dfX ((d:Int)<b);have HA:=qI (nF (a:=a) (b:=b) (n:=d) qO qO e.out (.inr (.inl qO)));exact z5
  have G:=dfX ((d:Int)<a);have HA:=qI (nF (a:=a) (b:=b) (n:=d) qO qO e.out (.inl qO));exact z5
theorem kN {k:Nat} (a:k<=kag):aj (k:Int)=k:=by unfold aj;omega
theorem _root_.Go.Dol.Rd.aliveD {w w' A n xs size} (b:Rd w w.heap.size size A n xs) (a:Below w.heap.size w w'):Rd w' w'.heap.size size A n xs:=(b.below a).more a.size
