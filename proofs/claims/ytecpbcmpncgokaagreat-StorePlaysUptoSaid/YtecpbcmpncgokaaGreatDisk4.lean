/- Walks and laws. Conditions: as stated. -/
import Derived.Test.YtecpbcmpncgokaaGreatWordsA
import Derived.Shelf.Small.Strs
set_option maxRecDepth 99999
set_option maxHeartbeats 25600000
set_option linter.all false
open Go.Lib renaming indexByte->PR
open Go.Value renaming string->th
open Go.Instr renaming lookup->No
open Go.IntKind renaming i64->be
open Go.Proofs.Tryz renaming prog->an
open Go.RowKit Go.Dol
namespace Go.Dol
open Go.RowKit Go.MapKept
open Go.Maps (Keyed)
open Go.ChangeMaps (setBlock heap_setBlock_same heap_setBlock_other modify_eq_set)
def kR (a:List (Value×Value)) (b:Value) (al':List (Value×Value)):Prop:=
 ((∀e∈a,e.1≠b)/\al'=a)\/ ∃c d f,a=c++(b,f)::d/\al'=c++d
section
variable {P:Program} {k e t:TypeId} {w w':World} {B:Nat} {al:List (Value×Value)}
theorem MapL.drop (h:MapL P k w B al) (K:Keyed P k) (ht:P.underlying t=some (.map k e)) {key} {i:Lit} (hkey:keyOf P k key=some i) (ty):
  ∃al' w',(Builtin.delete_ #[t,k] ty #[.map (some B),key]).run P w= .ok (.tuple #[]) w'/\MapL P k w' B al'/\kR al key al'/\w.grownBy w' (some B):=by
 obtain ⟨a,c,hb,f,d,rfl⟩:=h;rcases K.find w hkey a.toList d with ⟨h1,h2⟩ | ⟨b,j,h1,h2,h3⟩
 ·refine ⟨_,setBlock w B (.map a c),?_,⟨a,c,heap_setBlock_same hb _,f,d,rfl⟩,.inl ⟨?_,rfl⟩,fY hb _⟩
  ·exact z120
  exact z129
 have hjl:=(c9.1 h2).1;have l:b<a.size:=by simpa using hjl
 have g:(a.eraseIdxIfInBounds b).toList=a.toList.eraseIdx b:=by
  unfold Array.eraseIdxIfInBounds;rw [dif_pos l];simp
 refine ⟨_,setBlock w B (.map (a.eraseIdxIfInBounds b) c),?_,⟨a.eraseIdxIfInBounds b,c,heap_setBlock_same hb _,stamped_erase f b,?_,rfl⟩,.inr ⟨(a.toList.take b).map (fun e=>(e.key,e.val)),(a.toList.drop (b+1)).map (fun e=>(e.key,e.val)),j.val,?_,?_⟩,fY hb _⟩
 ·exact z120
 ·intro x hx;rw [g] at hx;exact d x ((List.eraseIdx_sublist _ _).subset hx)
 ·have:=r8 b a.toList;exact z61
 rw [g,List.eraseIdx_eq_take_drop_succ];simp
end
structure Tw (w w':World) (g m:Nat):Prop where
 os:w'.os=w.os
 tape:w'.tape=w.tape
 output:w'.output=w.output
 size:w.heap.size<=w'
 block: ∀i,i<w.heap.size->i≠g->i≠m->w'.heap[i]?=w.heap[i]?
section
variable {w w1 w':World} {g m B:Nat}
theorem Tw.refl (w g m):Tw w w g m:=⟨rfl,rfl,rfl,lR _,fun _ _ _ _=>rfl⟩
theorem Tw.step (a:Tw w w1 g m) (b:Tw w1 w' g m):Tw w w' g m:=
 ⟨b.os.trans a.os,b.tape.trans a.tape,b.output.trans a.output,lT a.size b.size,fun c d e f=>(b.block c (r9 d a.size) e f).trans (a.block c d e f)⟩
theorem Tw.grown (a:w.grownBy w' (some g)):Tw w w' g m:=⟨a.os,a.tape,a.output,a.size,fun b c d _=>a.block b c (fun e=>d (by injection e))⟩
def OP:=@Tw.grown
theorem Tw.grownM (a:w.grownBy w' (some m)):Tw w w' g m:=⟨a.os,a.tape,a.output,a.size,fun b c _ d=>a.block b c (fun e=>d (by injection e))⟩
theorem Tw.below (a:Below w w w'):Tw w w' g m:=⟨a.os,a.tape,a.output,a.size,fun b c _ _=>a.block b c⟩
def B7:=@Tw.below
theorem Tw.toBelow (a:Tw w w' g m) (c:B<=g) (d:B<=m) (e:B<=w):Below B w w':=
 ⟨a.os,a.tape,a.output,a.size,fun b f=>a.block b qO qO qO⟩
theorem Tw.new {w0} (a:Below w0.heap.size w0 w) (b:Tw w w' g m) (c:w0<=g) (d:w0<=m):Below w0.heap.size w0 w':=a.trans (b.toBelow c d a.size)
theorem Tw.drew (a:Tw w w' g m):Tw w w'.drew g m:=⟨a.os,a.tape,a.output,a.size,a.block⟩
end
end Go.Dol
namespace Go.Dol
abbrev Fil:=BA×LU
def sLt (a b:BA):Bool:=decide (a.data.toList<b.data.toList)
theorem fD {a b:BA} (c:a.data.toList=b.data.toList):a=b:=by
 cases a;cases b
 congr 1;exact Array.toList_inj.1 c
theorem la (a):sLt a a=false:=by
 unfold sLt;exact qF (OR _)
theorem ol {a b c} (d:sLt a b=true) (e:sLt b c=true):sLt a c=true:=by
 unfold sLt at*;exact dT (List.lt_trans (of_decide_eq_true d) (of_decide_eq_true e))
theorem sM {a b} (d:sLt a b=false) (e:a≠b):sLt b a=true:=by
 unfold sLt at*;have f:=of_decide_eq_false d;refine dT ?_;rcases Decidable.em (b.data.toList<a.data.toList) with c | c
 ·exact c
 exact absurd (fD (Oz (PB.1 c) (PB.1 f))) e
theorem sN {a b} (c:sLt a b=true):sLt b a=false:=by
 cases d:sLt b a with
 | false=>rfl
 | true=>
 have:=ol c d;rw [la] at this;cases this
theorem ig {a b} (c:sLt a b=true):a≠b:=by
 rintro rfl;rw [la] at c;cases c
def ab (s:BA):Bool:=decide (1<=s.size)&&decide (s.size<=200)&& !s.data.toList.contains 0
def aa:List Fil->BA->Option (LU)
 | [],_=>none
 | f::r,n=>if sLt f.1 n=true then aa r n else if f.1=n then some f.2 else none
def bS:List Fil->BA->Nat
 | [],_=>0
 | f::r,n=>if sLt f.1 n=true then bS r n+1 else 0
def ag:List Fil->BA->LU->List Fil
 | [],n,b=>[(n,b)]
 | f::r,n,b=>if sLt f.1 n=true then f::ag r n b else if f.1=n then (n,b)::r else (n,b)::f::r
def am:List Fil->BA->List Fil
 | [],_=>[]
 | f::r,n=>if sLt f.1 n=true then f::am r n else if f.1=n then r else f::r
def InOrder (l:List Fil):Prop:=l.Pairwise fun a b=>sLt a.1 b.1=true
def dB (f:Fil):Int:=16+f.1.size+f.2
def ar:List Fil->Int
 | []=>0
 | f::r=>dB f+ar r
theorem InOrder.tail {f r} (a:InOrder (f::r)):InOrder r:=(s8.1 a).2
theorem InOrder.head {f r} (a:InOrder (f::r)): ∀g∈r,sLt f.1 g.1=true:=(s8.1 a).1
theorem fZ {l n} (d:InOrder l):aa l n=none↔ ∀f∈l,f.1≠n:=by
 induction l with
 | nil=>simp [aa]
 | cons f k g=>
 unfold aa;split
 ·rename_i a;rw [g d.tail];simp only [i8,forall_eq_or_imp];exact ⟨fun b=>⟨ig a,b⟩,fun b=>b.2⟩
 rename_i a;split
 ·rename_i c;simp [c]
 rename_i c;simp only [i8,forall_eq_or_imp,true_iff];refine ⟨c,fun h i j=> ?_⟩;have e:=d.head h i;rw [j] at e;exact a e
theorem bz {l n b} (f:InOrder l):aa l n=some b↔(n,b)∈l:=by
 induction l with
 | nil=>simp [aa]
 | cons k h i=>
 unfold aa;split
 ·rename_i c;rw [i f.tail];simp only [i8];refine ⟨.inr,fun d=> ?_⟩;rcases d with a | d
  ·rw [<-a] at c;exact absurd rfl (ig c)
  exact d
 rename_i c;have g:(n,b)∉h:=fun j=>c (f.head _ j);split
 ·rename_i e;simp only [i8,g,or_false,M6];refine ⟨fun a=> ?_,fun a=> ?_⟩
  ·rw [<-e,<-a]
  rw [<-a]
 rename_i e;simp only [i8,g,or_false,reduceCtorEq,false_iff];intro a;exact e (by rw [<-a])
theorem gc {l n b}: ∀f∈ag l n b,f=(n,b)\/f∈l:=by
 induction l with
 | nil=>simp [ag]
 | cons h i e=>
 intro f c;unfold ag at c;split at c
 ·rcases i8.1 c with a | d
  ·exact .inr (by rw [a];exact j8 ..)
  rcases e f d with a | g
  ·exact .inl a
  exact .inr (k8 _ g)
 split at c
 ·rcases i8.1 c with a | d
  ·exact .inl a
  exact .inr (k8 _ d)
 rcases i8.1 c with a | d
 ·exact .inl a
 exact .inr d
theorem jn {l n}: ∀f∈am l n,f∈l:=by
 induction l with
 | nil=>simp [am]
 | cons e g b=>
 intro f a;unfold am at a;split at a
 ·rcases i8.1 a with c | d
  ·rw [c];exact j8 ..
  exact k8 _ (b f d)
 split at a
 ·exact k8 _ a
 exact a
theorem ef {l n b} (a:InOrder l):InOrder (ag l n b):=by
 induction l with
 | nil=>exact w8 ..
 | cons k m j=>
 unfold ag;split
 ·rename_i e;refine s8.2 ⟨fun c d=> ?_,j a.tail⟩;rcases gc c d with f | g
  ·rw [f];exact e
  exact a.head c g
 rename_i e;split
 ·rename_i h;refine s8.2 ⟨fun c d=> ?_,a.tail⟩;have:=a.head c d;rw [h] at this;exact this
 rename_i h;have i:=sM (by simpa using e) h;refine s8.2 ⟨fun c d=> ?_,a⟩;rcases i8.1 d with f | g
 ·rw [f];exact i
 exact ol i (a.head c g)
theorem dj {l n} (a:InOrder l):InOrder (am l n):=by
 induction l with
 | nil=>exact a
 | cons d e b=>
 unfold am;split
 ·exact s8.2 ⟨fun g c=>a.head g (jn g c),b a.tail⟩
 split
 ·exact a.tail
 exact a
theorem ga (l n b):(ag l n b).Perm ((n,b)::am l n):=by
 induction l with
 | nil=>exact .refl _
 | cons a d c=>
 unfold ag am;split
 ·exact (c.cons a).trans (.swap _ _ _)
 split
 ·exact .refl _
 exact .refl _
theorem fB {l n b} (a:aa l n=some b):l.Perm ((n,b)::am l n):=by
 induction l with
 | nil=>cases a
 | cons d g f=>
 unfold aa at a;unfold am;split at a
 ·rename_i c;rw [if_pos c];exact ((f a).cons d).trans (.swap _ _ _)
 rename_i c;rw [if_neg c];split at a
 ·rename_i e;rw [if_pos e];injection a with a;have:d=(n,b):=by rw [<-e,<-a]
  rw [this]
 cases a
theorem eK {l n} (a:aa l n=none):am l n=l:=by
 induction l with
 | nil=>rfl
 | cons e f c=>
 unfold aa at a;unfold am;split at a
 ·rename_i b;rw [if_pos b,c a]
 rename_i b;rw [if_neg b];split at a
 ·cases a
 rename_i d;rw [if_neg d]
theorem Ck (l n):bS l n<=l.length:=by
 induction l with
 | nil=>exact lR _
 | cons a b c=>
 unfold bS;split
 ·simp;omega
 simp
theorem Cl {l n k} (a:k<bS l n): ∃f,l[k]?=some f/\sLt f.1 n=true:=by
 induction l generalizing k with
 | nil=>simp [bS] at a
 | cons f d b=>
 unfold bS at a;split at a
 ·rename_i c;cases k with
  | zero=>exact ⟨f,rfl,c⟩
  | succ k=>exact b qO
 omega
theorem Cm {l n f} (a:l[bS l n]?=some f):sLt f.1 n=false:=by
 induction l with
 | nil=>cases a
 | cons b e c=>
 unfold bS at a;split at a
 ·exact c a
 rename_i d;have:b=f:=by simpa using a
 rw [<-this];simpa using d
theorem sO {l n k} (e:k<=l.length) (d: ∀j,j<k-> ∃f,l[j]?=some f/\sLt f.1 n=true) (ha: ∀f,l[k]?=some f->sLt f.1 n=false):bS l n=k:=by
 rcases Nat.lt_trichotomy (bS l n) k with a | a | a
 ·obtain ⟨f,c,b⟩:=d _ a;rw [Cm c] at b;cases b
 ·exact a
 obtain ⟨f,c,b⟩:=Cl a;rw [ha f c] at b;cases b
theorem jo (l:List Fil) (n:BA):aa l n=match l[bS l n]? with | some f=>if f.1=n then some f.2 else none | none=>none:=by
 induction l with
 | nil=>rfl
 | cons f b a=>
 unfold aa bS;split
 ·rw [a];rfl
 rfl
theorem Cn (l n b):ag l n b=l.take (bS l n)++(n,b)::l.drop (bS l n+if (aa l n).isSome=true then 1 else 0):=by
 induction l with
 | nil=>rfl
 | cons c r a=>
 unfold ag aa bS;split
 ·rw [a];simp only [Nz,List.cons_append,List.cons.injEq,true_and];rw [show bS r n+1+(if (aa r n).isSome=true then 1 else 0)=(bS r n+if (aa r n).isSome=true then 1 else 0)+1 by omega,Oa]
 split
 ·simp
 simp
theorem Co {l n} (a:(aa l n).isSome=true):am l n=l.take (bS l n)++l.drop (bS l n+1):=by
 induction l with
 | nil=>cases a
 | cons e f c=>
 unfold aa at a;unfold am bS;split at a
 ·rename_i b;rw [if_pos b,if_pos b,c a];simp
 rename_i b;rw [if_neg b,if_neg b];split at a
 ·rename_i d;rw [if_pos d];simp
 cases a
theorem sP {l m} (a:l.Perm m):ar l=ar m:=by
 induction a with
 | nil=>rfl
 | cons b _ c=>simp only [ar,c]
 | swap b f l=>simp only [ar];omega
 | trans _ _ d e=>rw [d,e]
theorem Cp (l m):ar (l++m)=ar l+ar m:=by
 induction l with
 | nil=>simp [ar]
 | cons b c a=>simp only [List.cons_append,ar,a];omega
theorem kX (f):16<=dB f:=by unfold dB;omega
theorem oe (l):0<=ar l:=by
 induction l with
 | nil=>exact Int.le_refl _
 | cons a b c=>have:=kX a;simp only [ar];omega
theorem sz (l n b):ar (ag l n b)=dB (n,b)+ar (am l n):=sP (ga l n b)
theorem og {l n b} (a:aa l n=some b):ar l=dB (n,b)+ar (am l n):=sP (fB a)
theorem cF {l n b} (h:InOrder l) (m):aa (ag l n b) m=if m=n then some b else aa l m:=by
 split
 ·rename_i e;subst e;exact (bz (ef h)).2 ((ga l m b).mem_iff.2 (j8 ..))
 rename_i e;cases hl:aa l m with
 | none=>
  refine (fZ (ef h)).2 fun a c=> ?_;rcases gc a c with e2 | hm
  ·rw [e2];exact fun f=>e f.symm
  exact (fZ h).1 hl a hm
 | some g=>
 refine (bz (ef h)).2 ((ga l n b).mem_iff.2 (k8 _ ?_));exact z256
theorem Cq {l n} (c:InOrder l): ∀f∈am l n,f.1≠n:=by
 induction l with
 | nil=>simp [am]
 | cons j k i=>
 intro f a;unfold am at a;split at a
 ·rename_i d;rcases i8.1 a with b | e
  ·rw [b];exact ig d
  exact i c.tail f e
 rename_i d;split at a
 ·rename_i g;have:=c.head f a;rw [g] at this;exact (ig this).symm
 rename_i g;rcases i8.1 a with b | e
 ·rw [b];exact g
 intro b;have h:=c.head f e;rw [b] at h;exact d h
theorem eH {l n} (h:InOrder l) (m):aa (am l n) m=if m=n then none else aa l m:=by
 split
 ·rename_i e;subst e;exact (fZ (dj h)).2 (Cq h)
 rename_i e;cases hl:aa l m with
 | none=>exact (fZ (dj h)).2 fun f a=>(fZ h).1 hl f (jn f a)
 | some b=>
 refine (bz (dj h)).2 ?_;exact z256
theorem AD {l m} (f:InOrder l) (g:InOrder m) (b:l.Perm m):l=m:=by
 induction l generalizing m with
 | nil=>exact (List.nil_perm.1 b).symm▸rfl
 | cons c q i=>
 cases m with
 | nil=>exact absurd b.symm (by simp)
 | cons d j=>
 have k:c=d:=by
  rcases i8.1 (b.mem_iff.1 (j8 ..)) with e | n
  ·exact e
  rcases i8.1 (b.mem_iff.2 (j8 (a:=d) (l:=j))) with e | o
  ·exact e.symm
  have p:=g.head c n;have h:=f.head d o;rw [sN p] at h;cases h
 subst k;rw [i f.tail g.tail ((List.perm_cons c).1 b)]
structure Dk where
 cap:Int
 l:List Fil
 done:Nat
 left:Int
 dark:Bool
def frD (D:Dk):Int:=be.wrap (D.cap-ar D.l)
def aW (D:Dk) (a:List Fil):Int×Dk:=
 if D.left=0 then (5,{ D with dark:=true,left:=-1 })
 else (0,{ D with left:=if 0<D.left then D.left-1 else D.left,done:=D.done+1,l:=a })
def cy (D:Dk) (a:Int) (b:List Fil):Int×Dk:=if 0<a/\frD D<a then (4,D) else aW D b
def cJ (D:Dk) (n:BA) (b:LU):Int:=b.length+(match aa D.l n with | none=>16+(n.size:Int) | some _=>0)
def fC (D:Dk) (a b:BA):Int:=match aa D.l b with | none=>(b.size:Int)-a.size | some _=>0
def aF (D:Dk) (n:BA) (b:LU):Int×Dk:=
 if 64<b.length\/ab n=false then (1,D) else if D.dark=true then (5,D) else
  cy D (cJ D n b) (ag D.l n ((aa D.l n).getD []++b))
def bK (D:Dk) (n:BA):Int:=if ab n=false then 1 else if D.dark=true then 5 else if (aa D.l n).isSome=true then 0 else 3
def aB (D:Dk) (n:BA):Int×Dk:=if bK D n≠0 then (bK D n,D) else aW D (am D.l n)
def bd (D:Dk) (n:BA):Int×Dk:=if bK D n≠0 then (bK D n,D) else aW D D.l
def bx (D:Dk) (a b:BA):Int×Dk:=
 if ab a=false\/ab b=false then (1,D) else if bK D a≠0 then (bK D a,D) else
  cy D (fC D a b) (ag (am D.l a) b ((aa D.l a).getD []))
def aU (D:Dk) (n:BA):LU×Int:=if ab n=false then ([],1) else match aa D.l n with | none=>([],3) | some a=>(a,0)
def dm (D:Dk) (k:Int):Int×Dk:=if k<0 then (1,D) else (0,if D.dark=true then D else { D with left:=k })
def onD (D:Dk):Dk:={ D with dark:=false,left:=-1 }
theorem nX {l c} (a:l.contains c=true):0<=PR l c:=by
 have h:=Lib.indexByte_ge l c;rcases (show PR l c<0\/0<=PR l c by omega) with b | b
 ·have d:PR l c= -1:=qO;have e:=Lib.indexByte_none d;rw [y9] at a;obtain ⟨i,f,g⟩:=I8 a;exact absurd (by rw [gE f,g]) (e i)
 exact b
theorem nY {l c} (d:l.contains c=false):PR l c= -1:=by
 have j:=Lib.indexByte_ge l c;rcases (show PR l c<0\/0<=PR l c by omega) with e | e
 ·omega
 obtain ⟨a,f⟩: ∃a:Nat,PR l c=a:=⟨(PR l c).toNat,qO⟩;have g:=(Lib.indexByte_some f).1;have b:c∈l:=by
  obtain ⟨h,i⟩:=c9.1 g;rw [<-i];exact NF h
 rw [<-y9,d] at b;cases b
end Go.Dol
namespace Go.Proofs.YtecpbcmpncgokaaGreat
theorem il:Go.Maps.Keyed an 9:=Go.Maps.string_keyed l9
theorem im (n) (a:n.size<=maxLen): ∃b,keyOf an 9 (.string n)=some b:=⟨_,Go.WideMaps.keyOf_string_mk l9 a⟩
theorem Bu (w):(zeroValue 36).run an w= .ok eL w:=qkR
def Byt (w:World) (v:Value) (b:LU):Prop:=∃ c a,v= .slice c b a/\Far w 0 c b/\b.length<=a/\a<=maxLen
def Fls (w:World) (d:List (Value×Value)) (e:List Fil):Prop:=
 ∃a:List (Fil×Value),d=a.map (fun b=>(th b.1.1,b.2))/\(∀c∈a,Byt w c.2 c.1.2)/\(a.map Prod.fst).Perm e
section
variable {w w':World} {v:Value} {b:LU} {al al':List (Value×Value)} {L:List Fil} {n:BA}
theorem Byt.keep (a:Byt w v b) {row} (c:w.grownBy w' row) (d:Other w 0 row):Byt w' v b:=by
 obtain ⟨e,f,g,h,i⟩:=a;exact ⟨e,f,g,h.keep c d,i⟩
theorem Byt.below (a:Byt w v b) (c:Below w w w'):Byt w' v b:=by
 obtain ⟨d,e,f,g,h⟩:=a;exact ⟨d,e,f,g.below c,h⟩
theorem Byt.seg {base A c} (a:Seg w base 5 1 A b.length c (bc b)):Byt w (.slice A b.length c) b:=⟨A,c,rfl,J7 a,a.2.1,a.2.2.1⟩
theorem Byt.own {base} (a:w.ownsRow base 5 1 v b.length (bc b)):Byt w v b:=by
 obtain ⟨c,d,rfl,_,_⟩:=fA a;exact Byt.seg (s7 a)
theorem Fls.keep (a:Fls w al L) {row} (c:w.grownBy w' row) (d:Other w 0 row):Fls w' al L:=by
 obtain ⟨e,f,g,h⟩:=a;exact ⟨e,f,fun p i=>(g p i).keep c d,h⟩
theorem Fls.below (a:Fls w al L) (c:Below w w w'):Fls w' al L:=by
 obtain ⟨d,e,f,g⟩:=a;exact ⟨d,e,fun p h=>(f p h).below c,g⟩
theorem Fls.nil (w):Fls w [] []:=⟨[],rfl,fun _ a=>(m9 a).elim,.refl _⟩
theorem Fls.split {M:List (Fil×Value)} {l r:List (Value×Value)} {e:Value} (g:M.map (fun m=>(th m.1.1,m.2))=l++(.string n,e)::r):
  ∃a c d,M=a++((n,c),e)::d/\a.map (fun m=>(th m.1.1,m.2))=l/\d.map (fun m=>(th m.1.1,m.2))=r:=by
 obtain ⟨a,d,rfl,h,i⟩:=List.map_eq_append_iff.1 g;obtain ⟨j,k,rfl,f,o⟩:=List.map_eq_cons_iff.1 i;obtain ⟨⟨p,c⟩,q⟩:=j;simp only [Prod.mk.injEq,th.injEq] at f;obtain ⟨rfl,rfl⟩:=f;exact ⟨a,c,k,rfl,h,o⟩
theorem Fls.look (d:Fls w al L) (e:InOrder L) (f:(th n,v)∈al): ∃b,aa L n=some b/\Byt w v b:=by
 obtain ⟨i,rfl,g,h⟩:=d;obtain ⟨⟨⟨j,b⟩,k⟩,a,c⟩:=e9.1 f;simp only [Prod.mk.injEq,th.injEq] at c;obtain ⟨rfl,rfl⟩:=c;exact ⟨b,(bz e).2 (h.mem_iff.1 (e9.2 ⟨_,a,rfl⟩)),g _ a⟩
theorem Fls.none (a:Fls w al L) (c:InOrder L) (d: ∀p∈al,p.1≠th n):aa L n=none:=by
 obtain ⟨i,rfl,j,e⟩:=a;refine (fZ c).2 fun k f g=> ?_;obtain ⟨p,h,rfl⟩:=e9.1 (e.mem_iff.2 f);exact d _ (e9.2 ⟨p,h,rfl⟩) (by rw [<-g])
theorem Fls.put (f:Fls w al L) (g:InOrder L) (a:MPut al (.string n) v al') (h:Byt w v b):Fls w al' (ag L n b):=by
 have l:=f;obtain ⟨m,rfl,d,e⟩:=f;rcases a with ⟨o,rfl⟩ | ⟨t,u,x,p,rfl⟩
 ·refine ⟨m++[((n,b),v)],by simp,fun c a=> ?_,?_⟩
  ·rcases l7.1 a with a | a
   ·exact d c a
   rw [i7.1 a];exact h
  have q:=l.none g o;refine .trans ?_ (ga L n b).symm;rw [eK q,p8];exact (List.perm_append_comm).trans (e.cons _)
 obtain ⟨i,j,k,rfl,rfl,rfl⟩:=Fls.split p;refine ⟨i++((n,b),v)::k,by simp,fun c a=> ?_,?_⟩
 ·rcases l7.1 a with a | a
  ·exact d c (l7.2 (.inl a))
  rcases i8.1 a with rfl | a
  ·exact h
  exact d c (l7.2 (.inr (k8 _ a)))
 have r:aa L n=some j:=(bz g).2 (e.mem_iff.1 (by simp));have s:(((i++k).map Prod.fst)).Perm (am L n):=by
  refine (List.perm_cons (n,j)).1 (.trans ?_ (e.trans (fB r)));rw [p8,p8,List.map_cons];exact Ox.symm
 refine .trans ?_ (ga L n b).symm;rw [p8,List.map_cons];refine Ox.trans (.cons _ ?_);rw [<-p8];exact s
theorem Fls.drop (c:Fls w al L) (d:InOrder L) (a:kR al (.string n) al'):Fls w al' (am L n):=by
 have e:=c;obtain ⟨p,rfl,f,g⟩:=c;rcases a with ⟨j,rfl⟩ | ⟨q,r,s,k,rfl⟩
 ·rw [eK (e.none d j)];exact e
 obtain ⟨l,h,m,rfl,rfl,rfl⟩:=Fls.split k;have o:aa L n=some h:=(bz d).2 (g.mem_iff.1 (by simp));refine ⟨l++m,by simp,fun i a=> ?_,?_⟩
 ·rcases l7.1 a with a | a
  ·exact f i (l7.2 (.inl a))
  exact f i (l7.2 (.inr (k8 _ a)))
 refine (List.perm_cons (n,h)).1 (.trans ?_ (g.trans (fB o)));rw [p8,p8,List.map_cons];exact Ox.symm
end
def bo (n:Nat):Int:=be.wrap n
def io (cap:Int) (m:Nat) (a:Int) (done:Nat) (b:Int) (c:Bool):List Value:=
 [.int .i64 cap,.map (some m),.int .i64 a,.int .i64 (bo done),.int .i64 b,.bool c]
def Dsk (w:World) (g m:Nat) (D:Dk):Prop:=∃ a,Blk w g 145 (io D.cap m (frD D) D.done D.left D.dark)/\MapL an 9 w m a/\Fls w a D.l
theorem Other.map {k w m al} (c:MapL an k w m al):Other w 0 (some m):=by
 intro e a;injection a with a;subst a;refine ⟨zL,fun f g b=> ?_⟩;obtain ⟨h,i,d,_⟩:=c;rw [d] at b;cases b
def Ow:=@Other.map
section
variable {w w':World} {g m:Nat} {D:Dk}
theorem Dsk.lt (a:Dsk w g m D):g<w/\m<w:=by
 obtain ⟨d,b,c,_⟩:=a;exact ⟨b.lt,c.lt⟩
theorem Dsk.below (c:Dsk w g m D) (a:Below w w w'):Dsk w' g m D:=by
 obtain ⟨d,b,e,f⟩:=c;exact ⟨d,b.below a b.lt,e.belowW a,f.below a⟩
theorem Dsk.drew (a:Dsk w g m D):Dsk w.drew g m D:=a.below ⟨rfl,rfl,rfl,lR _,fun _ _=>rfl⟩
theorem sk {al L} (r:MapL an 9 w m al) (s:Fls w al L) (t:InOrder L) (n) (x:n.size<=maxLen):
  (Hid (aa L n=none)/\(∀a:World,a.heap[m]?=w.heap[m]?->(No 140 (.map (some m)) (.string n) true).run an a= .ok (.tuple #[eL,false]) a)/\
   ∀a:World,a.heap[m]?=w.heap[m]?->(No 140 (.map (some m)) (.string n) false).run an a= .ok eL a)\/
  ∃b A c,Hid (aa L n=some b)/\Far w 0 A b/\b.length<=c/\c<=maxLen/\(∀a:World,a.heap[m]?=w.heap[m]?->(No 140 (.map (some m)) (.string n) true).run an a= .ok (.tuple #[.slice A b.length c,true]) a)/\
   ∀a:World,a.heap[m]?=w.heap[m]?->(No 140 (.map (some m)) (.string n) false).run an a= .ok (.slice A b.length c) a:=by
 obtain ⟨G,y⟩:=im n x;have j:=fun (a:World) (f:a.heap[m]?=w.heap[m]?) (ok:Bool)=>(r.keepB f).look il D7 (Bu _) y ok;by_cases k: ∃l,(th n,l)∈al
 ·obtain ⟨l,o⟩:=k;obtain ⟨b,z,A,c,rfl,B,u⟩:=s.look t o;have v: ∀d,(th n,d)∈al->d= .slice A b c:=by
   intro d i;have p:=r.nodup;obtain ⟨H,I,rfl⟩:=List.append_of_mem o;rw [p8,List.map_cons,E9] at p;rcases l7.1 i with i | i
   ·exact absurd rfl (p.2.2 _ (e9.2 ⟨_,i,rfl⟩) _ (by simp))
   rcases i8.1 i with q | i
   ·injection q
   exact absurd (e9.2 ⟨_,i,rfl⟩) (NP.1 p.2.1).1
  refine .inr ⟨b,A,c,qI z,B,u.1,u.2,fun a f=> ?_,fun a f=> ?_⟩
  ·rcases j a f true with ⟨e,_⟩ | ⟨d,e,h⟩
   ·exact absurd rfl (e _ o)
   rw [v d e] at h;exact h
  rcases j a f false with ⟨e,_⟩ | ⟨d,e,h⟩
  ·exact absurd rfl (e _ o)
  rw [v d e] at h;exact h
 have C: ∀E∈al,E.1≠th n:=by
  rintro ⟨J,l⟩ F q;exact k ⟨l,by rw [<-q];exact F⟩
 refine .inl ⟨qI (s.none t C),fun a f=> ?_,fun a f=> ?_⟩
 ·rcases j a f true with ⟨_,h⟩ | ⟨d,e,_⟩
  ·exact h
  exact absurd ⟨d,e⟩ k
 rcases j a f false with ⟨_,h⟩ | ⟨d,e,_⟩
 ·exact h
 exact absurd ⟨d,e⟩ k
theorem Dsk.find (d:Dsk w g m D) (e:InOrder D.l) (n) (f:n.size<=maxLen):
  (Hid (aa D.l n=none)/\(∀a:World,a.heap[m]?=w.heap[m]?->(No 140 (.map (some m)) (.string n) true).run an a= .ok (.tuple #[eL,false]) a)/\
   ∀a:World,a.heap[m]?=w.heap[m]?->(No 140 (.map (some m)) (.string n) false).run an a= .ok eL a)\/
  ∃b A c,Hid (aa D.l n=some b)/\Far w 0 A b/\b.length<=c/\c<=maxLen/\(∀a:World,a.heap[m]?=w.heap[m]?->(No 140 (.map (some m)) (.string n) true).run an a= .ok (.tuple #[.slice A b.length c,true]) a)/\
   ∀a:World,a.heap[m]?=w.heap[m]?->(No 140 (.map (some m)) (.string n) false).run an a= .ok (.slice A b.length c) a:=by
 obtain ⟨j,k,h,i⟩:=d;exact sk h i e n f
end
end Go.Proofs.YtecpbcmpncgokaaGreat
namespace Go.Dol
def rdD (D:Dk) (ns:List BA):Int:=if ns.all ab=false then 1 else if D.dark=true then 5 else 0
def thD (D:Dk) (ns:List BA) (n:BA):Int:=if rdD D (ns++[n])≠0 then rdD D (ns++[n]) else if (aa D.l n).isSome=true then 0 else 3
def dM (D:Dk) (n:BA):Int:=match aa D.l n with | none=>0 | some a=>16+n.size+a
theorem BJ (x):be.wrap (be.wrap x)=be.wrap x:=by
 simp only [IntKind.wrap,IntKind.bits,IntKind.signed];simp;split<;>split<;>omega
theorem dN {n} (a:ab n=true):n.size<=200:=by
 unfold ab at a;simp only [m8,decide_eq_true_eq] at a;exact a.1.2
end Go.Dol
namespace Go.Proofs.YtecpbcmpncgokaaGreat
def Ks:Go.Shelf.Ren:=⟨fun | 137=>172 | 217=>243 | 266=>270 | n=>n,fun | 9=>9 | 5=>5 | 3=>3 | n=>n,fun | n=>n⟩
theorem Kt:Go.Proofs.Lays.n137 an Ks:={
 mixed:=qkR
 f137:=Tryz.func172.trans (congrArg some qkR)
 f217:=Tryz.func243.trans (congrArg some qkR)
 f266:=Tryz.func270.trans (congrArg some qkR)
 t3:=B9
 a3:=Tryz.isAgg3
 z3:=Tryz.sizeOf3
 v3:=Tryz.zeroValue3
 t5:=z8
 a5:=Tryz.isAgg5
 z5:=Tryz.sizeOf5
 v5:=Tryz.zeroValue5
 t9:=l9
 a9:=Pb
 z9:=OQ
 v9:=Oi }
theorem yb (s c w):
  Calls an 172 #[.string s,.int .u8 c] w fun a w'=>a= .returned (.int .i64 (PR s.data.toList c.toNat.toUInt8))/\w'=w:=Any.strings_IndexByte Kt s c w
theorem gN (s k c) (a:k.toNat.toUInt8=c) (w):Calls an 172 #[.string s,.int .u8 k] w fun b w'=>b= .returned (.int .i64 (PR s.data.toList c))/\w'=w:=by
 subst a;exact yb s k w
theorem sw (n w):Calls an 171 #[.string n] w fun g w'=>g= .returned (.bool (!ab n))/\w'=w:=by
 obtain ⟨d,a⟩:=gX (!ab n);rw [<-a];by_cases e:n.size<1
 ·have l:=dtX ((n.size:Int)<1);have HF:Hid (d=true):=by unfold Hid ab at *; rw [a,qF (show ¬1<=n.size by omega)];simp
  clear e a;go_in;exact z36
 have l:=dfX ((n.size:Int)<1);have f:=dtX (1<=n.size);by_cases i:200<n.size
 ·have m:=dtX ((n.size:Int)>200);have HF:Hid (d=true):=by unfold Hid ab at *; rw [a,qF (show ¬n.size<=200 by omega)];simp
  clear e i a f;go_in;exact z36
 have m:=dfX ((n.size:Int)>200);have j:=dtX (n.size<=200);cases b:n.data.toList.contains 0 with
 | true=>
  have c:=nX b;obtain ⟨o,k⟩:=gX (PR n.data.toList 0);rw [<-k] at c;have q:=qI k;have HF:Hid (d=true):=by unfold Hid ab at *; rw [a,b];simp
  have r:decide (o>=0)=true:=dT c;clear e i a k b c f j;go_in;go_wp2_with (go_at_call 172;refine (gN n 0 0 rfl _).mono ?_;rintro g w' ⟨rfl,rfl⟩;rw [<-q]);go_ret;rw [HF];exact ⟨rfl,rfl⟩
 | false=>
 have c:=qI (nY b);have HF:Hid (d=false):=by unfold Hid ab at *; rw [a,b,f,j];rfl
 clear e i a b f j;go_in;go_wp2_with (go_at_call 172;refine (gN n 0 0 rfl _).mono ?_;rintro g w' ⟨rfl,rfl⟩;rw [c]);go_ret;rw [HF];exact ⟨rfl,rfl⟩
def sc (ns:List BA):List Value:=ns.map .string
def BH (ns:List BA) (w:World) (i:Value) (wr:World):Prop:=∃ a:Nat,i= .int .i64 a/\a<=ns.length/\Hid (∀b∈ns.take a,ab b=true)/\wr=w
theorem BI (B A ns c w) (h:Rd w B 1 A ns.length (sc ns)) (s:ns.length<=kaa):
  Calls an 242 #[.slice A ns c,.func (.func 171) #[] #[]] w fun f w'=> ∃r:Int,f= .returned (.int .i64 r)/\Hid (decide (0<=r)= !ns.all ab)/\w'=w:=by
 go_in;go_wp2_with fail;go_loopw [8] (fun i wr=>BH ns w i wr) (fun i _=>ns-(intOf i).toNat)
 case atStart=>exact ⟨0,rfl,zL,qI (by simp),rfl⟩
 case round=>
  obtain ⟨a,rfl,t,j,rfl⟩:=hrel;by_cases o:a<ns
  ·obtain ⟨u,v,rfl,x,k⟩:=h.at_ qO;obtain ⟨n,d⟩: ∃n,ns[a]?=some n:=⟨ns[a],gE o⟩;have l:(sc ns)[a]?=some (.string n):=by simp [sc,d]
   have y:=k a _ l;have m:=qI d;clear d l k h;cases e:ab n with
   | true=>
    go_wp2_with ((go_at_call 171;refine (sw n _).mono ?_;rw [e];rintro f w' ⟨rfl,rfl⟩));refine ⟨⟨a+1,by go_num,qO,qI fun p b=> ?_,rfl⟩,by simp [intOf];omega⟩;rw [t7,l7] at b;rcases b with b | b
    ·exact j.out p b
    rw [m] at b;rw [i7.1 b];exact e
   | false=>
   go_wp2_with ((go_at_call 171;refine (sw n _).mono ?_;rw [e];rintro f w' ⟨rfl,rfl⟩));go_ret;refine ⟨a,rfl,qI ?_,rfl⟩;have g:ns.all ab=false:=List.all_eq_false.2 ⟨n,g8 m.out,by rw [e];decide⟩;rw [g];exact dT qO
  have q:Hid (a=ns):=qI qO;go_wp2_with fail;go_ret;refine ⟨-1,rfl,qI ?_,rfl⟩;have g:=Nu.2 fun n d=>j.out n (by rw [q,y7];exact d);rw [g];decide
theorem kS (B A ns c w) (d:Rd w B 1 A ns.length (sc ns)) (e:ns.length<=kaa):
  Calls an 101 #[.slice A ns c] w fun a w'=>a= .returned (.bool (ns.all ab))/\w'=w:=by
 have b:Calls an 170 #[.slice A ns c,.func (.func 171) #[] #[]] w fun a w'=>a= .returned (.bool (!ns.all ab))/\w'=w:=by
  go_in;go_wp2_with ((go_at_call 242;refine (BI B A ns c _ d e).mono ?_;rintro a w' ⟨f,rfl,g,rfl⟩));go_ret;refine ⟨?_,rfl⟩;have:=g.out;rw [<-this];simp
 generalize ns.all ab=f at b ⊢;go_in;go_wp2_with ((go_at_call 170;refine b.mono ?_;rintro a w' ⟨rfl,rfl⟩));go_ret;simp
theorem BK:(an.info? 9).map (fun i=>(i.zero,i.size,i.bytes))=some (some (.string ⟨#[]⟩),1,16):=qkR
theorem BL (m w):(binOp .neq 140 (.map (some m)) (.map none)).run an w= .ok (.bool true) w:=run_neq_map_nil w _ _ _ _ D7
theorem Dsk.cells {w g m D} (b:Dsk w g m D):w.cell? ⟨g,0,none⟩=some (.int .i64 D.cap)/\w.cell? ⟨g,1,none⟩=some (.map (some m))/\w.cell? ⟨g,2,none⟩=some (.int .i64 (frD D))/\
  w.cell? ⟨g,3,none⟩=some (.int .i64 (bo D.done))/\w.cell? ⟨g,4,none⟩=some (.int .i64 D.left)/\w.cell? ⟨g,5,none⟩=some (.bool D.dark):=by
 obtain ⟨c,a,_⟩:=b;exact ⟨by rw [a.cell];rfl,by rw [a.cell];rfl,by rw [a.cell];rfl,by rw [a.cell];rfl,by rw [a.cell];rfl,by rw [a.cell];rfl⟩
theorem Dsk.free {w g m D} (a:Dsk w g m D) (i):w.frozen? ⟨g,i,none⟩=false:=by
 obtain ⟨c,b,_⟩:=a;exact b.free i
section
variable {w:World} {g m:Nat} {D:Dk}
theorem fd (h:Dsk w g m D):Calls an 88 #[.pointer (some g)] w fun a w'=>a= .returned true/\w'=w:=by
 obtain ⟨b,c,d,e,f,i⟩:=h.cells;have j:=BL m w;exact z38
theorem oa (h:Dsk w g m D) (B A ns n c) (j:n=ns.length) (hr:Rd w B 1 A n (sc ns)) (hl:ns.length<=kaa):
  Calls an 107 #[.pointer (some g),.slice A n c] w fun e w'=>e= .returned (.int .i64 (rdD D ns))/\w'=w:=by
 subst j;obtain ⟨k,l,o,q,r,i⟩:=h.cells;obtain ⟨f,b⟩:=gX (rdD D ns);rw [<-b];cases a:ns.all ab with
 | false=>
  have HF:Hid (f=1):=by unfold Hid rdD at *; rw [b,if_pos a]
  clear b;have HB:=qI a;clear a;exact z234
 | true=>
 cases d:D.dark with
 | true=>
  have HF:Hid (f=5):=by unfold Hid rdD at *; rw [b,if_neg (by rw [a];decide),if_pos d]
  have HB:=qI a;clear b a;rw [d] at i;exact z234
 | false=>
 have HF:Hid (f=0):=by unfold Hid rdD at *; rw [b,if_neg (by rw [a];decide),if_neg (by rw [d];decide)]
 have HB:=qI a;clear b a;rw [d] at i;exact z234
theorem sx (h:Dsk w g m D) (hO:InOrder D.l) (n) (j:n.size<=140737488355328) (d: ∀b,aa D.l n=some b->b.length<=140737488355328):
  Calls an 105 #[.pointer (some g),.string n] w fun e w'=>e= .returned (.int .i64 (dM D n))/\w'=w:=by
 obtain ⟨k,o,q,r,s,t⟩:=h.cells;have f:n.size<=maxLen:=by unfold maxLen;omega
 rcases h.find hO n f with ⟨c,a,_⟩ | ⟨b,u,v,c,x,y,z,a,_⟩
 ·have HF:Hid (dM D n=0):=by unfold Hid dM;rw [c]
  have i:=a w rfl;clear a;go_in;exact z36
 have HF:Hid (dM D n=16+n.size+b):=by unfold Hid dM;rw [c]
 have A:=d b c.out;have B:=qiJ (16+n.size);have C:=qiJ (16+n.size+b);have i:=a w rfl;clear a d;go_in;exact z36
theorem jf (h:Dsk w g m D) (hO:InOrder D.l) (n) (a:n.size<=maxLen):
  Calls an 116 #[.pointer (some g),.string n] w fun e w'=>e= .returned (.bool (aa D.l n).isSome)/\w'=w:=by
 obtain ⟨b,c,d,f,i,j⟩:=h.cells;rcases h.find hO n a with ⟨hl,hf,_⟩ | ⟨k,o,q,hl,r,s,t,hf,_⟩
 ·exact z111
 exact z111
theorem BM (h:Dsk w g m D):Calls an 163 #[.pointer (some g)] w fun e w'=>e= .returned (.int .i64 (frD D))/\w'=w:=z107
theorem BN (h:Dsk w g m D):Calls an 162 #[.pointer (some g)] w fun e w'=>e= .returned D.dark/\w'=w:=z107
theorem ob (h:Dsk w g m D):Calls an 29 #[.pointer (some g)] w fun a w'=>a= .returned (.int .i64 (bo D.done))/\w'=w:=by
 obtain ⟨d,e,f,b,i,j⟩:=h.cells;have c:Calls an 89 #[.pointer (some ⟨g,3,none⟩)] w fun a w'=>a= .returned (.int .i64 (bo D.done))/\w'=w:=by
  have k:=run_call_load (P:=an) Tryz.func156 qkR qkR qkR .i64 qkR b;exact z38
 have l: ∀x:Nat,(convert 2 3 (.int .i64 (bo x))).run an w= .ok (.int .i64 (bo x)) w:=fun x=>by unfold bo;simp [go_sem,BJ]
 go_in;go_wp2_with (first
  | (go_at_call 88;refine (fd h).mono ?_;rintro a w' ⟨rfl,rfl⟩)
  | (go_at_call 89;refine c.mono ?_;rintro a w' ⟨rfl,rfl⟩))
 go_ret;exact ⟨rfl,rfl⟩
end
theorem nV (B A l n c) (i:n=l.length) (w) (b:Rd w B 1 A n (bc l)) (H:n<=kaa):
  Calls an 93 #[.slice A n c] w (ep 5 w l):=by
 have d:=rn w A n c;cases A with
 | none=>
  have f:=b.none_zero;have k:Hid (l=[]):=nZ qO;clear b i;subst f;have m:(binOp .eql 36 (.slice none 0 c) eL).run an w= .ok (.bool true) w:=d;clear d;go_in;go_wp2_with fail;go_ret;exact ⟨[],none,0,k.symm,rfl,j9 _ _ _ _,bR _ _,lR _,zL⟩
 | some a=>
 have m:(binOp .eql 36 (.slice (some a) n c) eL).run an w= .ok (.bool false) w:=d;have o:=bAl w (.cells #[] 5);have p:=eY w;have q:Rd (w.alloc (.cells #[] 5)) (w.alloc (.cells #[] 5)).heap.size 1 (some a) n (bc l):=by
  refine ⟨b.len,fun f=> ?_⟩;obtain ⟨g,r,s,I,j⟩:=b.at_ f;have e:=j 0 _ (bu l 0 qO);have t:g<w:=by
   rcases D8 g w.heap.size with h | h
   ·exact h
   rw [World.cell?,Oh h] at e;cases e
  refine ⟨g,r,s,by simp;omega,fun u v x=> ?_⟩;rw [F7 _ _ _ t];exact j u v x
 clear d b i;go_in;go_wp2_with (at_builtin;refine bQ rfl (.tmp 5) (.tmp 6) rfl w.heap.size _ 0 [] rfl p _ (some a) n c l rfl q (by omega) (by simp) ?_);intro y z C J D E F K _ e G;go_wp2_with fail;go_ret;exact ⟨y,z,C,D,rfl,E,o.trans F,e,G⟩
theorem BO (k w) (t:k<=140737488355328):
  Calls an 174 #[eL,(k:Nat)] w fun n w'=> ∃(A:OA) (c:Nat),n= .returned (.slice A 0 c)/\w'.ownsRow w.heap.size 5 1 (.slice A 0 c) 0 (bc [])/\Below w.heap.size w w':=by
 have u:=dfX ((k:Int)<0);have v:be.wrap (k-0)=k:=qJ qO;rcases p7 k with a | a
 ·have x:=dfX (0<k);clear a;exact z89
 obtain ⟨i0,o,q,r,f⟩:=info_parts eh;have g:(Builtin.firstCells i0.size 0 eL).run an w.drew= .ok (#[]:Array Value) w.drew:=by rw [r];simp [Builtin.firstCells]
 have i:=growslice_fits (need:=0+k) (old:=0) qO (show (0+k)*1<=kaa by omega);have b:=OD (P:=an) (ty:=36) w 36 3 5 i0 _ .i64 .i64 q7 B9 o q none 0 0 [] g k a qO qO qO (by rw [f];omega) (by rw [f];exact i);have s:=grownCap_ge w (0+k) 0 5;have j:grownCap w (0+k) 0 5<=maxLen:=grownCap_le_maxLen w (0+k) 0 5 (by unfold maxLen;omega);obtain ⟨d,l⟩:=gX (grownCap w (0+k) 0 5);rw [<-l] at b s j;obtain ⟨m,e⟩:=gX ((([]:List Value).toArray++Builtin.zeroCells (Value.int .u8 0).cells k++Builtin.zeroCells (Value.int .u8 0).cells (d-(0+k))));rw [<-e] at b;have y:m.size=d:=by rw [e];simp [Builtin.zeroCells,Value.cells];omega
 clear l e g i;go_in;go_wp2_with (at_builtin;refine O6 w rfl _ _ _ _ rfl _ _ rfl rfl _ _ b ?_);go_ret;refine ⟨_,_,rfl,⟨by simp [bc],.inr ⟨w,d,m,rfl,lR _,?_,zL,j,qO,by simp [bc]⟩⟩,((bR _ _).alloc (lR _) _).drew⟩;exact heap_alloc_new w _
def ji (b:List (LU×OA×Nat)):List Value:=b.map fun a=> .slice a.2.1 a.1.length a.2.2
def dA (a:List (LU×OA×Nat)):LU:=a.flatMap (·.1)
theorem kU {a:List (LU×OA×Nat)} {k} {x:LU×OA×Nat} (h:a[k]?=some x):dA (a.take (k+1))=dA (a.take k)++x.1:=by
 unfold dA;exact z191
theorem kV (ls k):(dA (ls.take k)).length<=(dA ls).length:=by
 unfold dA;exact z193
def BP (b:List (LU×OA×Nat)) (w:World) (d i:Value) (wr:World):Prop:=∃ a c:Nat,d= .int .i64 c/\i= .int .i64 a/\a<=b.length/\Hid (c=(dA (b.take a)).length)/\w=wr
def BQ (c:List (LU×OA×Nat)) (w:World) (f i:Value) (wr:World):Prop:=
 ∃(b:Nat) (a:LU) (d:OA) (e:Nat),f= .slice d a e/\i= .int .i64 b/\b<=c/\wr.ownsRow w 5 1 (.slice d a e) a (bc a)/\Hid (a=dA (c.take b))/\Below w w wr
theorem BR (A ls n c) (B:n=ls.length) (w) (o:Rd w w.heap.size 1 A n (ji ls)) (b0:(dA ls).length<=kaa) (c0:n<=kaa)
  (E:Hid (∀x∈ls,Rd w w 1 x.2.1 x.1.length (bc x.1))):
  Calls an 109 #[.slice A n c] w (ep 5 w (dA ls)):=by
 have HN:=qI B;clear B;go_in;go_wp2_with fail;go_loopw [3,11] (fun t i wr=>BP ls w t i wr) (fun _ i _=>n-(intOf i).toNat)
 case atStart=>exact ⟨0,0,rfl,rfl,zL,qI rfl,rfl⟩
 case round=>
  obtain ⟨b,f,rfl,rfl,F,u,rfl⟩:=hrel;have d0:b<=n:=by rw [HN];exact F
  have e0:f<=(dA ls).length:=by rw [u];exact kV ls b
  by_cases v:b<n
  ·obtain ⟨G,H,rfl,I,k⟩:=o.at_ qO;have y:b<ls:=by rw [<-HN];exact v
   obtain ⟨x,d⟩: ∃x,ls[b]?=some x:=⟨ls[b],gE y⟩;obtain ⟨a,q,r⟩:=x;have l:(ji ls)[b]?=some (.slice q a r):=by simp [ji,d]
   have J:=k b _ l;have K:f+a<=(dA ls).length:=by
    have h1:=kV ls (b+1);rw [kU d,b7,<-u] at h1;exact h1
   have f0:be.wrap (f+a)=((f+a:Nat):Int):=by rw [qJ qO];omega
   have z:=qI d;clear d l k o;go_wp2_with fail;refine ⟨⟨b+1,f+a,rfl,by go_num,qO,qI ?_,rfl⟩,by simp [intOf];omega⟩;rw [kU z.out,b7,<-u]
  have g0:f<=kaa:=qO;go_wp2_with fail;refine (BO f _ qO).mono ?_;rintro h0 i0 ⟨L,M,rfl,g,C⟩;go_wp2_with fail;go_loopw [6,27] (fun t i wr=>BQ ls w t i wr) (fun _ i _=>n-(intOf i).toNat)
  case atStart=>exact ⟨0,[],L,M,rfl,rfl,zL,g,qI rfl,C⟩
  case round=>
   clear g C;obtain ⟨e,j,N,O,rfl,rfl,P,g,s,m⟩:=hrel;have j0:e<=n:=by rw [HN];exact P
   have Q:=m.size;have k0:j<=(dA ls).length:=by rw [s];exact kV ls e
   by_cases v:e<n
   ·have D:=o.belowW m (lR _);obtain ⟨G,H,rfl,I,k⟩:=D.at_ qO;have y:e<ls:=by rw [<-HN];exact v
    obtain ⟨x,d⟩: ∃x,ls[e]?=some x:=⟨ls[e],gE y⟩;obtain ⟨a,q,r⟩:=x;have l:(ji ls)[e]?=some (.slice q a r):=by simp [ji,d]
    have J:=k e _ l;have R:=(E.out _ (g8 d)).belowW m (lR _);have K:j.length+a<=(dA ls).length:=by
     have h1:=kV ls (e+1);rw [kU d,b7,<-s] at h1;exact h1
    have S:j.length+a<=kaa:=qO;have z:=qI d;clear d l k o D;go_wp2_with (at_builtin;refine bQ rfl (.tmp 31) (.tmp 32) rfl w.heap.size _ j.length j rfl g _ q a.length r a rfl R S Q ?_);intro T U V l0 W X Y m0 _ h1 n0;go_wp2_with fail;refine ⟨⟨e+1,T,U,V,rfl,by go_num,qO,X,qI ?_,m.trans Y⟩,by simp [intOf];omega⟩;rw [kU z.out,<-s];exact W.out
   go_wp2_with fail;go_ret;obtain ⟨Z,a0⟩:=dz g;refine ⟨j,N,O,qI ?_,rfl,g,m,Z,a0⟩;have h1:=s.out;exact z131
