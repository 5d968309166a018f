/- A map of the call's own: an entry is taken away; what turns two blocks alone. Conditions: none beyond what each law names. What the layer 'disk' computes, in plain Lean: files in order of their names; what is laid, taken away, renamed; room. No program is in sight. Conditions: none beyond what each lemma names. The layer 'disk': how a disk lies in memory, and what its map of files answers. Conditions: none beyond what each law names. The library's contract that the layer 'sum' leans on, at this seat. Conditions: none. Where a byte stands in a text: what the library's answer says. Conditions: none. The walks of the layer 'disk', its first part: which names may be. Conditions: lengths below 2^47. The walks of the layer 'disk', its second part: what is asked of a disk that no write turns. Conditions: names below 2^63, lengths below 2^47. -/
import Derived.Test.YtecpbcmpncgokaaGreatWordsA
import Derived.Test.YtecpbcmpncgokaaGreatShort
import Derived.Laws.Cover1
import Derived.StringKeys
import Derived.Test.YtecpbcmpncgokaaGreatRows
import Derived.Shelf.Small.Strs
import Derived.Laws.Cover3
set_option linter.unusedVariables false
namespace Go.Dol
open Go.RowKit Go.MapKept
open Go.Maps (Keyed)
open Go.ChangeMaps (setBlock heap_setBlock_same heap_setBlock_other modify_eq_set)
def MDel (al:List (Value×Value)) (key:Value) (al':List (Value×Value)):Prop:=
 ((∀p∈al,p.1≠key)∧al'=al)∨ ∃l r v0,al=l++(key,v0)::r∧al'=l++r
section
variable {P:Program} {k e t:TypeId} {w w':World} {B:Nat} {al:List (Value×Value)}
theorem MapL.drop (h:MapL P k w B al) (K:Keyed P k) (ht:P.underlying t=some (.map k e)) {key:Value} {kl:Lit} (hkey:keyOf P k key=some kl) (ty:TypeId):
  ∃al' w',(Builtin.delete_ #[t,k] ty #[.map (some B),key]).run P w= .ok (.tuple #[]) w'∧MapL P k w' B al'∧MDel al key al'∧w.grownBy w' (some B):=by
 obtain ⟨es,clock,hb,hs,hk,rfl⟩:=h;rcases K.find w hkey es.toList hk with ⟨h1,h2⟩ | ⟨j,e0,h1,h2,h3⟩
 ·refine ⟨_,setBlock w B (.map es clock),?_,⟨es,clock,heap_setBlock_same hb _,hs,hk,rfl⟩,.inl ⟨?_,rfl⟩,ZW hb _⟩
  ·simp [Builtin.delete_,run_underlying ht,MapKept.run_getObj_map hb,K.check w _ hkey,h1,MapKept.run_setObj_map _ hb,Result.andThen,setBlock]
  ·intro p hp
   obtain ⟨x,hx,rfl⟩:=List.mem_map.1 hp;exact h2 x hx
 ·have hjl:j<es.toList.length:=(List.getElem?_eq_some_iff.1 h2).1
  have hjs:j<es.size:=by simpa using hjl
  have hsub:(es.eraseIdxIfInBounds j).toList=es.toList.eraseIdx j:=by
   unfold Array.eraseIdxIfInBounds;rw [dif_pos hjs];simp
  refine ⟨_,setBlock w B (.map (es.eraseIdxIfInBounds j) clock),?_,⟨es.eraseIdxIfInBounds j,clock,heap_setBlock_same hb _,stamped_erase hs j,?_,rfl⟩,.inr ⟨(es.toList.take j).map (fun e=>(e.key,e.val)),(es.toList.drop (j+1)).map (fun e=>(e.key,e.val)),e0.val,?_,?_⟩,ZW hb _⟩
  ·simp [Builtin.delete_,run_underlying ht,MapKept.run_getObj_map hb,K.check w _ hkey,h1,MapKept.run_setObj_map _ hb,Result.andThen,setBlock]
  ·intro x hx
   rw [hsub] at hx;exact hk x ((List.eraseIdx_sublist _ _).subset hx)
  ·have:=List.take_append_drop j es.toList
   rw [List.drop_eq_getElem_cons hjl,(List.getElem?_eq_some_iff.1 h2).2] at this;rw [←h3]
   conv=>lhs;rw [←this]
   simp
  ·rw [hsub,List.eraseIdx_eq_take_drop_succ]
   simp
end
structure Tw (w w':World) (g m:Nat):Prop where
 os:w'.os=w.os
 tape:w'.tape=w.tape
 output:w'.output=w.output
 size:w.heap.size≤w'.heap.size
 block: ∀i,i<w.heap.size→i≠g→i≠m→w'.heap[i]?=w.heap[i]?
section
variable {w w1 w':World} {g m B:Nat}
theorem Tw.refl (w:World) (g m:Nat):Tw w w g m:=⟨rfl,rfl,rfl,lR _,fun _ _ _ _=>rfl⟩
theorem Tw.step (h:Tw w w1 g m) (h2:Tw w1 w' g m):Tw w w' g m:=
 ⟨h2.os.trans h.os,h2.tape.trans h.tape,h2.output.trans h.output,lT h.size h2.size,fun i hi h3 h4=>(h2.block i (Nat.lt_of_lt_of_le hi h.size) h3 h4).trans (h.block i hi h3 h4)⟩
theorem Tw.grown (h:w.grownBy w' (some g)):Tw w w' g m:=⟨h.os,h.tape,h.output,h.size,fun i hi h1 _=>h.block i hi (fun e=>h1 (by injection e))⟩
theorem Tw.grownM (h:w.grownBy w' (some m)):Tw w w' g m:=⟨h.os,h.tape,h.output,h.size,fun i hi _ h1=>h.block i hi (fun e=>h1 (by injection e))⟩
theorem Tw.below (h:Below w.heap.size w w'):Tw w w' g m:=⟨h.os,h.tape,h.output,h.size,fun i hi _ _=>h.block i hi⟩
theorem Tw.toBelow (h:Tw w w' g m) (hg:B≤g) (hm:B≤m) (hB:B≤w.heap.size):Below B w w':=
 ⟨h.os,h.tape,h.output,h.size,fun k hk=>h.block k (by omega) (by omega) (by omega)⟩
theorem Tw.new {w0:World} (h0:Below w0.heap.size w0 w) (h:Tw w w' g m) (hg:w0.heap.size≤g) (hm:w0.heap.size≤m):Below w0.heap.size w0 w':=h0.trans (h.toBelow hg hm h0.size)
theorem Tw.drew (h:Tw w w' g m):Tw w w'.drew g m:=⟨h.os,h.tape,h.output,h.size,h.block⟩
end
end Go.Dol
set_option linter.unusedVariables false
namespace Go.Dol
open Go.RowKit
abbrev Fil:=BA×LU
def sLt (a b:BA):Bool:=decide (a.data.toList<b.data.toList)
theorem Z4U {a b:BA} (h:a.data.toList=b.data.toList):a=b:=by
 cases a;cases b
 congr 1
 exact Array.toList_inj.1 h
theorem Z7a (a:BA):sLt a a=false:=by
 unfold sLt;exact qF (List.lt_irrefl _)
theorem Z8z {a b c:BA} (h1:sLt a b=true) (h2:sLt b c=true):sLt a c=true:=by
 unfold sLt at*;exact dT (List.lt_trans (of_decide_eq_true h1) (of_decide_eq_true h2))
theorem ZcI {a b:BA} (h1:sLt a b=false) (hne:a≠b):sLt b a=true:=by
 unfold sLt at*;have h:=of_decide_eq_false h1;refine dT ?_;rcases Decidable.em (b.data.toList<a.data.toList) with hb | hb
 ·exact hb
 ·exact absurd (Z4U (List.le_antisymm (List.not_lt.1 hb) (List.not_lt.1 h))) hne
theorem ZcJ {a b:BA} (h1:sLt a b=true):sLt b a=false:=by
 cases h:sLt b a with
 | false=>rfl
 | true=>
  have:=Z8z h1 h;rw [Z7a] at this;cases this
theorem Z7b {a b:BA} (h1:sLt a b=true):a≠b:=by
 rintro rfl;rw [Z7a] at h1;cases h1
def Z8 (s:BA):Bool:=decide (1≤s.size)&&decide (s.size≤200)&& !s.data.toList.contains 0
def Z4:List Fil→BA→Option (LU)
 | [],_=>none
 | f::r,n=>if sLt f.1 n=true then Z4 r n else if f.1=n then some f.2 else none
def Z0e:List Fil→BA→Nat
 | [],_=>0
 | f::r,n=>if sLt f.1 n=true then Z0e r n+1 else 0
def putF:List Fil→BA→LU→List Fil
 | [],n,b=>[(n,b)]
 | f::r,n,b=>if sLt f.1 n=true then f::putF r n b else if f.1=n then (n,b)::r else (n,b)::f::r
def Zi:List Fil→BA→List Fil
 | [],_=>[]
 | f::r,n=>if sLt f.1 n=true then f::Zi r n else if f.1=n then r else f::r
def InOrder (l:List Fil):Prop:=l.Pairwise fun a b=>sLt a.1 b.1=true
def Z2n (f:Fil):Int:=16+f.1.size+f.2.length
def Zo:List Fil→Int
 | []=>0
 | f::r=>Z2n f+Zo r
theorem InOrder.tail {f:Fil} {r:List Fil} (h:InOrder (f::r)):InOrder r:=(List.pairwise_cons.1 h).2
theorem InOrder.head {f:Fil} {r:List Fil} (h:InOrder (f::r)): ∀g∈r,sLt f.1 g.1=true:=(List.pairwise_cons.1 h).1
theorem Z2g {l:List Fil} {n:BA} (h:InOrder l):Z4 l n=none↔ ∀f∈l,f.1≠n:=by
 induction l with
 | nil=>simp [Z4]
 | cons f r ih=>
  unfold Z4;split
  ·rename_i hlt
   rw [ih h.tail];simp only [List.mem_cons,forall_eq_or_imp];exact ⟨fun hr=>⟨Z7b hlt,hr⟩,fun hr=>hr.2⟩
  ·rename_i hlt
   split
   ·rename_i he
    simp [he]
   ·rename_i he
    simp only [List.mem_cons,forall_eq_or_imp,true_iff];refine ⟨he,fun g hg e=> ?_⟩;have h1:=h.head g hg;rw [e] at h1;exact hlt h1
theorem Zu {l:List Fil} {n:BA} {b:LU} (h:InOrder l):Z4 l n=some b↔(n,b)∈l:=by
 induction l with
 | nil=>simp [Z4]
 | cons f r ih=>
  unfold Z4;split
  ·rename_i hlt
   rw [ih h.tail];simp only [List.mem_cons];refine ⟨.inr,fun hr=> ?_⟩;rcases hr with e | hr
   ·rw [←e] at hlt
    exact absurd rfl (Z7b hlt)
   ·exact hr
  ·rename_i hlt
   have hno:(n,b)∉r:=fun hm=>hlt (h.head _ hm);split
   ·rename_i he
    simp only [List.mem_cons,hno,or_false,Option.some.injEq];refine ⟨fun e=> ?_,fun e=> ?_⟩
    ·rw [←he,←e]
    ·rw [←e]
   ·rename_i he
    simp only [List.mem_cons,hno,or_false,reduceCtorEq,false_iff];intro e;exact he (by rw [←e])
theorem Z38 {l:List Fil} {n:BA} {b:LU}: ∀f∈putF l n b,f=(n,b)∨f∈l:=by
 induction l with
 | nil=>simp [putF]
 | cons g r ih=>
  intro f hf;unfold putF at hf;split at hf
  ·rcases List.mem_cons.1 hf with e | hr
   ·exact .inr (by rw [e];exact List.mem_cons_self ..)
   ·rcases ih f hr with e | hm
    ·exact .inl e
    ·exact .inr (List.mem_cons_of_mem _ hm)
  ·split at hf
   ·rcases List.mem_cons.1 hf with e | hr
    ·exact .inl e
    ·exact .inr (List.mem_cons_of_mem _ hr)
   ·rcases List.mem_cons.1 hf with e | hr
    ·exact .inl e
    ·exact .inr hr
theorem Z2R {l:List Fil} {n:BA}: ∀f∈Zi l n,f∈l:=by
 induction l with
 | nil=>simp [Zi]
 | cons g r ih=>
  intro f hf;unfold Zi at hf;split at hf
  ·rcases List.mem_cons.1 hf with e | hr
   ·rw [e]
    exact List.mem_cons_self ..
   ·exact List.mem_cons_of_mem _ (ih f hr)
  ·split at hf
   ·exact List.mem_cons_of_mem _ hf
   ·exact hf
theorem Z0g {l:List Fil} {n:BA} {b:LU} (h:InOrder l):InOrder (putF l n b):=by
 induction l with
 | nil=>exact List.pairwise_singleton ..
 | cons f r ih=>
  unfold putF;split
  ·rename_i hlt
   refine List.pairwise_cons.2 ⟨fun g hg=> ?_,ih h.tail⟩;rcases Z38 g hg with e | hm
   ·rw [e]
    exact hlt
   ·exact h.head g hm
  ·rename_i hlt
   split
   ·rename_i he
    refine List.pairwise_cons.2 ⟨fun g hg=> ?_,h.tail⟩;have:=h.head g hg;rw [he] at this;exact this
   ·rename_i he
    have hnf:sLt n f.1=true:=ZcI (by simpa using hlt) he;refine List.pairwise_cons.2 ⟨fun g hg=> ?_,h⟩;rcases List.mem_cons.1 hg with e | hm
    ·rw [e]
     exact hnf
    ·exact Z8z hnf (h.head g hm)
theorem ZI {l:List Fil} {n:BA} (h:InOrder l):InOrder (Zi l n):=by
 induction l with
 | nil=>exact h
 | cons f r ih=>
  unfold Zi;split
  ·exact List.pairwise_cons.2 ⟨fun g hg=>h.head g (Z2R g hg),ih h.tail⟩
  ·split
   ·exact h.tail
   ·exact h
theorem Z2o (l:List Fil) (n:BA) (b:LU):(putF l n b).Perm ((n,b)::Zi l n):=by
 induction l with
 | nil=>exact .refl _
 | cons f r ih=>
  unfold putF Zi;split
  ·exact (ih.cons f).trans (.swap _ _ _)
  ·split
   ·exact .refl _
   ·exact .refl _
theorem Z0x {l:List Fil} {n:BA} {b:LU} (hb:Z4 l n=some b):l.Perm ((n,b)::Zi l n):=by
 induction l with
 | nil=>cases hb
 | cons f r ih=>
  unfold Z4 at hb;unfold Zi;split at hb
  ·rename_i hlt
   rw [if_pos hlt];exact ((ih hb).cons f).trans (.swap _ _ _)
  ·rename_i hlt
   rw [if_neg hlt];split at hb
   ·rename_i he
    rw [if_pos he];injection hb with hb
    have:f=(n,b):=by rw [←he,←hb]
    rw [this]
   ·cases hb
theorem Z0h {l:List Fil} {n:BA} (hb:Z4 l n=none):Zi l n=l:=by
 induction l with
 | nil=>rfl
 | cons f r ih=>
  unfold Z4 at hb;unfold Zi;split at hb
  ·rename_i hlt
   rw [if_pos hlt,ih hb]
  ·rename_i hlt
   rw [if_neg hlt];split at hb
   ·cases hb
   ·rename_i he
    rw [if_neg he]
theorem ZeZ (l:List Fil) (n:BA):Z0e l n≤l.length:=by
 induction l with
 | nil=>exact lR _
 | cons f r ih=>
  unfold Z0e;split
  ·simp;omega
  ·simp
theorem Zac {l:List Fil} {n:BA} {k:Nat} (h:k<Z0e l n): ∃f,l[k]?=some f∧sLt f.1 n=true:=by
 induction l generalizing k with
 | nil=>simp [Z0e] at h
 | cons f r ih=>
  unfold Z0e at h;split at h
  ·rename_i hlt
   cases k with
   | zero=>exact ⟨f,rfl,hlt⟩
   | succ k=>exact ih (by omega)
  ·omega
theorem Zf0 {l:List Fil} {n:BA} {f:Fil} (h:l[Z0e l n]?=some f):sLt f.1 n=false:=by
 induction l with
 | nil=>cases h
 | cons g r ih=>
  unfold Z0e at h;split at h
  ·exact ih h
  ·rename_i hlt
   have:g=f:=by simpa using h
   rw [←this];simpa using hlt
theorem Zcj {l:List Fil} {n:BA} {k:Nat} (hk:k≤l.length) (hb: ∀j,j<k→ ∃f,l[j]?=some f∧sLt f.1 n=true) (ha: ∀f,l[k]?=some f→sLt f.1 n=false):Z0e l n=k:=by
 rcases Nat.lt_trichotomy (Z0e l n) k with h | h | h
 ·obtain ⟨f,hf,hlt⟩:=hb _ h
  rw [Zf0 hf] at hlt;cases hlt
 ·exact h
 ·obtain ⟨f,hf,hlt⟩:=Zac h
  rw [ha f hf] at hlt;cases hlt
theorem Z5f (l:List Fil) (n:BA):Z4 l n=match l[Z0e l n]? with | some f=>if f.1=n then some f.2 else none | none=>none:=by
 induction l with
 | nil=>rfl
 | cons f r ih=>
  unfold Z4 Z0e;split
  ·rw [ih]
   rfl
  ·rfl
theorem ZfR (l:List Fil) (n:BA) (b:LU):putF l n b=l.take (Z0e l n)++(n,b)::l.drop (Z0e l n+if (Z4 l n).isSome=true then 1 else 0):=by
 induction l with
 | nil=>rfl
 | cons f r ih=>
  unfold putF Z4 Z0e;split
  ·rw [ih]
   simp only [List.take_succ_cons,List.cons_append,List.cons.injEq,true_and];rw [show Z0e r n+1+(if (Z4 r n).isSome=true then 1 else 0)=(Z0e r n+if (Z4 r n).isSome=true then 1 else 0)+1 by omega,List.drop_succ_cons]
  ·split
   ·simp
   ·simp
theorem Zf1 {l:List Fil} {n:BA} (h:(Z4 l n).isSome=true):Zi l n=l.take (Z0e l n)++l.drop (Z0e l n+1):=by
 induction l with
 | nil=>cases h
 | cons f r ih=>
  unfold Z4 at h;unfold Zi Z0e;split at h
  ·rename_i hlt
   rw [if_pos hlt,if_pos hlt,ih h];simp
  ·rename_i hlt
   rw [if_neg hlt,if_neg hlt];split at h
   ·rename_i he
    rw [if_pos he];simp
   ·cases h
theorem Z7c {l m:List Fil} (h:l.Perm m):Zo l=Zo m:=by
 induction h with
 | nil=>rfl
 | cons x _ ih=>simp only [Zo,ih]
 | swap x y l=>simp only [Zo];omega
 | trans _ _ h1 h2=>rw [h1,h2]
theorem Z9d (l m:List Fil):Zo (l++m)=Zo l+Zo m:=by
 induction l with
 | nil=>simp [Zo]
 | cons f r ih=>simp only [List.cons_append,Zo,ih];omega
theorem Z8A (f:Fil):16≤Z2n f:=by unfold Z2n;omega
theorem Z5g (l:List Fil):0≤Zo l:=by
 induction l with
 | nil=>exact Int.le_refl _
 | cons f r ih=>have:=Z8A f;simp only [Zo];omega
theorem Z8B (l:List Fil) (n:BA) (b:LU):Zo (putF l n b)=Z2n (n,b)+Zo (Zi l n):=Z7c (Z2o l n b)
theorem Z39 {l:List Fil} {n:BA} {b:LU} (h:Z4 l n=some b):Zo l=Z2n (n,b)+Zo (Zi l n):=Z7c (Z0x h)
theorem Z0i {l:List Fil} {n:BA} {b:LU} (h:InOrder l) (m:BA):Z4 (putF l n b) m=if m=n then some b else Z4 l m:=by
 split
 ·rename_i e
  subst e;exact (Zu (Z0g h)).2 ((Z2o l m b).mem_iff.2 (List.mem_cons_self ..))
 ·rename_i e
  cases hl:Z4 l m with
  | none=>
   refine (Z2g (Z0g h)).2 fun f hf=> ?_;rcases Z38 f hf with e2 | hm
   ·rw [e2]
    exact fun e3=>e e3.symm
   ·exact (Z2g h).1 hl f hm
  | some c=>
   refine (Zu (Z0g h)).2 ((Z2o l n b).mem_iff.2 (List.mem_cons_of_mem _ ?_));have hm:=(Zu h).1 hl
   cases hn:Z4 l n with
   | none=>rwa [Z0h hn]
   | some d=>
    rcases List.mem_cons.1 ((Z0x hn).mem_iff.1 hm) with e2 | hm2
    ·exact absurd (by injection e2) e
    ·exact hm2
theorem ZcK {l:List Fil} {n:BA} (h:InOrder l): ∀f∈Zi l n,f.1≠n:=by
 induction l with
 | nil=>simp [Zi]
 | cons g r ih=>
  intro f hf;unfold Zi at hf;split at hf
  ·rename_i hlt
   rcases List.mem_cons.1 hf with e | hr
   ·rw [e]
    exact Z7b hlt
   ·exact ih h.tail f hr
  ·rename_i hlt
   split at hf
   ·rename_i he
    have:=h.head f hf;rw [he] at this;exact (Z7b this).symm
   ·rename_i he
    rcases List.mem_cons.1 hf with e | hr
    ·rw [e]
     exact he
    ·intro e
     have h1:=h.head f hr;rw [e] at h1;exact hlt h1
theorem Z1b {l:List Fil} {n:BA} (h:InOrder l) (m:BA):Z4 (Zi l n) m=if m=n then none else Z4 l m:=by
 split
 ·rename_i e
  subst e;exact (Z2g (ZI h)).2 (ZcK h)
 ·rename_i e
  cases hl:Z4 l m with
  | none=>exact (Z2g (ZI h)).2 fun f hf=>(Z2g h).1 hl f (Z2R f hf)
  | some c=>
   refine (Zu (ZI h)).2 ?_;have hm:=(Zu h).1 hl
   cases hn:Z4 l n with
   | none=>rwa [Z0h hn]
   | some d=>
    rcases List.mem_cons.1 ((Z0x hn).mem_iff.1 hm) with e2 | hm2
    ·exact absurd (by injection e2) e
    ·exact hm2
theorem Z9e {l m:List Fil} (hl:InOrder l) (hm:InOrder m) (h:l.Perm m):l=m:=by
 induction l generalizing m with
 | nil=>exact (List.nil_perm.1 h).symm▸rfl
 | cons f r ih=>
  cases m with
  | nil=>exact absurd h.symm (by simp)
  | cons g s=>
   have hfg:f=g:=by
    rcases List.mem_cons.1 (h.mem_iff.1 (List.mem_cons_self ..)) with e | hs
    ·exact e
    ·rcases List.mem_cons.1 (h.mem_iff.2 (List.mem_cons_self (a:=g) (l:=s))) with e | hr
     ·exact e.symm
     ·have h1:=hm.head f hs
      have h2:=hl.head g hr;rw [ZcJ h1] at h2;cases h2
   subst hfg;rw [ih hl.tail hm.tail ((List.perm_cons f).1 h)]
structure Dk where
 cap:Int
 l:List Fil
 done:Nat
 left:Int
 dark:Bool
def frD (D:Dk):Int:=IntKind.i64.wrap (D.cap-Zo D.l)
def Zw (D:Dk) (l':List Fil):Int×Dk:=
 if D.left=0 then (5,{ D with dark:=true,left:=-1 })
 else (0,{ D with left:=if 0<D.left then D.left-1 else D.left,done:=D.done+1,l:=l' })
def Z1c (D:Dk) (more:Int) (l':List Fil):Int×Dk:=if 0<more∧frD D<more then (4,D) else Zw D l'
def ZX (D:Dk) (n:BA) (b:LU):Int:=b.length+(match Z4 D.l n with | none=>16+(n.size:Int) | some _=>0)
def Z1O (D:Dk) (a b:BA):Int:=match Z4 D.l b with | none=>(b.size:Int)-a.size | some _=>0
def appD (D:Dk) (n:BA) (b:LU):Int×Dk:=
 if 64<b.length∨Z8 n=false then (1,D) else if D.dark=true then (5,D) else
  Z1c D (ZX D n b) (putF D.l n ((Z4 D.l n).getD []++b))
def ZZ (D:Dk) (n:BA):Int:=if Z8 n=false then 1 else if D.dark=true then 5 else if (Z4 D.l n).isSome=true then 0 else 3
def remD (D:Dk) (n:BA):Int×Dk:=if ZZ D n≠0 then (ZZ D n,D) else Zw D (Zi D.l n)
def ZM (D:Dk) (n:BA):Int×Dk:=if ZZ D n≠0 then (ZZ D n,D) else Zw D D.l
def renD (D:Dk) (a b:BA):Int×Dk:=
 if Z8 a=false∨Z8 b=false then (1,D) else if ZZ D a≠0 then (ZZ D a,D) else
  Z1c D (Z1O D a b) (putF (Zi D.l a) b ((Z4 D.l a).getD []))
def Zq (D:Dk) (n:BA):LU×Int:=if Z8 n=false then ([],1) else match Z4 D.l n with | none=>([],3) | some b=>(b,0)
def cutD (D:Dk) (k:Int):Int×Dk:=if k<0 then (1,D) else (0,if D.dark=true then D else { D with left:=k })
def onD (D:Dk):Dk:={ D with dark:=false,left:=-1 }
end Go.Dol
set_option linter.unusedVariables false
namespace Go.Proofs.YtecpbcmpncgokaaGreat
open Go.RowKit Go.Dol
theorem Z4e:Go.Maps.Keyed Tryz.prog 9:=Go.Maps.string_keyed Tryz.underlying9
theorem Z4f (n:BA) (hn:n.size≤maxLen): ∃kl,keyOf Tryz.prog 9 (.string n)=some kl:=⟨_,Go.WideMaps.keyOf_string_mk Tryz.underlying9 hn⟩
theorem Zbw (w:World):(zeroValue 36).run Tryz.prog w= .ok (.slice none 0 0) w:=by kernel_rfl
def Byt (w:World) (v:Value) (b:LU):Prop:=∃ A c,v= .slice A b.length c∧Far w 0 A b∧b.length≤c∧c≤maxLen
def Fls (w:World) (al:List (Value×Value)) (L:List Fil):Prop:=
 ∃M:List (Fil×Value),al=M.map (fun m=>(Value.string m.1.1,m.2))∧(∀p∈M,Byt w p.2 p.1.2)∧(M.map Prod.fst).Perm L
section
variable {w w':World} {v:Value} {b:LU} {al al':List (Value×Value)} {L:List Fil} {n:BA}
theorem Byt.keep (h:Byt w v b) {row:Option Nat} (hg:w.grownBy w' row) (hr:Other w 0 row):Byt w' v b:=by
 obtain ⟨A,c,h1,h2,h3⟩:=h;exact ⟨A,c,h1,h2.keep hg hr,h3⟩
theorem Byt.below (h:Byt w v b) (hb:Below w.heap.size w w'):Byt w' v b:=by
 obtain ⟨A,c,h1,h2,h3⟩:=h;exact ⟨A,c,h1,h2.below hb,h3⟩
theorem Byt.seg {base:Nat} {A:OA} {c:Nat} (h:Seg w base 5 1 A b.length c (bc b)):Byt w (.slice A b.length c) b:=⟨A,c,rfl,Far.of_seg h,h.2.1,h.2.2.1⟩
theorem Byt.own {base:Nat} (h:w.ownsRow base 5 1 v b.length (bc b)):Byt w v b:=by
 obtain ⟨A,c,rfl,_,_⟩:=Z1s h;exact Byt.seg (Seg.of_own h)
theorem Fls.keep (h:Fls w al L) {row:Option Nat} (hg:w.grownBy w' row) (hr:Other w 0 row):Fls w' al L:=by
 obtain ⟨M,h1,h2,h3⟩:=h;exact ⟨M,h1,fun p hp=>(h2 p hp).keep hg hr,h3⟩
theorem Fls.below (h:Fls w al L) (hb:Below w.heap.size w w'):Fls w' al L:=by
 obtain ⟨M,h1,h2,h3⟩:=h;exact ⟨M,h1,fun p hp=>(h2 p hp).below hb,h3⟩
theorem Fls.nil (w:World):Fls w [] []:=⟨[],rfl,fun _ h=>(List.not_mem_nil h).elim,.refl _⟩
theorem Fls.split {M:List (Fil×Value)} {l r:List (Value×Value)} {v0:Value} (h:M.map (fun m=>(Value.string m.1.1,m.2))=l++(.string n,v0)::r):
  ∃M1 b0 M2,M=M1++((n,b0),v0)::M2∧M1.map (fun m=>(Value.string m.1.1,m.2))=l∧M2.map (fun m=>(Value.string m.1.1,m.2))=r:=by
 obtain ⟨M1,M2,rfl,h1,h2⟩:=List.map_eq_append_iff.1 h;obtain ⟨q,M3,rfl,h3,h4⟩:=List.map_eq_cons_iff.1 h2;obtain ⟨⟨n',b0⟩,v'⟩:=q;simp only [Prod.mk.injEq,Value.string.injEq] at h3;obtain ⟨rfl,rfl⟩:=h3;exact ⟨M1,b0,M3,rfl,h1,h4⟩
theorem Fls.look (h:Fls w al L) (hL:InOrder L) (hm:(Value.string n,v)∈al): ∃b,Z4 L n=some b∧Byt w v b:=by
 obtain ⟨M,rfl,h2,h3⟩:=h;obtain ⟨⟨⟨n',b⟩,v'⟩,hp,he⟩:=List.mem_map.1 hm;simp only [Prod.mk.injEq,Value.string.injEq] at he;obtain ⟨rfl,rfl⟩:=he;exact ⟨b,(Zu hL).2 (h3.mem_iff.1 (List.mem_map.2 ⟨_,hp,rfl⟩)),h2 _ hp⟩
theorem Fls.none (h:Fls w al L) (hL:InOrder L) (hno: ∀p∈al,p.1≠Value.string n):Z4 L n=none:=by
 obtain ⟨M,rfl,h2,h3⟩:=h;refine (Z2g hL).2 fun f hf e=> ?_;obtain ⟨p,hp,rfl⟩:=List.mem_map.1 (h3.mem_iff.2 hf);exact hno _ (List.mem_map.2 ⟨p,hp,rfl⟩) (by rw [←e])
theorem Fls.put (h:Fls w al L) (hL:InOrder L) (hp:MPut al (.string n) v al') (hv:Byt w v b):Fls w al' (putF L n b):=by
 have h0:=h;obtain ⟨M,rfl,h2,h3⟩:=h;rcases hp with ⟨hno,rfl⟩ | ⟨l,r,v0,he,rfl⟩
 ·refine ⟨M++[((n,b),v)],by simp,fun p hp=> ?_,?_⟩
  ·rcases List.mem_append.1 hp with hp | hp
   ·exact h2 p hp
   ·rw [List.mem_singleton.1 hp]
    exact hv
  ·have hn:=h0.none hL hno
   refine .trans ?_ (Z2o L n b).symm;rw [Z0h hn,List.map_append];exact (List.perm_append_comm).trans (h3.cons _)
 ·obtain ⟨M1,b0,M2,rfl,rfl,rfl⟩:=Fls.split he
  refine ⟨M1++((n,b),v)::M2,by simp,fun p hp=> ?_,?_⟩
  ·rcases List.mem_append.1 hp with hp | hp
   ·exact h2 p (List.mem_append.2 (.inl hp))
   ·rcases List.mem_cons.1 hp with rfl | hp
    ·exact hv
    ·exact h2 p (List.mem_append.2 (.inr (List.mem_cons_of_mem _ hp)))
  ·have hb0:Z4 L n=some b0:=(Zu hL).2 (h3.mem_iff.1 (by simp))
   have hd:(((M1++M2).map Prod.fst)).Perm (Zi L n):=by
    refine (List.perm_cons (n,b0)).1 (.trans ?_ (h3.trans (Z0x hb0)));rw [List.map_append,List.map_append,List.map_cons];exact List.perm_middle.symm
   refine .trans ?_ (Z2o L n b).symm;rw [List.map_append,List.map_cons];refine List.perm_middle.trans (.cons _ ?_);rw [←List.map_append];exact hd
theorem Fls.drop (h:Fls w al L) (hL:InOrder L) (hp:MDel al (.string n) al'):Fls w al' (Zi L n):=by
 have h0:=h;obtain ⟨M,rfl,h2,h3⟩:=h;rcases hp with ⟨hno,rfl⟩ | ⟨l,r,v0,he,rfl⟩
 ·rw [Z0h (h0.none hL hno)]
  exact h0
 ·obtain ⟨M1,b0,M2,rfl,rfl,rfl⟩:=Fls.split he
  have hb0:Z4 L n=some b0:=(Zu hL).2 (h3.mem_iff.1 (by simp));refine ⟨M1++M2,by simp,fun p hp=> ?_,?_⟩
  ·rcases List.mem_append.1 hp with hp | hp
   ·exact h2 p (List.mem_append.2 (.inl hp))
   ·exact h2 p (List.mem_append.2 (.inr (List.mem_cons_of_mem _ hp)))
  ·refine (List.perm_cons (n,b0)).1 (.trans ?_ (h3.trans (Z0x hb0)))
   rw [List.map_append,List.map_append,List.map_cons];exact List.perm_middle.symm
end
def opsD (n:Nat):Int:=IntKind.i64.wrap n
def Z5K (cap:Int) (m:Nat) (fr:Int) (done:Nat) (left:Int) (dark:Bool):List Value:=
 [.int .i64 cap,.map (some m),.int .i64 fr,.int .i64 (opsD done),.int .i64 left,.bool dark]
def Dsk (w:World) (g m:Nat) (D:Dk):Prop:=∃ al,Blk w g 145 (Z5K D.cap m (frD D) D.done D.left D.dark)∧MapL Tryz.prog 9 w m al∧Fls w al D.l
theorem Other.map {k:TypeId} {w:World} {m:Nat} {al:List (Value×Value)} (h:MapL Tryz.prog k w m al):Other w 0 (some m):=by
 intro j hj;injection hj with hj
 subst hj;refine ⟨zL _,fun cur fr e=> ?_⟩;obtain ⟨es,clock,hb,_⟩:=h;rw [hb] at e;cases e
section
variable {w w':World} {g m:Nat} {D:Dk}
theorem Dsk.lt (h:Dsk w g m D):g<w.heap.size∧m<w.heap.size:=by
 obtain ⟨al,hB,hM,_⟩:=h;exact ⟨hB.lt,hM.lt⟩
theorem Dsk.below (h:Dsk w g m D) (hb:Below w.heap.size w w'):Dsk w' g m D:=by
 obtain ⟨al,hB,hM,hF⟩:=h;exact ⟨al,hB.below hb hB.lt,hM.belowW hb,hF.below hb⟩
theorem Dsk.drew (h:Dsk w g m D):Dsk w.drew g m D:=h.below ⟨rfl,rfl,rfl,lR _,fun _ _=>rfl⟩
theorem Za4 {al:List (Value×Value)} {L:List Fil} (hM:MapL Tryz.prog 9 w m al) (hF:Fls w al L) (hL:InOrder L) (n:BA) (hn:n.size≤maxLen):
  (Hid (Z4 L n=none)∧(∀W:World,W.heap[m]?=w.heap[m]?→(Instr.lookup 140 (.map (some m)) (.string n) true).run Tryz.prog W= .ok (.tuple #[.slice none 0 0,.bool false]) W)∧
   ∀W:World,W.heap[m]?=w.heap[m]?→(Instr.lookup 140 (.map (some m)) (.string n) false).run Tryz.prog W= .ok (.slice none 0 0) W)∨
  ∃b A c,Hid (Z4 L n=some b)∧Far w 0 A b∧b.length≤c∧c≤maxLen∧(∀W:World,W.heap[m]?=w.heap[m]?→(Instr.lookup 140 (.map (some m)) (.string n) true).run Tryz.prog W= .ok (.tuple #[.slice A b.length c,.bool true]) W)∧
   ∀W:World,W.heap[m]?=w.heap[m]?→(Instr.lookup 140 (.map (some m)) (.string n) false).run Tryz.prog W= .ok (.slice A b.length c) W:=by
 obtain ⟨kl,hkl⟩:=Z4f n hn;have hr:=fun (W:World) (hW:W.heap[m]?=w.heap[m]?) (ok:Bool)=>(hM.keepB hW).look Z4e Tryz.underlying140 (Zbw _) hkl ok
 by_cases hex: ∃v,(Value.string n,v)∈al
 ·obtain ⟨v,hv⟩:=hex
  obtain ⟨b,hb,A,c,rfl,hf,hc⟩:=hF.look hL hv;have huniq: ∀u,(Value.string n,u)∈al→u= .slice A b.length c:=by
   intro u hu;have hnd:=hM.nodup;obtain ⟨l,r,rfl⟩:=List.append_of_mem hv;rw [List.map_append,List.map_cons,List.nodup_append] at hnd;rcases List.mem_append.1 hu with hu | hu
   ·exact absurd rfl (hnd.2.2 _ (List.mem_map.2 ⟨_,hu,rfl⟩) _ (by simp))
   ·rcases List.mem_cons.1 hu with e | hu
    ·injection e
    ·exact absurd (List.mem_map.2 ⟨_,hu,rfl⟩) (List.nodup_cons.1 hnd.2.1).1
  refine .inr ⟨b,A,c,qI hb,hf,hc.1,hc.2,fun W hW=> ?_,fun W hW=> ?_⟩
  ·rcases hr W hW true with ⟨h1,_⟩ | ⟨u,h1,h2⟩
   ·exact absurd rfl (h1 _ hv)
   ·rw [huniq u h1] at h2
    exact h2
  ·rcases hr W hW false with ⟨h1,_⟩ | ⟨u,h1,h2⟩
   ·exact absurd rfl (h1 _ hv)
   ·rw [huniq u h1] at h2
    exact h2
 ·have hno: ∀p∈al,p.1≠Value.string n:=by
   rintro ⟨k,v⟩ hp e;exact hex ⟨v,by rw [←e];exact hp⟩
  refine .inl ⟨qI (hF.none hL hno),fun W hW=> ?_,fun W hW=> ?_⟩
  ·rcases hr W hW true with ⟨_,h2⟩ | ⟨u,h1,_⟩
   ·exact h2
   ·exact absurd ⟨u,h1⟩ hex
  ·rcases hr W hW false with ⟨_,h2⟩ | ⟨u,h1,_⟩
   ·exact h2
   ·exact absurd ⟨u,h1⟩ hex
theorem Dsk.find (h:Dsk w g m D) (hL:InOrder D.l) (n:BA) (hn:n.size≤maxLen):
  (Hid (Z4 D.l n=none)∧(∀W:World,W.heap[m]?=w.heap[m]?→(Instr.lookup 140 (.map (some m)) (.string n) true).run Tryz.prog W= .ok (.tuple #[.slice none 0 0,.bool false]) W)∧
   ∀W:World,W.heap[m]?=w.heap[m]?→(Instr.lookup 140 (.map (some m)) (.string n) false).run Tryz.prog W= .ok (.slice none 0 0) W)∨
  ∃b A c,Hid (Z4 D.l n=some b)∧Far w 0 A b∧b.length≤c∧c≤maxLen∧(∀W:World,W.heap[m]?=w.heap[m]?→(Instr.lookup 140 (.map (some m)) (.string n) true).run Tryz.prog W= .ok (.tuple #[.slice A b.length c,.bool true]) W)∧
   ∀W:World,W.heap[m]?=w.heap[m]?→(Instr.lookup 140 (.map (some m)) (.string n) false).run Tryz.prog W= .ok (.slice A b.length c) W:=by
 obtain ⟨al,hB,hM,hF⟩:=h;exact Za4 hM hF hL n hn
end
end Go.Proofs.YtecpbcmpncgokaaGreat
namespace Go.Proofs.YtecpbcmpncgokaaGreat
open Go.RowKit
def Zbf:Go.Shelf.Ren:=⟨fun | 137=>172 | 217=>243 | 266=>270 | n=>n,fun | 9=>9 | 5=>5 | 3=>3 | n=>n,fun | n=>n⟩
theorem Zfy:Go.Proofs.Lays.n137 Tryz.prog Zbf:={
 mixed:=by kernel_rfl
 f137:=Tryz.func172.trans (congrArg some (by kernel_rfl))
 f217:=Tryz.func243.trans (congrArg some (by kernel_rfl))
 f266:=Tryz.func270.trans (congrArg some (by kernel_rfl))
 t3:=Tryz.underlying3
 a3:=Tryz.isAgg3
 z3:=Tryz.sizeOf3
 v3:=Tryz.zeroValue3
 t5:=Tryz.underlying5
 a5:=Tryz.isAgg5
 z5:=Tryz.sizeOf5
 v5:=Tryz.zeroValue5
 t9:=Tryz.underlying9
 a9:=Tryz.isAgg9
 z9:=Tryz.sizeOf9
 v9:=Tryz.zeroValue9 }
theorem Z3C (s:BA) (c:Int) (w:World):
  Calls Tryz.prog 172 #[.string s,.int .u8 c] w fun e w'=>e= .returned (.int .i64 (Lib.indexByte s.data.toList c.toNat.toUInt8))∧w'=w:=Any.strings_IndexByte Zfy s c w
end Go.Proofs.YtecpbcmpncgokaaGreat
namespace Go.Dol
theorem Z68 {l:LU} {c:UInt8} (h:l.contains c=true):0≤Lib.indexByte l c:=by
 have h1:=Lib.indexByte_ge l c;rcases (show Lib.indexByte l c<0∨0≤Lib.indexByte l c by omega) with h2 | h2
 ·have h3:Lib.indexByte l c= -1:=by omega
  have h4:=Lib.indexByte_none h3;rw [List.contains_iff_mem] at h;obtain ⟨i,hi,e⟩:=List.getElem_of_mem h;exact absurd (by rw [gE hi,e]) (h4 i)
 ·exact h2
theorem Z44 {l:LU} {c:UInt8} (h:l.contains c=false):Lib.indexByte l c= -1:=by
 have h1:=Lib.indexByte_ge l c;rcases (show Lib.indexByte l c<0∨0≤Lib.indexByte l c by omega) with h2 | h2
 ·omega
 ·obtain ⟨k,hk⟩: ∃k:Nat,Lib.indexByte l c=k:=⟨(Lib.indexByte l c).toNat,by omega⟩
  have h3:=(Lib.indexByte_some hk).1;have h4:c∈l:=by
   obtain ⟨hi,e⟩:=List.getElem?_eq_some_iff.1 h3;rw [←e];exact List.getElem_mem hi
  rw [←List.contains_iff_mem,h] at h4;cases h4
end Go.Dol
namespace Go.Proofs.YtecpbcmpncgokaaGreat
open Go.RowKit Go.Dol
theorem Z1J (s:BA) (k:Int) (c:UInt8) (hc:k.toNat.toUInt8=c) (w:World):Calls Tryz.prog 172 #[.string s,.int .u8 k] w fun e w'=>e= .returned (.int .i64 (Lib.indexByte s.data.toList c))∧w'=w:=by
 subst hc;exact Z3C s k w
end Go.Proofs.YtecpbcmpncgokaaGreat
set_option maxRecDepth 100000
set_option maxHeartbeats 800000
set_option linter.unusedVariables false
namespace Go.Proofs.YtecpbcmpncgokaaGreat
open Go.RowKit Go.Dol
theorem Z6e (n:BA) (w:World):Calls Tryz.prog 171 #[.string n] w fun e w'=>e= .returned (.bool (!Z8 n))∧w'=w:=by
 obtain ⟨r,hr⟩: ∃r,r= !Z8 n:=⟨_,rfl⟩;rw [←hr]
 by_cases h1:n.size<1
 ·have d1:decide ((n.size:Int)<1)=true:=dT (by omega)
  have HF:Hid (r=true):=by unfold Hid Z8 at *; rw [hr,qF (show ¬1≤n.size by omega)];simp
  clear h1 hr;go_in;go_wp2_with fail;go_ret;rw [HF.out];exact ⟨rfl,rfl⟩
 ·have d1:decide ((n.size:Int)<1)=false:=qF (by omega)
  have e1:decide (1≤n.size)=true:=dT (by omega)
  by_cases h2:200<n.size
  ·have d2:decide ((n.size:Int)>200)=true:=dT (by omega)
   have d2':decide ((200:Int)<(n.size:Int))=true:=dT (by omega);have HF:Hid (r=true):=by unfold Hid Z8 at *; rw [hr,qF (show ¬n.size≤200 by omega)];simp
   clear h1 h2 hr e1;go_in;go_wp2_with fail;go_ret;rw [HF.out];exact ⟨rfl,rfl⟩
  ·have d2:decide ((n.size:Int)>200)=false:=qF (by omega)
   have d2':decide ((200:Int)<(n.size:Int))=false:=qF (by omega);have e2:decide (n.size≤200)=true:=dT (by omega)
   cases h3:n.data.toList.contains 0 with
   | true=>
    have i3:=Z68 h3;obtain ⟨k,hk⟩: ∃k,k=Lib.indexByte n.data.toList 0:=⟨_,rfl⟩;rw [←hk] at i3;have K:=qI hk;have HF:Hid (r=true):=by unfold Hid Z8 at *; rw [hr,h3];simp
    have hk0:decide (k≥0)=true:=dT i3;have hk1:decide (0≤k)=true:=dT i3;clear h1 h2 hr hk h3 i3 e1 e2;go_in;go_wp2_with (go_at_call 172;refine (Z1J n 0 0 rfl _).mono ?_;rintro e w' ⟨rfl,rfl⟩;rw [←K.out]);go_ret;rw [HF.out];exact ⟨rfl,rfl⟩
   | false=>
    have i3:=qI (Z44 h3);have HF:Hid (r=false):=by unfold Hid Z8 at *; rw [hr,h3,e1,e2];rfl
    clear h1 h2 hr h3 e1 e2;go_in;go_wp2_with (go_at_call 172;refine (Z1J n 0 0 rfl _).mono ?_;rintro e w' ⟨rfl,rfl⟩;rw [i3.out]);go_ret;rw [HF.out];exact ⟨rfl,rfl⟩
def sc (ns:List BA):List Value:=ns.map .string
def ZfO (ns:List BA) (w:World) (i:Value) (wr:World):Prop:=∃ k:Nat,i= .int .i64 k∧k≤ns.length∧Hid (∀n∈ns.take k,Z8 n=true)∧wr=w
theorem Z6A (B:Nat) (A:OA) (ns:List BA) (c:Nat) (w:World) (hr:Rd w B 1 A ns.length (sc ns)) (hl:ns.length≤140737488355328):
  Calls Tryz.prog 242 #[.slice A ns.length c,.func (.func 171) #[] #[]] w fun e w'=> ∃r:Int,e= .returned (.int .i64 r)∧Hid (decide (0≤r)= !ns.all Z8)∧w'=w:=by
 go_in;go_wp2_with fail;go_loopw [8] (fun i wr=>ZfO ns w i wr) (fun i _=>ns.length-(intOf i).toNat)
 case atStart=>exact ⟨0,rfl,zL _,qI (by simp),rfl⟩
 case round=>
  obtain ⟨k,rfl,hk,hT,rfl⟩:=hrel
  by_cases hlt:k<ns.length
  ·have hd:decide ((k:Int)<(ns.length:Int))=true:=dT (by omega)
   obtain ⟨b,off,rfl,hb,hcell⟩:=hr.at_ (by omega);obtain ⟨n,hn⟩: ∃n,ns[k]?=some n:=⟨ns[k],gE hlt⟩;have hn1:(sc ns)[k]?=some (.string n):=by simp [sc,hn]
   have k1:=hcell k _ hn1;have HN:=qI hn;clear hn hn1 hcell hr
   cases hB:Z8 n with
   | true=>
    go_wp2_with ((go_at_call 171;refine (Z6e n _).mono ?_;rw [hB];rintro e w' ⟨rfl,rfl⟩));refine ⟨⟨k+1,by go_num,by omega,qI fun m hm=> ?_,rfl⟩,by simp [intOf];omega⟩;rw [List.take_add_one,List.mem_append] at hm;rcases hm with hm | hm
    ·exact hT.out m hm
    ·rw [HN.out] at hm
     rw [List.mem_singleton.1 hm];exact hB
   | false=>
    go_wp2_with ((go_at_call 171;refine (Z6e n _).mono ?_;rw [hB];rintro e w' ⟨rfl,rfl⟩));go_ret;refine ⟨k,rfl,qI ?_,rfl⟩;have h1:ns.all Z8=false:=List.all_eq_false.2 ⟨n,List.mem_of_getElem? HN.out,by rw [hB];decide⟩;rw [h1];exact dT (by omega)
  ·have hd:decide ((k:Int)<(ns.length:Int))=false:=qF (by omega)
   have hk2:k=ns.length:=by omega
   have HK:=qI hk2;clear hk2;go_wp2_with fail;go_ret;refine ⟨-1,rfl,qI ?_,rfl⟩;have h1:ns.all Z8=true:=List.all_eq_true.2 fun n hn=>hT.out n (by rw [HK.out,List.take_length];exact hn);rw [h1]
   decide
theorem Z0G (B:Nat) (A:OA) (ns:List BA) (c:Nat) (w:World) (hr:Rd w B 1 A ns.length (sc ns)) (hl:ns.length≤140737488355328):
  Calls Tryz.prog 101 #[.slice A ns.length c] w fun e w'=>e= .returned (.bool (ns.all Z8))∧w'=w:=by
 have hC:Calls Tryz.prog 170 #[.slice A ns.length c,.func (.func 171) #[] #[]] w fun e w'=>e= .returned (.bool (!ns.all Z8))∧w'=w:=by
  go_in;go_wp2_with ((go_at_call 242;refine (Z6A B A ns c _ hr hl).mono ?_;rintro e w' ⟨r,rfl,hr1,rfl⟩));go_ret;refine ⟨?_,rfl⟩;have:=hr1.out;rw [←this];simp
 generalize ns.all Z8=r at hC ⊢;go_in;go_wp2_with ((go_at_call 170;refine hC.mono ?_;rintro e w' ⟨rfl,rfl⟩));go_ret;simp
end Go.Proofs.YtecpbcmpncgokaaGreat
set_option maxRecDepth 100000
set_option maxHeartbeats 800000
set_option linter.unusedVariables false
namespace Go.Dol
open Go.RowKit
def rdD (D:Dk) (ns:List BA):Int:=if ns.all Z8=false then 1 else if D.dark=true then 5 else 0
def thD (D:Dk) (ns:List BA) (n:BA):Int:=if rdD D (ns++[n])≠0 then rdD D (ns++[n]) else if (Z4 D.l n).isSome=true then 0 else 3
def Z2m (D:Dk) (n:BA):Int:=match Z4 D.l n with | none=>0 | some b=>16+n.size+b.length
theorem Zbz (x:Int):IntKind.i64.wrap (IntKind.i64.wrap x)=IntKind.i64.wrap x:=by
 simp only [IntKind.wrap,IntKind.bits,IntKind.signed];simp;split<;>split<;>omega
theorem Z05 {n:BA} (h:Z8 n=true):n.size≤200:=by
 unfold Z8 at h;simp only [Bool.and_eq_true,decide_eq_true_eq] at h;exact h.1.2
end Go.Dol
namespace Go.Proofs.YtecpbcmpncgokaaGreat
open Go.RowKit Go.Dol
theorem Zdz:(Tryz.prog.info? 9).map (fun i=>(i.zero,i.size,i.bytes))=some (some (.string ⟨#[]⟩),1,16):=by kernel_rfl
theorem ZdA (m:Nat) (w:World):(binOp .neq 140 (.map (some m)) (.map none)).run Tryz.prog w= .ok (.bool true) w:=run_neq_map_nil w _ _ _ _ Tryz.underlying140
theorem Dsk.cells {w:World} {g m:Nat} {D:Dk} (h:Dsk w g m D):w.cell? ⟨g,0,none⟩=some (.int .i64 D.cap)∧w.cell? ⟨g,1,none⟩=some (.map (some m))∧w.cell? ⟨g,2,none⟩=some (.int .i64 (frD D))∧
  w.cell? ⟨g,3,none⟩=some (.int .i64 (opsD D.done))∧w.cell? ⟨g,4,none⟩=some (.int .i64 D.left)∧w.cell? ⟨g,5,none⟩=some (.bool D.dark):=by
 obtain ⟨al,hB,_⟩:=h;exact ⟨by rw [hB.cell];rfl,by rw [hB.cell];rfl,by rw [hB.cell];rfl,by rw [hB.cell];rfl,by rw [hB.cell];rfl,by rw [hB.cell];rfl⟩
theorem Dsk.free {w:World} {g m:Nat} {D:Dk} (h:Dsk w g m D) (i:Nat):w.frozen? ⟨g,i,none⟩=false:=by
 obtain ⟨al,hB,_⟩:=h;exact hB.free i
section
variable {w:World} {g m:Nat} {D:Dk}
theorem ZA (h:Dsk w g m D):Calls Tryz.prog 88 #[.pointer (some ⟨g,0,none⟩)] w fun e w'=>e= .returned (.bool true)∧w'=w:=by
 obtain ⟨k0,k1,k2,k3,k4,k5⟩:=h.cells;have hm:=ZdA m w;go_in;go_wp2_with fail;go_ret;exact ⟨rfl,rfl⟩
theorem Z82 (w:World):Calls Tryz.prog 88 #[.pointer none] w fun e w'=>e= .returned (.bool false)∧w'=w:=by
 go_in;go_wp2_with fail;go_ret;exact ⟨rfl,rfl⟩
theorem Z2x (h:Dsk w g m D) (B:Nat) (A:OA) (ns:List BA) (n c:Nat) (hn:n=ns.length) (hr:Rd w B 1 A n (sc ns)) (hl:ns.length≤140737488355328):
  Calls Tryz.prog 107 #[.pointer (some ⟨g,0,none⟩),.slice A n c] w fun e w'=>e= .returned (.int .i64 (rdD D ns))∧w'=w:=by
 subst hn;obtain ⟨k0,k1,k2,k3,k4,k5⟩:=h.cells;obtain ⟨r,hr0⟩: ∃r,r=rdD D ns:=⟨_,rfl⟩;rw [←hr0]
 cases hB:ns.all Z8 with
 | false=>
  have HF:Hid (r=1):=by unfold Hid rdD at *; rw [hr0,if_pos hB]
  clear hr0;have HB:=qI hB;clear hB;go_in
  go_wp2_with (first
   | (go_at_call 88;refine (ZA h).mono ?_;rintro e w' ⟨rfl,rfl⟩)
   | (go_at_call 101;refine (Z0G B A ns c _ hr hl).mono ?_;rw [HB.out];rintro e w' ⟨rfl,rfl⟩))
  go_ret;rw [HF.out];exact ⟨rfl,rfl⟩
 | true=>
  cases hd:D.dark with
  | true=>
   have HF:Hid (r=5):=by unfold Hid rdD at *; rw [hr0,if_neg (by rw [hB];decide),if_pos hd]
   have HB:=qI hB;clear hr0 hB;rw [hd] at k5;go_in
   go_wp2_with (first
    | (go_at_call 88;refine (ZA h).mono ?_;rintro e w' ⟨rfl,rfl⟩)
    | (go_at_call 101;refine (Z0G B A ns c _ hr hl).mono ?_;rw [HB.out];rintro e w' ⟨rfl,rfl⟩))
   go_ret;rw [HF.out];exact ⟨rfl,rfl⟩
  | false=>
   have HF:Hid (r=0):=by unfold Hid rdD at *; rw [hr0,if_neg (by rw [hB];decide),if_neg (by rw [hd];decide)]
   have HB:=qI hB;clear hr0 hB;rw [hd] at k5;go_in
   go_wp2_with (first
    | (go_at_call 88;refine (ZA h).mono ?_;rintro e w' ⟨rfl,rfl⟩)
    | (go_at_call 101;refine (Z0G B A ns c _ hr hl).mono ?_;rw [HB.out];rintro e w' ⟨rfl,rfl⟩))
   go_ret;rw [HF.out];exact ⟨rfl,rfl⟩
theorem Z74 (h:Dsk w g m D) (hO:InOrder D.l) (n:BA) (hn:n.size≤140737488355328) (hL: ∀b,Z4 D.l n=some b→b.length≤140737488355328):
  Calls Tryz.prog 105 #[.pointer (some ⟨g,0,none⟩),.string n] w fun e w'=>e= .returned (.int .i64 (Z2m D n))∧w'=w:=by
 obtain ⟨k0,k1,k2,k3,k4,k5⟩:=h.cells;have hnm:n.size≤maxLen:=by unfold maxLen;omega
 rcases h.find hO n hnm with ⟨hl,hf,_⟩ | ⟨b,A,c,hl,hF,hc,hcm,hf,_⟩
 ·have HF:Hid (Z2m D n=0):=by unfold Hid Z2m;rw [hl.out]
  have hf0:=hf w rfl;clear hf;go_in;go_wp2_with fail;go_ret;rw [HF.out];exact ⟨rfl,rfl⟩
 ·have HF:Hid (Z2m D n=16+n.size+b.length):=by unfold Hid Z2m;rw [hl.out]
  have hb:=hL b hl.out;have f1:IntKind.i64.wrap (16+(n.size:Int))=16+(n.size:Int):=qJ _ (by omega);have f2:IntKind.i64.wrap (16+(n.size:Int)+(b.length:Int))=16+(n.size:Int)+(b.length:Int):=qJ _ (by omega);have hf0:=hf w rfl;clear hf hL;go_in;go_wp2_with fail;go_ret;rw [HF.out];exact ⟨rfl,rfl⟩
theorem Z19 (h:Dsk w g m D) (hO:InOrder D.l) (n:BA) (hn:n.size≤maxLen):
  Calls Tryz.prog 116 #[.pointer (some ⟨g,0,none⟩),.string n] w fun e w'=>e= .returned (.bool (Z4 D.l n).isSome)∧w'=w:=by
 obtain ⟨k0,k1,k2,k3,k4,k5⟩:=h.cells;rcases h.find hO n hn with ⟨hl,hf,_⟩ | ⟨b,A,c,hl,hF,hc,hcm,hf,_⟩
 ·have hf0:=hf w rfl
  clear hf;go_in;go_wp2_with (go_at_call 88;refine (ZA h).mono ?_;rintro e w' ⟨rfl,rfl⟩);go_ret;rw [hl.out];exact ⟨rfl,rfl⟩
 ·have hf0:=hf w rfl
  clear hf;go_in;go_wp2_with (go_at_call 88;refine (ZA h).mono ?_;rintro e w' ⟨rfl,rfl⟩);go_ret;rw [hl.out];exact ⟨rfl,rfl⟩
theorem Z34 (h:Dsk w g m D):Calls Tryz.prog 163 #[.pointer (some ⟨g,0,none⟩)] w fun e w'=>e= .returned (.int .i64 (frD D))∧w'=w:=by
 obtain ⟨k0,k1,k2,k3,k4,k5⟩:=h.cells;go_in;go_wp2_with (go_at_call 88;refine (ZA h).mono ?_;rintro e w' ⟨rfl,rfl⟩);go_ret;exact ⟨rfl,rfl⟩
theorem Z2f (h:Dsk w g m D):Calls Tryz.prog 162 #[.pointer (some ⟨g,0,none⟩)] w fun e w'=>e= .returned (.bool D.dark)∧w'=w:=by
 obtain ⟨k0,k1,k2,k3,k4,k5⟩:=h.cells;go_in;go_wp2_with (go_at_call 88;refine (ZA h).mono ?_;rintro e w' ⟨rfl,rfl⟩);go_ret;exact ⟨rfl,rfl⟩
theorem ZcH (h:Dsk w g m D):Calls Tryz.prog 29 #[.pointer (some ⟨g,0,none⟩)] w fun e w'=>e= .returned (.int .i64 (opsD D.done))∧w'=w:=by
 obtain ⟨k0,k1,k2,k3,k4,k5⟩:=h.cells;have hL:Calls Tryz.prog 89 #[.pointer (some ⟨g,3,none⟩)] w fun e w'=>e= .returned (.int .i64 (opsD D.done))∧w'=w:=by
  have hl:=run_call_load (P:=Tryz.prog) Tryz.func156 (by kernel_rfl) (by kernel_rfl) (by kernel_rfl) .i64 (by kernel_rfl) k3;go_in;go_wp2_with fail;go_ret;exact ⟨rfl,rfl⟩
 have hcv: ∀x:Nat,(convert 2 3 (.int .i64 (opsD x))).run Tryz.prog w= .ok (.int .i64 (opsD x)) w:=fun x=>by unfold opsD;simp [go_sem,Zbz]
 go_in
 go_wp2_with (first
  | (go_at_call 88;refine (ZA h).mono ?_;rintro e w' ⟨rfl,rfl⟩)
  | (go_at_call 89;refine hL.mono ?_;rintro e w' ⟨rfl,rfl⟩))
 go_ret;exact ⟨rfl,rfl⟩
end
end Go.Proofs.YtecpbcmpncgokaaGreat
