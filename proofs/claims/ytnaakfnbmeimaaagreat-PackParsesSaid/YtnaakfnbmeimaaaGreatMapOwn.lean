/- A map that is known by its entries, as the library's laws want it. Conditions: at most 2^47 entries. -/
import Derived.Test.YtnaakfnbmeimaaaGreatWordsA
import Derived.Deep.Onto
import Derived.Shelf.SlIter.Nil
set_option linter.unusedVariables false
namespace Go.Dol
open Go.RowKit Go.MapKept Go.Maps
open Go.WideElems (Fit rd rg)
theorem MapL.owns {P : Program} {k : TypeId} {w : World} {B : Nat} {al : List (Value × Value)} (hk : P.underlying k = some .string) (h : MapL P k w B al) (hl : al.length ≤ maxLen) :
  ∃ D0 : DataW Unit,w.ownsMap P k (fun _ => some (.nil,[])) B al.length D0 ∧ Maps.size D0 = al.length ∧ ∀ ns : List ByteArray,al.map Prod.fst = ns.map Value.string → (strKeys D0).Perm (ns.map fun n => n.data.toList):=by
 obtain ⟨es,clock,hb,hS,hK,hal⟩:=h
 have hlen : es.toList.length = al.length:=by rw [← hal,List.length_map]
 have hsz : es.size = al.length:=by rw [← hlen,Array.length_toList]
 have hp:=WideShapes.sorted_perm (H:=Unit) (es.toList.map (rg P k fun _ => some (.nil,[])))
 refine ⟨_,⟨es,clock,hb,⟨by omega,hS,fun x hx => ?_⟩,by omega,rfl⟩,?_,fun ns hns => ?_⟩
 ·obtain ⟨l,hl⟩:=hK x hx
  exact ⟨(l,.nil),by simp [rd,hl]⟩
 ·rw [size_eq,hp.length_eq,List.length_map,hlen]
 ·show (((es.toList.map (rg P k fun _ => some (.nil,[]))).foldr DataW.insert []).map fun p => strOf p.1).Perm _
  refine (hp.map _).trans ?_
  rw [List.map_map]
  have e : es.toList.map ((fun p => strOf p.1) ∘ rg P k fun _ => some ((.nil : DataW Unit),[])) = ns.map fun n => n.data.toList:=by
   have h1 : es.toList.map (fun e => e.key) = ns.map Value.string:=by
    rw [← hns,← hal,List.map_map]
    rfl
   have h2 : ∀ (l : List MapEntry) (m : List ByteArray),(∀ x ∈ l,∃ t,keyOf P k x.key = some t) → l.map (fun e => e.key) = m.map Value.string → l.map ((fun p => strOf p.1) ∘ rg P k fun _ => some ((.nil : DataW Unit),[])) = m.map fun n => n.data.toList:=by
    intro l
    induction l with
    | nil =>
     intro m _ hm
     cases m with
     | nil => rfl
     | cons a b => cases hm
    | cons x r ih =>
     intro m hx hm
     cases m with
     | nil => cases hm
     | cons a b =>
      simp only [List.map_cons,List.cons.injEq] at hm ⊢
      refine ⟨?_,ih b (fun y hy => hx y (List.mem_cons_of_mem _ hy)) hm.2⟩
      obtain ⟨t,ht⟩:=hx x (List.mem_cons_self ..)
      obtain ⟨s,hs1,hs2,_⟩:=Maps.keyOf_str hk ht
      have hv : a = ⟨s.toArray⟩:=by
       have:=hm.1.symm.trans hs1
       injection this
      simp only [Function.comp,rg,rd,ht,hs2,Option.bind_some,Option.map_some,Option.getD_some,strOf]
      rw [hv]
   exact h2 _ _ hK h1
  rw [e]
end Go.Dol
