/- What was met, sorted: the library's slices.Sorted(maps.Keys(m)). Conditions: fewer than 2^39 ids. -/
import Derived.Test.YteeajmgiamdfdaaRch
import Derived.Test.YteeajmgiamdfdaaIterG
import Derived.Deep.Onto
namespace Go.Dol
open Go.RowKit Go.MapKept Go.Maps
open Go.WideElems (Fit rd rg)
set_option linter.unusedVariables false
/-- A map that is known by its entries, as the library's laws want it. -/
theorem MapL.owns {P : Program} {k : TypeId} {w : World} {B : Nat} {al : List (Value × Value)} (hk : P.underlying k = some .string) (h : MapL P k w B al) (hl : al.length ≤ maxLen) :
    ∃ D0 : DataW Unit, w.ownsMap P k (fun _ => some (.nil, [])) B al.length D0 ∧ Maps.size D0 = al.length ∧ ∀ ns : List ByteArray, al.map Prod.fst = ns.map Value.string → (strKeys D0).Perm (ns.map fun n => n.data.toList) := by
  obtain ⟨es, clock, hb, hS, hK, hal⟩ := h
  have hlen : es.toList.length = al.length := by rw [← hal, List.length_map]
  have hsz : es.size = al.length := by rw [← hlen, Array.length_toList]
  have hp := WideShapes.sorted_perm (H := Unit) (es.toList.map (rg P k fun _ => some (.nil, [])))
  refine ⟨_, ⟨es, clock, hb, ⟨by omega, hS, fun x hx => ?_⟩, by omega, rfl⟩, ?_, fun ns hns => ?_⟩
  · obtain ⟨l, hl⟩ := hK x hx
    exact ⟨(l, .nil), by simp [rd, hl]⟩
  · rw [size_eq, hp.length_eq, List.length_map, hlen]
  · show (((es.toList.map (rg P k fun _ => some (.nil, []))).foldr DataW.insert []).map fun p => strOf p.1).Perm _
    refine (hp.map _).trans ?_
    rw [List.map_map]
    have e : es.toList.map ((fun p => strOf p.1) ∘ rg P k fun _ => some ((.nil : DataW Unit), [])) = ns.map fun n => n.data.toList := by
      have h1 : es.toList.map (fun e => e.key) = ns.map Value.string := by
        rw [← hns, ← hal, List.map_map]
        rfl
      have h2 : ∀ (l : List MapEntry) (m : List ByteArray), (∀ x ∈ l, ∃ t, keyOf P k x.key = some t) → l.map (fun e => e.key) = m.map Value.string → l.map ((fun p => strOf p.1) ∘ rg P k fun _ => some ((.nil : DataW Unit), [])) = m.map fun n => n.data.toList := by
        intro l
        induction l with
        | nil =>
          intro m _ hm
          cases m with
          | nil => rfl
          | cons a b => cases hm
        | cons x r ih =>
          intro m hx hm
          cases m with
          | nil => cases hm
          | cons a b =>
            simp only [List.map_cons, List.cons.injEq] at hm ⊢
            refine ⟨?_, ih b (fun y hy => hx y (List.mem_cons_of_mem _ hy)) hm.2⟩
            obtain ⟨t, ht⟩ := hx x (List.mem_cons_self ..)
            obtain ⟨s, hs1, hs2, _⟩ := Maps.keyOf_str hk ht
            have hv : a = ⟨s.toArray⟩ := by
              have := hm.1.symm.trans hs1
              injection this
            simp only [Function.comp, rg, rd, ht, hs2, Option.bind_some, Option.map_some, Option.getD_some, strOf]
            rw [hv]
      exact h2 _ _ hK h1
    rw [e]
/-- Keys, each once, sorted: a row in order. -/
theorem sorted_keys {mt : List ByteArray} (hn : mt.Nodup) {ss : List (List UInt8)} (hp : ss.Perm (mt.map fun n => n.data.toList)) : ∃ L : List ByteArray, (ss.mergeSort fun x y => decide (x ≤ y)) = L.map (fun n => n.data.toList) ∧ Strict L ∧ ∀ x, x ∈ L ↔ x ∈ mt := by
  have tr : ∀ a b c : List UInt8, decide (a ≤ b) = true → decide (b ≤ c) = true → decide (a ≤ c) = true := fun a b c h1 h2 => decide_eq_true (List.le_trans (of_decide_eq_true h1) (of_decide_eq_true h2))
  have to : ∀ a b : List UInt8, (decide (a ≤ b) || decide (b ≤ a)) = true := fun a b => by
    rcases List.le_total a b with h | h <;> simp [h]
  have hs := List.pairwise_mergeSort tr to ss
  have hq := (List.mergeSort_perm ss fun x y => decide (x ≤ y)).trans hp
  obtain ⟨T, hT⟩ : ∃ T, T = ss.mergeSort fun x y => decide (x ≤ y) := ⟨_, rfl⟩
  rw [← hT] at hs hq ⊢
  have e : ∀ l : List (List UInt8), (l.map fun s => (⟨s.toArray⟩ : ByteArray)).map (fun n => n.data.toList) = l := fun l => by
    rw [List.map_map]
    exact (List.map_congr_left fun s _ => by simp).trans (List.map_id _)
  refine ⟨T.map fun s => ⟨s.toArray⟩, (e T).symm, ?_, fun x => ?_⟩
  · have hnd : T.Nodup := hq.nodup_iff.2 (List.pairwise_map.2 (List.Pairwise.imp (fun {a b} h e => h (ba_ext e)) hn))
    unfold Strict
    rw [List.pairwise_map]
    refine (hs.and hnd).imp fun {a b} hab => ?_
    unfold sLt
    refine decide_eq_true ?_
    have h1 := of_decide_eq_true hab.1
    rcases Decidable.em (a < b) with h | h
    · simpa using h
    · exact absurd (List.le_antisymm h1 (List.not_lt.1 h)) hab.2
  · refine ⟨fun hx => ?_, fun hx => ?_⟩
    · obtain ⟨s, hs1, rfl⟩ := List.mem_map.1 hx
      obtain ⟨y, hy, hy2⟩ := List.mem_map.1 (hq.mem_iff.1 hs1)
      have : y = ⟨s.toArray⟩ := ba_ext (by rw [hy2])
      rw [← this]
      exact hy
    · refine List.mem_map.2 ⟨x.data.toList, hq.mem_iff.2 (List.mem_map.2 ⟨x, hx, rfl⟩), ?_⟩
      exact ba_ext (by simp)
end Go.Dol
namespace Go.Proofs.Yteeajmgiamdfdaa
open Go.RowKit Go.Dol
set_option linter.unusedVariables false
/-- What was met, each once. -/
theorem mtE_nodup {w : World} {B : Nat} {mt : List ByteArray} (h : MapL Try.prog 9 w B (mtE mt)) : mt.Nodup := by
  have h1 := h.nodup
  unfold mtE at h1
  rw [List.map_map] at h1
  exact (List.pairwise_map.1 h1).imp fun {a b} h e => h (by rw [e])
/-- A row of texts in order that just such ids are on. -/
def RetIds (w : World) (p : ByteArray → Prop) (e : Ending) (w' : World) : Prop :=
  ∃ (L : List ByteArray) (A : Option Addr) (c : Nat), e = .returned (.slice A L.length c) ∧ Hid (Strict L) ∧ Hid (∀ x, x ∈ L ↔ p x) ∧ L.length ≤ 549755813888 ∧ w'.ownsRow w.heap.size 9 1 (.slice A L.length c) L.length (pc L) ∧ Below w.heap.size w w'
theorem sortedMet {w : World} {m : Nat} {mt : List ByteArray} (hM : MapL Try.prog 9 w m (mtE mt)) (hl : mt.length ≤ 549755813888) :
    Calls Try.prog 26 #[.func (.func 45) #[] #[.pointer (some ⟨w.heap.size, 0, none⟩)]] (w.alloc (.cells #[.map (some m)] 49)) (RetIds w (· ∈ mt)) := by
  have hml : (mtE mt).length = mt.length := by simp [mtE]
  obtain ⟨D0, hown, hsz, hkeys⟩ := hM.owns Try.underlying9 (by unfold maxLen; omega)
  refine ((callsIn_wide (n := 5)).1 (sortedKeys m (mtE mt).length D0 _ w hown (by unfold maxLen; omega) (by omega))).mono ?_
  rintro e w' ⟨v, ss, rfl, hS, hrow, _, hb⟩
  have hns : (mtE mt).map Prod.fst = mt.map Value.string := by unfold mtE; rw [List.map_map]; rfl
  have hperm := hS.trans (hkeys _ hns)
  obtain ⟨L, hL, hst, hmem⟩ := sorted_keys (mtE_nodup hM) hperm
  have hsl : ss.length = L.length := by
    have h1 := congrArg List.length hL
    rwa [List.length_mergeSort, List.length_map] at h1
  have hlen : ss.length = mt.length := by rw [hperm.length_eq, List.length_map]
  rw [hL, List.map_map, hsl] at hrow
  have hxs : (L.map (Go.Proofs.encStr ∘ fun n => n.data.toList)) = pc L := List.map_congr_left fun n _ => rfl
  rw [hxs] at hrow
  have hbl : Below w.heap.size w w' := ((Below.refl _ _).alloc (Nat.le_refl _) _).trans (hb.mono (by simp))
  have hrow' : w'.ownsRow w.heap.size 9 1 v L.length (pc L) := World.ownsRow.mono hrow (by simp)
  have hv : ∃ A c, v = .slice A L.length c := by
    rcases hrow'.2 with ⟨rfl, h0⟩ | ⟨q, cap, cur, rfl, _⟩
    · exact ⟨none, 0, by rw [h0]⟩
    · exact ⟨_, cap, rfl⟩
  obtain ⟨A, c, rfl⟩ := hv
  exact ⟨L, A, c, rfl, hst, hmem, by omega, hrow', hbl⟩
theorem keysMet (mb : Option Nat) (W : World) : Calls Try.prog 27 #[.map mb] W fun e w' => e = .returned (.func (.func 45) #[] #[.pointer (some ⟨W.heap.size, 0, none⟩)]) ∧ w' = W.alloc (.cells #[.map mb] 49) :=
  (callsIn_wide (n := 5)).1 (mapsKeys mb W)
end Go.Proofs.Yteeajmgiamdfdaa
