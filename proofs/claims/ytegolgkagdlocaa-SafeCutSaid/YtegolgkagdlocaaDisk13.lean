/- The walk of the layer 'disk': its names, in order. Conditions: a disk in good order. -/
import Derived.Test.YtegolgkagdlocaaOkL
import Derived.Test.YtegolgkagdlocaaIter
import Derived.Test.YtegolgkagdlocaaDisk5
import Derived.Test.YtegolgkagdlocaaDiskLaw
import Derived.Deep.Onto
namespace Go.Dol
open Go.RowKit Go.MapKept Go.Maps
open Go.WideElems (Fit rd rg)
set_option linter.unusedVariables false
/-- A map that is known by its entries, as the library's laws want it. -/
theorem MapL.owns {P : Program} {k : TypeId} {w : World} {B : Nat} {al : List (Value × Value)} (hk : P.underlying k = some .string) (h : MapL P k w B al) (hl : al.length ≤ maxLen) :
    ∃ D0 : DataW Unit, w.ownsMap P k (fun _ => some (.nil, [])) B al.length D0 ∧ Maps.size D0 = al.length ∧ ∀ ns : List ByteArray, al.map Prod.fst = ns.map Value.string → (strKeys D0).Perm (ns.map fun n => n.data.toList) := by
  obtain ⟨es, clock, hb, hS, hK, hal⟩ := h
  have hlen : es.toList.length = al.length := by rw [← hal, List.length_map]
  have hsz : es.size = al.length := by rw [← hlen, Array.length_toList]
  have hp := WideShapes.sorted_perm (H := Unit) (es.toList.map (rg P k fun _ => some (.nil, [])))
  refine ⟨_, ⟨es, clock, hb, ⟨by omega, hS, fun x hx => ?_⟩, by omega, rfl⟩, ?_, fun ns hns => ?_⟩
  · obtain ⟨l, hl⟩ := hK x hx
    exact ⟨(l, .nil), by simp [rd, hl]⟩
  · rw [size_eq, hp.length_eq, List.length_map, hlen]
  · show (((es.toList.map (rg P k fun _ => some (.nil, []))).foldr DataW.insert []).map fun p => strOf p.1).Perm _
    refine (hp.map _).trans ?_
    rw [List.map_map]
    have e : es.toList.map ((fun p => strOf p.1) ∘ rg P k fun _ => some ((.nil : DataW Unit), [])) = ns.map fun n => n.data.toList := by
      have h1 : es.toList.map (fun e => e.key) = ns.map Value.string := by
        rw [← hns, ← hal, List.map_map]
        rfl
      have h2 : ∀ (l : List MapEntry) (m : List ByteArray), (∀ x ∈ l, ∃ t, keyOf P k x.key = some t) → l.map (fun e => e.key) = m.map Value.string → l.map ((fun p => strOf p.1) ∘ rg P k fun _ => some ((.nil : DataW Unit), [])) = m.map fun n => n.data.toList := by
        intro l
        induction l with
        | nil =>
          intro m _ hm
          cases m with
          | nil => rfl
          | cons a b => cases hm
        | cons x r ih =>
          intro m hx hm
          cases m with
          | nil => cases hm
          | cons a b =>
            simp only [List.map_cons, List.cons.injEq] at hm ⊢
            refine ⟨?_, ih b (fun y hy => hx y (List.mem_cons_of_mem _ hy)) hm.2⟩
            obtain ⟨t, ht⟩ := hx x (List.mem_cons_self ..)
            obtain ⟨s, hs1, hs2, _⟩ := Maps.keyOf_str hk ht
            have hv : a = ⟨s.toArray⟩ := by
              have := hm.1.symm.trans hs1
              injection this
            simp only [Function.comp, rg, rd, ht, hs2, Option.bind_some, Option.map_some, Option.getD_some, strOf]
            rw [hv]
      exact h2 _ _ hK h1
    rw [e]
/-- Names in order, sorted: themselves. -/
theorem sorted_names {l : List Fil} (h : InOrder l) {ss : List (List UInt8)} (hp : ss.Perm (l.map fun f => f.1.data.toList)) : (ss.mergeSort fun x y => decide (x ≤ y)) = l.map fun f => f.1.data.toList := by
  have tr : ∀ a b c : List UInt8, decide (a ≤ b) = true → decide (b ≤ c) = true → decide (a ≤ c) = true := fun a b c h1 h2 => decide_eq_true (List.le_trans (of_decide_eq_true h1) (of_decide_eq_true h2))
  have to : ∀ a b : List UInt8, (decide (a ≤ b) || decide (b ≤ a)) = true := fun a b => by
    rcases List.le_total a b with h | h <;> simp [h]
  refine List.Perm.eq_of_pairwise (le := fun a b => decide (a ≤ b) = true) (fun a b _ _ h1 h2 => List.le_antisymm (of_decide_eq_true h1) (of_decide_eq_true h2)) (List.pairwise_mergeSort tr to ss) ?_ ((List.mergeSort_perm ss _).trans hp)
  rw [List.pairwise_map]
  exact h.imp fun {a b} hab => by
    unfold sLt at hab
    exact decide_eq_true (List.le_of_lt (of_decide_eq_true hab))
end Go.Dol
namespace Go.Proofs.Ytegolgkagdlocaa
open Go.RowKit Go.Dol
set_option linter.unusedVariables false
theorem order_len {D : Dk} (h : OkD D) : D.l.length ≤ 68719476736 := by
  have h1 : ∀ l : List Fil, 16 * (l.length : Int) ≤ costs l := by
    intro l
    induction l with
    | nil => show (16 * 0 : Int) ≤ 0; omega
    | cons f r ih => have := costF_pos f; simp only [costs, List.length_cons]; omega
  have := h1 D.l
  have h2 := h.room
  have h3 := h.cap1
  omega
/-- What the names' listing hands back. -/
def RetNames (w : World) (D : Dk) (e : Ending) (w' : World) : Prop :=
  ∃ A c, e = .returned (.slice A D.l.length c) ∧ w'.ownsRow w.heap.size 9 1 (.slice A D.l.length c) D.l.length (sc (D.l.map Prod.fst)) ∧ Below w.heap.size w w'
section
variable {w : World} {g m : Nat} {D : Dk}
theorem Dsk.sorted (h : Dsk w g m D) (hK : OkL D) : Calls Try.prog 77 #[.func (.func 85) #[] #[.pointer (some ⟨w.heap.size, 0, none⟩)]] (w.alloc (.cells #[.map (some m)] 70)) (RetNames w D) := by
  obtain ⟨al, hB, hM, M, hal, hby, hp⟩ := h
  have hlen : al.length = D.l.length := by rw [hal, List.length_map, ← hp.length_eq, List.length_map]
  have hle := hK.len
  obtain ⟨D0, hown, hsz, hkeys⟩ := hM.owns Try.underlying9 (by unfold maxLen; omega)
  refine ((callsIn_wide (n := 5)).1 (sortedKeys m al.length D0 _ w hown (by unfold maxLen; omega) (by omega))).mono ?_
  rintro e w' ⟨v, ss, rfl, hS, hrow, _, hb⟩
  have hns : al.map Prod.fst = ((M.map Prod.fst).map Prod.fst).map Value.string := by
    rw [hal, List.map_map, List.map_map, List.map_map]
    rfl
  have hperm : ss.Perm (D.l.map fun f => f.1.data.toList) := by
    refine hS.trans ((hkeys _ hns).trans ?_)
    rw [List.map_map]
    exact hp.map _
  have hsl : ss.length = D.l.length := by rw [hperm.length_eq, List.length_map]
  rw [sorted_names hK.ord hperm, List.map_map, hsl] at hrow
  have hxs : (D.l.map (Go.Proofs.encStr ∘ fun f => f.1.data.toList)) = sc (D.l.map Prod.fst) := by
    unfold sc
    rw [List.map_map]
    exact List.map_congr_left fun f _ => rfl
  rw [hxs] at hrow
  have hbl : Below w.heap.size w w' := ((Below.refl _ _).alloc (Nat.le_refl _) _).trans (hb.mono (by simp))
  have hrow' : w'.ownsRow w.heap.size 9 1 v D.l.length (sc (D.l.map Prod.fst)) := World.ownsRow.mono hrow (by simp)
  have hv : ∃ A c, v = .slice A D.l.length c := by
    rcases hrow'.2 with ⟨rfl, h0⟩ | ⟨q, cap, cur, rfl, _⟩
    · exact ⟨none, 0, by rw [h0]⟩
    · exact ⟨_, cap, rfl⟩
  obtain ⟨A, c, rfl⟩ := hv
  exact ⟨A, c, rfl, hrow', hbl⟩
theorem keys_calls (mb : Option Nat) (W : World) : Calls Try.prog 78 #[.map mb] W fun e w' => e = .returned (.func (.func 85) #[] #[.pointer (some ⟨W.heap.size, 0, none⟩)]) ∧ w' = W.alloc (.cells #[.map mb] 70) :=
  (callsIn_wide (n := 5)).1 (mapsKeys mb W)
set_option maxRecDepth 100000 in
set_option maxHeartbeats 800000 in
theorem Names_callsL (h : Dsk w g m D) (hK : OkL D) : Calls Try.prog 53 #[.pointer (some ⟨g, 0, none⟩)] w (RetNames w D) := by
  obtain ⟨k0, k1, k2, k3, k4, k5⟩ := h.cells
  have HS := Lib.hid (h.sorted hK)
  have HK := Lib.hid (keys_calls (some m) w)
  go_enter Try.func53, Try.ntmps53
  go_wp2_with (first
    | (go_at_call 42; refine (made_calls h).mono ?_; rintro e w' ⟨rfl, hw⟩; obtain rfl := hw.symm)
    | (go_at_call 78; refine HK.out.mono ?_; rintro e w' ⟨rfl, rfl⟩)
    | (go_at_call 77; refine HS.out.mono ?_; rintro e w' ⟨A, c, rfl, ho, hb⟩))
  go_ret
  exact ⟨A, c, rfl, ho, hb⟩
theorem Names_calls (h : Dsk w g m D) (hK : OkD D) : Calls Try.prog 53 #[.pointer (some ⟨g, 0, none⟩)] w (RetNames w D) := Names_callsL h hK.toL
end
end Go.Proofs.Ytegolgkagdlocaa
