/- append of so many zero elements onto a slice of the call's own, as the translation hands it over: a number in the place of a slice. Conditions: elements of one cell. -/
import Derived.Test.YtcefbhmmijmefaaBlk
import Derived.Test.YtcefbhmmijmefaaU8
import Derived.Lib.AppendZerosOnto
namespace Go.Dol
open Go.RowKit

theorem zeroCells_one (z : Value) (k : Nat) : Builtin.zeroCells #[z] k = (List.replicate k z).toArray := by
  apply Array.toList_inj.1
  simp only [Builtin.zeroCells, Array.toList_map, Array.toList_range]
  apply List.ext_getElem
  · simp
  · intro i h1 h2
    simp [Nat.mod_one]

theorem run_append_seg_zeros {P : Program} (w : World) (base : Nat) (t tn ty e : TypeId) (i : TypeInfo) (z : Value) (kq kn : IntKind) (ht : P.underlying t = some (.slice e)) (htn : P.underlying tn = some (.int kn)) (hi : P.info? e = some i) (hz : i.zero = some z)
    (hsize : i.size = 1) (hzc : z.cells = #[z]) (hz1 : z.oneCell' = true)
    (A : Option Addr) (n c : Nat) (xs : List Value) (hseg : Seg w base e 1 A n c xs) (k : Nat) (h0 : 0 < k)
    (h63 : n + k ≤ maxLen) (hbytes : (n + k) * i.bytes ≤ 140737488355328) (hbase : base ≤ w.heap.size) :
    ∃ A' c' w', (Builtin.append_ #[t, tn] ty #[.slice A n c, .int kq k]).run P w = .ok (.slice A' (n + k) c') w' ∧ Seg w' base e 1 A' (n + k) c' (xs ++ List.replicate k z) ∧
      w.grownBy w' (segRow A c) ∧ (segBlock A' = segBlock A ∨ segBlock A' = some w.heap.size) := by
  obtain ⟨p1, p2, p3, p4⟩ := hseg
  have hsmall : n + k ≤ 9223372036854775807 := by simp only [maxLen] at h63; omega
  have hk : k ≠ 0 := by omega
  have hw : IntKind.i64.wrap (k : Int) = k := by rw [IntKind.wrap_i64]; omega
  have hkb : k * i.bytes ≤ (n + k) * i.bytes := Nat.mul_le_mul_right _ (by omega)
  have h48i : ¬ (281474976710656 < (k : Int) * (i.bytes : Int)) := by
    rw [← Int.natCast_mul]
    omega
  have hneg : ¬ ((k : Int) < 0) := by omega
  have hlen : (xs ++ List.replicate k z).length = (n + k) * 1 := by rw [List.length_append, p1, List.length_replicate]; omega
  by_cases hroom : n + k ≤ c
  · rcases p4 with p4 | ⟨g, off, cur, rfl, a2, a3, a4, a5⟩
    · omega
    have hst := run_storeCells_at P g (off + n) e (List.replicate k z) 0 cur w a3 (by rw [List.length_replicate]; omega) (fun v hv => by rw [(List.mem_replicate.1 hv).2]; exact hz1)
    simp only [Nat.add_zero] at hst
    refine ⟨_, c, w.setRow g (cur.toList.take (off + n) ++ List.replicate k z ++ cur.toList.drop (off + n + (List.replicate k z).length)).toArray, ?_,
      ⟨hlen, hroom, p3, .inr ⟨g, off, _, rfl, a2, setRow_heap w g cur _ e _ a3, ?_, ?_⟩⟩, ?_, .inl rfl⟩
    · simp [Builtin.append_, run_underlying ht, run_underlying htn, sizeOf, typeInfo, zeroValue, hi, hz, hsize, hzc, zeroCells_one, asInt, asIntOf, hw, hk, hneg, h48i, hroom, Addr.add_lit, hst]
    · simp only [List.size_toArray, List.length_append, List.length_take, List.length_drop, Array.length_toList, List.length_replicate]
      omega
    · rw [← a5, List.append_assoc, List.drop_append, List.drop_take]
      have e1 : off - (cur.toList.take (off + n)).length = 0 := by rw [List.length_take, Array.length_toList]; omega
      rw [e1, List.drop_zero, Nat.add_sub_cancel_left, Nat.mul_one, Nat.mul_one]
      rw [Nat.mul_one] at a5
      have e2 : ((cur.toList.drop off).take n ++ List.replicate k z).length = n + k := by rw [a5]; simpa using hlen
      rw [← List.append_assoc, ← e2]
      exact List.take_left
    · unfold segRow
      rw [if_pos (by omega)]
      exact ⟨rfl, rfl, rfl, by simp, fun j _ hj => setRow_other w g j _ (fun e => hj (by rw [e]; rfl))⟩
  · have hold : (Builtin.firstCells i.size n (.slice A n c)).run P w.drew = .ok xs.toArray w.drew := by
      rw [hsize]
      rcases Nat.eq_zero_or_pos n with h0 | h0
      · subst h0
        have hxs : xs = [] := List.eq_nil_of_length_eq_zero (by rw [p1])
        subst hxs
        cases A with
        | none => simp [Builtin.firstCells]
        | some a => simp [Builtin.firstCells, loadCells, loadCellsFrom]
      · rcases p4 with p4 | ⟨g, off, cur, rfl, a2, a3, a4, a5⟩
        · omega
        · refine run_firstCells_some w.drew 1 n _ n c xs p1 (fun j u hu => ?_)
          rw [Addr.add_lit]
          show w.cell? _ = _
          rw [cell_of_row w g (off + j) cur e (0, 0) a3]
          rw [← a5, List.getElem?_take] at hu
          split at hu
          · rw [List.getElem?_drop] at hu
            simpa using hu
          · cases hu
    have hr := Lib.run_append_grow_zeros (P := P) w t tn ty e i z kq kn ht htn hi hz A n c xs hold k h0 (by omega) (by omega) (by omega) (by omega) (growslice_fits (by omega) hbytes)
    have hge := grownCap_ge w (n + k) c e
    have hcm : grownCap w (n + k) c e ≤ maxLen := grownCap_le_maxLen w (n + k) c e h63
    refine ⟨_, _, _, hr, ⟨hlen, hge, hcm, .inr ⟨w.heap.size, 0, _, rfl, hbase, heap_alloc_new w.drew _, ?_, ?_⟩⟩, ?_, .inr rfl⟩
    · rw [hzc, zeroCells_one, zeroCells_one]
      simp only [Array.size_append, List.size_toArray, List.length_replicate, p1]
      omega
    · rw [List.drop_zero, hzc, zeroCells_one, Array.toList_append, Array.toList_append, ← hlen]
      exact List.take_left
    · refine ⟨rfl, rfl, rfl, by simp, ?_⟩
      intro j hj _
      exact Below.heap_alloc w.drew _ j hj
end Go.Dol
namespace Go.Proofs.Ytcefbhmmijmefaa
open Go.RowKit Go.Dol
/-- append of noughts onto a slice of bytes of the call's own. -/
theorem appZ8 {w : World} {ops : Array Oper} {rest : List Oper} {o : Oper} {a : Act} {Q : Exit → Act → World → Prop} (hgd : o.guard = none) (s xo : Operand) (tn : TypeId) (kn : IntKind) (htn : Try.prog.underlying tn = some (.int kn))
    (ho : o.op = .call { callee := .builtin .append, args := #[s, xo], argTypes := #[22, tn] })
    (base : Nat) (A : Option Addr) (n c : Nat) (xs : List UInt8) (hs : a.eval s = .slice A n c) (hseg : Seg w base 5 1 A n c (bc xs))
    (kq : IntKind) (k : Nat) (hx : a.eval xo = .int kq k) (h0 : 0 < k)
    (hlen : n + k ≤ 140737488355328) (hbase : base ≤ w.heap.size)
    (h : ∀ (l' : List UInt8) (A' : Option Addr) (c' : Nat) (w' : World), Hid (l' = xs ++ List.replicate k 0) → Seg w' base 5 1 A' l'.length c' (bc l') → Below base w w' → w.grownBy w' (segRow A c) →
      l'.length ≤ c' → c' ≤ maxLen → wpList Try.prog ops Q rest (a.put o.dst (.slice A' l'.length c')) w') : wpList Try.prog ops Q (o :: rest) a w := by
  obtain ⟨i0, hi, hz0, hz1, hz2⟩ := info_parts info_u8
  obtain ⟨A', c', w', hrun, h2, h3, h4⟩ := run_append_seg_zeros (P := Try.prog) w base _ tn o.type _ i0 _ kq kn Try.underlying22 htn hi hz0 hz1 rfl rfl A n c (bc xs) hseg k h0 (by unfold maxLen; omega) (by rw [hz2]; omega) hbase
  refine Lib.wpList_append_run w hgd s xo _ tn ho _ _ hs hx _ w' hrun ?_
  have e1 : n = xs.length := by have := hseg.1; rw [bc_length] at this; omega
  have e : n + k = (xs ++ List.replicate k 0).length := by rw [List.length_append, List.length_replicate]; omega
  have e3 : bc xs ++ List.replicate k (.int .u8 0) = bc (xs ++ List.replicate k 0) := by rw [bc_append]; unfold bc; rw [List.map_replicate]; rfl
  rw [e3, e] at h2
  rw [e]
  exact h _ A' c' w' rfl h2 ((Below.refl _ _).grown h3 hbase (fun k hk => (hseg.row k hk).1)) h3 h2.2.1 h2.2.2.1
end Go.Proofs.Ytcefbhmmijmefaa
