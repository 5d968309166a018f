/- The walks of the document's 'disk', its third part: what is free; a file is put in its place. Conditions: lengths below 2^46. -/
import Derived.Test.YtogjlfpoedeooaaRd2
namespace Go.Dol
open Go.RowKit
theorem costs_take_succ {l : List Fil} {k : Nat} {f : Fil} (h : l[k]? = some f) : costs (l.take (k + 1)) = costs (l.take k) + (16 + (f.1.size : Int) + f.2.length) := by
  rw [List.take_add_one, h, costs_append]
  simp [costs, costF]
end Go.Dol
namespace Go.Proofs.Ytogjlfpoedeooaa
open Go.RowKit Go.Dol
set_option linter.unusedVariables false
section
variable {w w' : World} {g : Nat} {D : Dk}
def FrRel (g : Nat) (D : Dk) (w : World) (n i : Value) (wr : World) : Prop := ∃ k : Nat, n = .int .i64 (D.cap - costs (D.l.take k)) ∧ i = .int .i64 k ∧ k ≤ D.l.length ∧ Rdk wr g D ∧ Below w.heap.size w wr
set_option maxRecDepth 100000 in
set_option maxHeartbeats 2000000 in
theorem refFree_calls (h : Rdk w g D) (hcap : 0 ≤ D.cap ∧ D.cap ≤ 1099511627776) (hco : costs D.l ≤ 281474976710656) :
    Calls Try.prog 40 #[.pointer (some ⟨g, 0, none⟩)] w fun e w' => e = .returned (.int .i64 (frD D)) ∧ Rdk w' g D ∧ Below w.heap.size w w' := by
  have hlen : D.l.length ≤ 140737488355328 := by have := costs_len D.l; omega
  have hfr : Hid (frD D = D.cap - costs D.l) := by unfold Hid frD; have := costs_nonneg D.l; exact IntWalk.i64_in _ (by omega)
  have k0 : w.cell? ⟨g, 0, none⟩ = some (.int .i64 D.cap) := by obtain ⟨fs, A, c, k0, _⟩ := h.row; exact k0
  go_enter Try.func40, Try.ntmps40
  go_wp2_with fail
  go_loopw [3, 4] (fun n i wr => FrRel g D w n i wr) (fun _ i _ => D.l.length - (intOf i).toNat)
  case atStart => exact ⟨0, by simp [costs], rfl, Nat.zero_le _, h, Below.refl _ _⟩
  case round =>
    clear h k0
    obtain ⟨k, rfl, rfl, hk, h, hb⟩ := hrel
    obtain ⟨fs, A, c, k0, k1, k2, k3, k4, hr, hc, hcm, hF, hL⟩ := h.row
    have hlenf : D.l.length = fs.length := by rw [← hL.out, List.length_map]
    have hle1 : D.l.length ≤ fs.length := by omega
    have hle2 : fs.length ≤ D.l.length := by omega
    clear hlenf
    obtain ⟨s, hs⟩ : ∃ s, s = costs (D.l.take k) := ⟨_, rfl⟩
    have hs1 : s ≤ costs D.l := by rw [hs]; exact costs_take _ _
    have hs0 : 0 ≤ s := by rw [hs]; exact costs_nonneg _
    rw [← hs]
    by_cases h1 : k < fs.length
    · have d1 : decide ((k : Int) < (fs.length : Int)) = true := decide_eq_true (by omega)
      have d1' : (k : Int) < (fs.length : Int) := by omega
      have hk0 : (0 : Int) ≤ (k : Int) := by omega
      obtain ⟨x, hx⟩ : ∃ x, fs[k]? = some x := ⟨fs[k], List.getElem?_eq_getElem h1⟩
      have hx1 := map_get hL.out hx
      obtain ⟨x1, x2⟩ := fc_get hx
      obtain ⟨bb, off, rfl, hbb, hcell⟩ := hr.at_ (by omega)
      have q0 : wr.cell? ⟨bb, off + k * 2, none⟩ = _ := hcell _ _ x1
      have q1 : wr.cell? ⟨bb, off + k * 2 + 1, none⟩ = _ := hcell _ _ x2
      have hcs := costs_take_succ hx1
      have hs2 := costs_take D.l (k + 1)
      obtain ⟨xn, xb, xA, xc⟩ := x
      simp only at q0 q1 hx1 hcs
      rw [← hs] at hcs
      have g1 : IntKind.i64.wrap (D.cap - s - 16) = D.cap - s - 16 := IntWalk.i64_in _ (by omega)
      have g2 : IntKind.i64.wrap (D.cap - s - 16 - (xn.size : Int)) = D.cap - s - 16 - (xn.size : Int) := IntWalk.i64_in _ (by omega)
      have g3 : IntKind.i64.wrap (D.cap - s - 16 - (xn.size : Int) - (xb.length : Int)) = D.cap - s - 16 - (xn.size : Int) - (xb.length : Int) := IntWalk.i64_in _ (by omega)
      have HCS : Hid (D.cap - s - 16 - (xn.size : Int) - (xb.length : Int) = D.cap - costs (D.l.take (k + 1))) := by unfold Hid; omega
      have f2 : IntKind.i64.wrap ((k : Int) + 1) = (k : Int) + 1 := IntWalk.i64_in _ (by omega)
      have HSs := Lib.hid hs
      clear x1 x2 hx hx1 hcell hcs hs2 hs hs1 hs0
      go_wp2_with fail
      go_quiet (fail)
      go_wp2_with fail
      refine ⟨⟨k + 1, by rw [HCS.out], by go_num, by omega, h.drewN nq, hb.drewN' nq⟩, by simp [intOf]; omega⟩
    · have d1 : decide ((k : Int) < (fs.length : Int)) = false := decide_eq_false (by omega)
      have d1n : decide (k < fs.length) = false := decide_eq_false h1
      have HE : Hid (frD D = D.cap - s) := by
        unfold Hid
        rw [hfr.out, hs, List.take_of_length_le (by omega)]
      clear hs
      go_wp2_with fail
      go_ret
      rw [HE.out]
      exact ⟨rfl, h, hb⟩

theorem info_file : (Try.prog.info? 82).map (fun i => (i.zero, i.size, i.bytes)) = some (some (.agg #[.string ⟨#[]⟩, .slice none 0 0]), 2, 40) := by kernel_rfl
theorem size_file (w : World) : (sizeOf (Try.prog.elem 22)).run Try.prog w = .ok 2 w := by kernel_rfl
/-- A beginning of files. -/
theorem slf_to {A : Option Addr} {n c k : Nat} (w : World) (h1 : k ≤ n) (h2 : n ≤ c) (h3 : c ≤ maxLen) : (Instr.sliceAt 22 (.slice A n c) none (some (.int .i64 (k : Nat))) none).run Try.prog w = .ok (.slice A k c) w := by
  rw [run_sliceAt_slice _ _ _ _ _ _ (by kernel_rfl), run_slice_h _ _ _ _ _ (by kernel_rfl) _ _ (by omega) (by omega), size_file]
  cases A <;> simp [sliced, Result.andThen, Addr.add]
/-- An end of files. -/
theorem slf_from {A : Option Addr} {n c k : Nat} (w : World) (h1 : k ≤ n) (h2 : n ≤ c) (h3 : c ≤ maxLen) : (Instr.sliceAt 22 (.slice A n c) (some (.int .i64 (k : Nat))) none none).run Try.prog w = .ok (.slice (if c = k then A else A.map (·.add (k * 2))) (n - k) (c - k)) w := by
  rw [run_sliceAt_slice _ _ _ _ _ _ (by kernel_rfl), run_slice_l _ _ _ _ _ (by kernel_rfl) _ _ (by omega) (by omega), size_file]
  by_cases hck : c = k
  · subst hck
    cases A <;> simp [sliced, Result.andThen]
  · cases A <;> simp [sliced, Result.andThen, Addr.add, hck] <;> omega
/-- append of files onto files of the call's own. -/
theorem appF {w : World} {ops : Array Oper} {rest : List Oper} {o : Oper} {a : Act} {Q : Exit → Act → World → Prop} (hgd : o.guard = none) (s x : Operand)
    (ho : o.op = .call { callee := .builtin .append, args := #[s, x], argTypes := #[22, 22] })
    (base : Nat) (v : Value) (xs : List FilA) (n : Nat) (hn : n = xs.length) (hs : a.eval s = v) (hown : w.ownsRow base 82 2 v n (fc xs))
    (B : Nat) (A : Option Addr) (m c : Nat) (news : List FilA) (hx : a.eval x = .slice A m c) (hm : m = news.length) (hr : Rd w B 2 A m (fc news))
    (hlen : n + m ≤ 3518437208883) (hbase : base ≤ w.heap.size)
    (h : ∀ (ys : List FilA) (A' : Option Addr) (c' : Nat) (w' : World), Hid (ys = xs ++ news) → w'.ownsRow base 82 2 (.slice A' ys.length c') ys.length (fc ys) → Below base w w' → w.grownBy w' v.ownBlock →
      wpList Try.prog ops Q rest (a.put o.dst (.slice A' ys.length c')) w') : wpList Try.prog ops Q (o :: rest) a w := by
  refine wpList_append_rd w hgd s x _ ho base _ _ 2 40 Try.underlying22 info_file rfl (by decide) v n (fc xs) hs hown B A m c (fc news) hx hr (fc_one _) (by unfold maxLen; omega) (by omega) hbase ?_
  intro A' c' w' h1 h2 h3 h4 h5
  have e : n + m = (xs ++ news).length := by rw [List.length_append]; omega
  rw [← fc_append, e] at h1
  rw [e]
  exact h _ A' c' w' rfl h1 ((Below.refl _ _).grown h2 hbase (fun k hk => (hown.lt k hk).1)) h2
end
end Go.Proofs.Ytogjlfpoedeooaa
