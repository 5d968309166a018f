/- The walk of the laws' example: a disk of 100, a save of 80. Conditions: none. -/
import Derived.Test.YtegolgkagdlocaaSafeB
import Derived.Test.YtegolgkagdlocaaSafeLaw
namespace Go.Dol
open Go.RowKit
theorem nameB_shd {n : ByteArray} (h : nameB n = true) (h2 : n.size ≤ 199) : nameB (shd n) = true := by
  unfold nameB at *
  simp only [Bool.and_eq_true, decide_eq_true_eq, Bool.not_eq_true'] at *
  have h1 := shd_size n
  refine ⟨⟨by omega, by omega⟩, ?_⟩
  unfold shd
  rw [ByteArray.data_append, Array.toList_append, List.contains_append, h.2]
  rfl
end Go.Dol
namespace Go.Proofs.Ytegolgkagdlocaa
open Go.RowKit Go.Dol
set_option linter.unusedVariables false
theorem newD_calm {cap : Int} (h1 : 0 ≤ cap) (h2 : cap ≤ 1099511627776) : CalmD (newD cap) :=
  ⟨⟨List.Pairwise.nil, h1, h2, h1, by simp [newD], by simp [newD], fun f hf => (List.not_mem_nil hf).elim⟩, rfl, rfl⟩
theorem made_bc (n : Nat) : (madeCells (Value.int .u8 0).cells (n * 1)).toList = bc (List.replicate n 0) := by
  rw [Nat.mul_one]
  unfold bc
  rw [List.map_replicate]
  apply List.ext_getElem
  · simp [madeCells]
  · intro i h1 h2
    simp [madeCells, Value.cells, Nat.mod_one]
/-- 'make([]byte, n)'. -/
theorem make8 {w : World} {ops : Array Oper} {rest : List Oper} {o : Oper} {a : Act} {Q : Exit → Act → World → Prop} (hgd : o.guard = none) (l c : Operand) (ho : o.op = .makeSlice 23 l c) (n : Nat) (L C : Int)
    (hl : a.eval l = .int .i64 L) (hc : a.eval c = .int .i64 C) (hL : L = (n : Nat)) (hC : C = (n : Nat)) (hn : n ≤ 140737488355328)
    (h : ∀ (z : List UInt8) (w' : World), Hid (z = List.replicate n 0) → w'.ownsRow w.heap.size 5 1 (.slice (some ⟨w.heap.size, 0, none⟩) z.length z.length) z.length (bc z) → Below w.heap.size w w' →
      wpList Try.prog ops Q rest (a.put o.dst (.slice (some ⟨w.heap.size, 0, none⟩) z.length z.length)) w') : wpList Try.prog ops Q (o :: rest) a w := by
  obtain ⟨i0, hi, hz0, hz1, hz2⟩ := info_parts info_u8
  refine wpList_make_full w hgd l c _ ho w.heap.size _ i0 _ 1 Try.underlying23 hi hz0 hz1 .i64 .i64 L C n hl hc hL hC (by rw [hz2]; omega) (by unfold maxLen; omega) (Nat.le_refl _) ?_
  intro w' ho' hg
  rw [made_bc] at ho'
  have e : n = (List.replicate n (0 : UInt8)).length := by simp
  have hb : Below w.heap.size w w' := (Below.refl _ _).grown hg (Nat.le_refl _) (fun k hk => by cases hk)
  have := h (List.replicate n 0) w' rfl
  rw [← e] at this
  exact this ho' hb

set_option maxRecDepth 100000 in
set_option maxHeartbeats 1600000 in
theorem awake_calls (w : World) : Calls Try.prog 9 #[] w fun e w' => e = .returned (.bool true) ∧ Below w.heap.size w w' := by
  have hc0 : CalmD (newD 100) := newD_calm (by omega) (by omega)
  have hf0 : frD (newD 100) = 100 := by rw [hc0.free]; rfl
  obtain ⟨na, hna⟩ : ∃ na : ByteArray, na = ⟨#[97]⟩ := ⟨_, rfl⟩
  have hsz : na.size = 1 := by rw [hna]; rfl
  have hnb : nameB na = true := by rw [hna]; decide
  have hsh := nameB_shd hnb (by omega)
  have heT : endsT na = false := by rw [hna]; decide
  obtain ⟨nb, hnb2⟩ : ∃ nb : ByteArray, nb = ⟨#[97, 126]⟩ := ⟨_, rfl⟩
  have heT2 : endsT nb = true := by rw [hnb2]; decide
  have hsz2 : nb.size = 2 := by rw [hnb2]; rfl
  go_enter Try.func9, Try.ntmps9
  go_wp2_with fail
  refine (New_calls 100 w (by omega) (by omega)).mono ?_
  rintro e w1 ⟨g, m, rfl, hD1, hg1, hm1, hb1⟩
  go_wp2_with (refine make8 rfl _ _ rfl 80 80 80 rfl rfl rfl rfl (by omega) ?_)
  intro z w2 hz ho2 hb2
  have hD2 := hD1.below hb2
  have hzl : z.length = 80 := by rw [hz.out]; simp
  have hzf : Far w2 w.heap.size (some ⟨w1.heap.size, 0, none⟩) z := Far.of_seg (Seg.of_own ho2)
  have hcs := save_calm hc0 (n := na) (b := z) (fun _ => rfl)
  rw [hf0, hsz, hzl] at hcs
  have hbad : saveD (newD 100) na z ≠ (1, newD 100) := by
    unfold saveD
    rw [if_neg (by rw [hsh, heT, hsz]; simp), if_neg (by simp [newD]), if_neg (by simp [newD, lookF])]
    unfold tailD
    rw [hf0, hsz, hzl, if_neg (by decide)]
    obtain ⟨D', e, _⟩ := laid_ok hc0 (n := na) (b := z) hsh (by omega) rfl (by rw [hf0, hsz, hzl]; decide)
    rw [e]
    intro h
    injection h with h
    cases h
  obtain ⟨D', hsv, hlat, hlk, hls, hoth⟩ : ∃ D', saveD (newD 100) na z = (0, D') ∧ Later (newD 100) D' ((chunksOf z).length + 2) ∧ lookF D'.l na = some z ∧ lookF D'.l (shd na) = none ∧ (∀ x, x ≠ na → x ≠ shd na → lookF D'.l x = lookF (newD 100).l x) := by
    rcases hcs with h | h | h
    · exact absurd h hbad
    · omega
    · exact h.2.2.2
  have hdone : D'.done = 4 := by rw [hlat.done, chunksOf_len, hzl]; rfl
  have hw1 := hb1.size
  have hSv := Save_calls hD2 hc0.ok na (by omega) (some ⟨w1.heap.size, 0, none⟩) z z.length (by omega) w.heap.size hzf (Nat.le_refl _) (by unfold maxLen; omega) (by have := hb2.size; omega) hg1 hm1
  rw [hsv] at hSv
  have HSv := Lib.hid hSv
  have HZL := Lib.hid hzl
  have hzl80 : z.length ≤ 80 := by omega
  clear hSv hcs hbad hsv hzl hsz hsz2
  rw [hna] at HSv
  go_wp2_with fail
  refine HSv.out.mono ?_
  rintro e w3 ⟨rfl, hD3, ht3⟩
  have hb3 : Below w.heap.size w w3 := Tw.new (hb1.next hb2) ht3 hg1 hm1
  have hok := hlat.calm.ok
  have hRd := Read_calls hD3 hok.ord na (fun b => hok.small)
  have hrd : readD D' na = (z, 0) := by unfold readD; rw [if_neg (by rw [hnb]; decide), hlk]
  rw [hrd] at hRd
  have HRd := Lib.hid hRd
  rw [hna] at HRd
  clear hRd hrd
  go_wp2_with fail
  refine HRd.out.mono ?_
  rintro e w4 ⟨z2, A4, c4, he4, rfl, ho4, hb4⟩
  have hz2 : z2.length = 80 := by rw [he4.out]; exact HZL.out
  have hD4 := hD3.below hb4
  have HNd := Lib.hid (Need_calls ⟨#[97]⟩ 80 w4 (by decide) (by omega) (by omega))
  have hOp := Ops_calls hD4
  rw [hdone] at hOp
  have HOp := Lib.hid hOp
  have hS2 := Save_calls hD4 hok nb (by rw [hnb2]; decide) none [] 0 (by simp) 0 Far.nil (Nat.le_refl _) (by unfold maxLen; omega) (Nat.zero_le _) (Nat.zero_le _) (Nat.zero_le _)
  have e2 : saveD D' nb [] = (1, D') := if_pos (.inr (.inr heT2))
  rw [e2, hnb2] at hS2
  have HS2 := Lib.hid hS2
  have hop4 : (opsD 4 == 4) = true := by decide
  have hz3 : ((z2.length : Int) == 80) = true := by rw [hz2]; rfl
  have hz4 : (z2.length == 80) = true := by rw [hz2]; rfl
  clear hOp hS2 e2 hz2
  go_wp2_with (first
    | (go_at_call 14; refine HNd.out.mono ?_; rintro e w5 ⟨rfl, hw5⟩; obtain rfl := hw5.symm)
    | (go_at_call 17; refine HOp.out.mono ?_; rintro e w5 ⟨rfl, hw5⟩; obtain rfl := hw5.symm)
    | (go_at_call 13; refine HS2.out.mono ?_; rintro e w5 ⟨rfl, hD5, ht5⟩))
  go_ret
  exact ⟨rfl, Tw.new (hb3.next hb4) ht5 hg1 hm1⟩
end Go.Proofs.Ytegolgkagdlocaa
