/- The walks of the document's 'disk', its second part: how its disk lies, where a name stands, what is free. Conditions: lengths below 2^47. -/
import Derived.Test.YtogjlfpoedeooaaRd1
import Derived.Test.YtogjlfpoedeooaaAppV
namespace Go.Proofs.Ytogjlfpoedeooaa
open Go.RowKit Go.Dol
set_option linter.unusedVariables false
/-- The cells of the document's disk. -/
def rcells (cap : Int) (A : Option Addr) (n c : Nat) (done : Nat) (left : Int) (dark : Bool) : List Value := [.int .i64 cap, .slice A n c, .int .i64 (opsD done), .int .i64 left, .bool dark]
/-- The document's disk at block g. -/
def Rdk (w : World) (g : Nat) (D : Dk) : Prop :=
  ∃ (fs : List FilA) (A : Option Addr) (c : Nat), Blk w g 63 (rcells D.cap A fs.length c D.done D.left D.dark) ∧ w.ownsRow 0 82 2 (.slice A fs.length c) fs.length (fc fs) ∧ Fls8 w 0 fs ∧ Hid (fs.map FilA.f = D.l)
section
variable {w w' : World} {g : Nat} {D : Dk}
theorem Rdk.lt (h : Rdk w g D) : g < w.heap.size := by
  obtain ⟨fs, A, c, hB, _⟩ := h
  exact hB.lt
theorem Rdk.below (h : Rdk w g D) (hb : Below w.heap.size w w') : Rdk w' g D := by
  obtain ⟨fs, A, c, hB, hO, hF, hL⟩ := h
  exact ⟨fs, A, c, hB.below hb hB.lt, own_belowW hO hb, hF.below hb, hL⟩
theorem Rdk.drew (h : Rdk w g D) : Rdk w.drew g D := h.below ⟨rfl, rfl, rfl, Nat.le_refl _, fun _ _ => rfl⟩
theorem Rdk.drewN (h : Rdk w g D) (k : Nat) : Rdk (w.drewN k) g D := h.below ⟨rfl, rfl, rfl, Nat.le_refl _, fun _ _ => rfl⟩
/-- What is read of it. -/
theorem Rdk.row (h : Rdk w g D) : ∃ (fs : List FilA) (A : Option Addr) (c : Nat), w.cell? ⟨g, 0, none⟩ = some (.int .i64 D.cap) ∧ w.cell? ⟨g, 1, none⟩ = some (.slice A fs.length c) ∧ w.cell? ⟨g, 2, none⟩ = some (.int .i64 (opsD D.done)) ∧ w.cell? ⟨g, 3, none⟩ = some (.int .i64 D.left) ∧ w.cell? ⟨g, 4, none⟩ = some (.bool D.dark) ∧
    Rd w w.heap.size 2 A fs.length (fc fs) ∧ fs.length ≤ c ∧ c ≤ maxLen ∧ Fls8 w 0 fs ∧ Hid (fs.map FilA.f = D.l) := by
  obtain ⟨fs, A, c, hB, hO, hF, hL⟩ := h
  obtain ⟨h1, h2⟩ := own_le hO
  exact ⟨fs, A, c, by rw [hB.cell]; rfl, by rw [hB.cell]; rfl, by rw [hB.cell]; rfl, by rw [hB.cell]; rfl, by rw [hB.cell]; rfl, Rd.of_own hO, h1, h2, hF, hL⟩

theorem map_get {fs : List FilA} {l : List Fil} (h : fs.map FilA.f = l) {k : Nat} {x : FilA} (hx : fs[k]? = some x) : l[k]? = some (x.n, x.b) := by
  rw [← h, List.getElem?_map, hx]
  rfl
def FdRel (l : List Fil) (n : ByteArray) (w : World) (i : Value) (wr : World) : Prop := w = wr ∧ ∃ k : Nat, i = .int .i64 k ∧ k ≤ l.length ∧ Hid (∀ j, j < k → ∃ f, l[j]? = some f ∧ sLt f.1 n = true)
set_option maxRecDepth 100000 in
set_option maxHeartbeats 2000000 in
theorem find_calls (h : Rdk w g D) (n : ByteArray) (hl : D.l.length ≤ 140737488355328) :
    Calls Try.prog 79 #[.pointer (some ⟨g, 0, none⟩), .string n] w fun e w' => ∃ nq, e = .returned (.tuple #[.int .i64 (findF D.l n : Nat), .bool (lookF D.l n).isSome]) ∧ w' = w.drewN nq := by
  obtain ⟨fs, A, c, k0, k1, k2, k3, k4, hr, hc, hcm, hF, hL⟩ := h.row
  have hlen : D.l.length = fs.length := by rw [← hL.out, List.length_map]
  have HLen := Lib.hid hlen
  have hfl : fs.length ≤ 140737488355328 := by omega
  have hle1 : D.l.length ≤ fs.length := by omega
  have hle2 : fs.length ≤ D.l.length := by omega
  clear hlen
  go_enter Try.func79, Try.ntmps79
  go_wp2_with fail
  go_loopw [6] (fun i wr => FdRel D.l n w i wr) (fun i _ => fs.length - (intOf i).toNat)
  case atStart => exact ⟨rfl, 0, rfl, Nat.zero_le _, Lib.hid (fun j h => by omega)⟩
  case round =>
    obtain ⟨rfl, k, rfl, hk, hb⟩ := hrel
    by_cases h1 : k < fs.length
    · have d1 : decide ((k : Int) < (fs.length : Int)) = true := decide_eq_true (by omega)
      have d1' : (k : Int) < (fs.length : Int) := by omega
      have hk0 : (0 : Int) ≤ (k : Int) := by omega
      obtain ⟨x, hx⟩ : ∃ x, fs[k]? = some x := ⟨fs[k], List.getElem?_eq_getElem h1⟩
      have hx1 := map_get hL.out hx
      obtain ⟨x1, x2⟩ := fc_get hx
      obtain ⟨bb, off, rfl, hbb, hcell⟩ := hr.at_ (by omega)
      have q0 : w.cell? ⟨bb, off + k * 2, none⟩ = _ := hcell _ _ x1
      obtain ⟨xn, xb, xA, xc⟩ := x
      simp only at q0 hx1
      have HX := Lib.hid hx1
      clear x1 x2 hx hx1 hcell
      cases hs : sLt xn n with
      | true =>
        have g2 : Op.bytesLess xn.toList n.toList = true := by rw [less_sLt]; exact hs
        have f2 : IntKind.i64.wrap ((k : Int) + 1) = (k : Int) + 1 := IntWalk.i64_in _ (by omega)
        have HS := Lib.hid hs
        clear hs
        go_wp2_with fail
        refine ⟨⟨rfl, k + 1, by go_num, by omega, Lib.hid fun j hj => ?_⟩, by simp [intOf]; omega⟩
        by_cases e : j = k
        · rw [e]
          exact ⟨_, HX.out, HS.out⟩
        · exact hb.out j (by omega)
      | false =>
        have g2 : Op.bytesLess xn.toList n.toList = false := by rw [less_sLt]; exact hs
        have hfd : findF D.l n = k := find_is hk hb.out (fun f hf => by rw [HX.out] at hf; injection hf with hf; rw [← hf]; exact hs)
        have HFd := Lib.hid hfd
        have hlk : lookF D.l n = if xn = n then some xb else none := by rw [look_at, hfd, HX.out]
        by_cases hq : xn = n
        · have g3 := str_eq_b'' hq
          have HLk : Hid (lookF D.l n = some xb) := by unfold Hid; rw [hlk, if_pos hq]
          clear hs hq hlk hfd
          go_wp2_with fail
          go_quiet (fail)
          go_wp2_with fail
          go_ret2
          rw [HFd.out, HLk.out]
          exact ⟨nq, rfl, rfl⟩
        · have g3 := str_ne_b'' hq
          have HLk : Hid (lookF D.l n = none) := by unfold Hid; rw [hlk, if_neg hq]
          clear hs hq hlk hfd
          go_wp2_with fail
          go_quiet (fail)
          go_wp2_with fail
          go_ret2
          rw [HFd.out, HLk.out]
          exact ⟨nq, rfl, rfl⟩
    · have d1 : decide ((k : Int) < (fs.length : Int)) = false := decide_eq_false (by omega)
      have d1n : decide (k < fs.length) = false := decide_eq_false h1
      have hkl : k = D.l.length := by omega
      have hfd : findF D.l n = k := find_is hk hb.out (fun f hf => by rw [List.getElem?_eq_none (by omega)] at hf; cases hf)
      have HFd := Lib.hid hfd
      have HLk : Hid (lookF D.l n = none) := by unfold Hid; rw [look_at, hfd, List.getElem?_eq_none (by omega)]
      clear hkl hfd
      go_wp2_with fail
      go_quiet (fail)
      go_wp2_with fail
      go_ret2
      rw [HFd.out, HLk.out]
      exact ⟨nq, rfl, rfl⟩

set_option maxRecDepth 100000 in
set_option maxHeartbeats 800000 in
theorem refHas_calls (h : Rdk w g D) (n : ByteArray) (hl : D.l.length ≤ 140737488355328) :
    Calls Try.prog 57 #[.pointer (some ⟨g, 0, none⟩), .string n] w fun e w' => ∃ nq, e = .returned (.bool (lookF D.l n).isSome) ∧ w' = w.drewN nq := by
  have HF := Lib.hid (find_calls h n hl)
  go_enter Try.func57, Try.ntmps57
  go_wp2_with ((go_at_call 79; refine HF.out.mono ?_; rintro e w' ⟨nq, rfl, rfl⟩))
  go_ret
  exact ⟨nq, rfl, rfl⟩

set_option maxRecDepth 100000 in
set_option maxHeartbeats 800000 in
theorem refNew_calls (cap : Int) (w : World) (h1 : 0 ≤ cap) (h2 : cap ≤ 1099511627776) :
    Calls Try.prog 38 #[.int .i64 cap] w fun e w' => ∃ g, e = .returned (.tuple #[.pointer (some ⟨g, 0, none⟩), .int .i64 0]) ∧ Rdk w' g ⟨cap, [], 0, -1, false⟩ ∧ w.heap.size ≤ g ∧ Below w.heap.size w w' := by
  have d1 : decide (cap < 0) = false := decide_eq_false (by omega)
  have d2 : decide (cap > 1099511627776) = false := decide_eq_false (by omega)
  have d2' : decide (1099511627776 < cap) = false := decide_eq_false (by omega)
  go_enter Try.func38, Try.ntmps38
  go_wp2_with fail
  go_ret2
  have h := Blk.new w 63 (rcells cap none 0 0 0 (-1) false)
  refine ⟨w.heap.size, rfl, ⟨[], none, 0, h, World.ownsRow_nil _ _ _ _, fun x hx => (List.not_mem_nil hx).elim, rfl⟩, Nat.le_refl _, (Below.refl _ _).alloc (Nat.le_refl _) _⟩
set_option maxRecDepth 100000 in
set_option maxHeartbeats 800000 in
theorem refNewNo_calls (cap : Int) (w : World) (h : cap < 0 ∨ 1099511627776 < cap) :
    Calls Try.prog 38 #[.int .i64 cap] w fun e w' => e = .returned (.tuple #[.pointer none, .int .i64 1]) ∧ w' = w := by
  rcases h with h | h
  · have d1 : decide (cap < 0) = true := decide_eq_true (by omega)
    go_enter Try.func38, Try.ntmps38
    go_wp2_with fail
    go_ret2
    exact ⟨rfl, rfl⟩
  · have d1 : decide (cap < 0) = false := decide_eq_false (by omega)
    have d2 : decide (cap > 1099511627776) = true := decide_eq_true (by omega)
    have d2' : decide (1099511627776 < cap) = true := decide_eq_true (by omega)
    go_enter Try.func38, Try.ntmps38
    go_wp2_with fail
    go_ret2
    exact ⟨rfl, rfl⟩
end
end Go.Proofs.Ytogjlfpoedeooaa
