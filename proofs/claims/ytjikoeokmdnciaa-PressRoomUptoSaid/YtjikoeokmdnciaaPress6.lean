/- The walks of the layer 'press', its sixth part: a copy that may not be. Conditions: lengths below 2^47. -/
import Derived.Test.YtjikoeokmdnciaaPress4
namespace Go.Proofs.Ytjikoeokmdnciaa
open Go.RowKit Go.Dol
set_option linter.unusedVariables false
attribute [local irreducible] wpStill

/-- What 'next' hands back, of whatever comes. -/
theorem next_any {w : World} {g d x : Nat} {vo vs : Value} {p : List UInt8} (hnx : (takeNum p = none ∧ d = 0 ∧ x = 2) ∨ ∃ q, takeNum p = some (d, q) ∧ x = 0) (e : Ending) (w' : World) (h : RetNext w g vo vs (.int .i64 0) (takeNum p) e w') :
    ∃ A n c, e = .returned (.int .i64 (d : Nat)) ∧ Blk w' g 53 [.slice A n c, vo, vs, .int .i64 (x : Nat)] ∧ w.grownBy w' (some g) := by
  rcases hnx with ⟨h1, rfl, rfl⟩ | ⟨q, h1, rfl⟩
  · rw [h1] at h
    exact ⟨none, 0, 0, h.1, h.2.1, h.2.2⟩
  · rw [h1] at h
    obtain ⟨q', A, c, _, h2, h3, _, h5, _⟩ := h
    exact ⟨A, _, c, h2, h3, h5⟩

set_option maxRecDepth 100000 in
set_option maxHeartbeats 4000000 in
theorem cbad0 (base g : Nat) (p o : List UInt8) (size n d x : Nat) (w : World) (h : OpnSt w base g p o size) (hnx : (takeNum p = none ∧ d = 0 ∧ x = 2) ∨ ∃ q, takeNum p = some (d, q) ∧ x = 0)  (h0 : ¬ n ≤ size - o.length) (ho : o.length ≤ size) (hs : size ≤ 70368744177664) (hp : p.length ≤ 140737488355328) (hd : d ≤ 4611686018427387903) (hn2 : n ≤ 4611686018427387903) (hg : base ≤ g) :
    Calls Try.prog 41 #[.pointer (some ⟨g, 0, none⟩), .int .i64 n] w fun e w' => e = .returned (.tuple #[]) ∧ OpnBad w' g size ∧ w.grownBy w' (some g) := by
  obtain ⟨Ap, Ao, cp, co, hblk, hseg, hown, hap⟩ := h
  have hpc := hseg.2.1
  go_enter Try.func41, Try.ntmps41
  go_wp2_with fail
  refine ((next_calls g Ap p cp _ _ _ w hblk hseg.rd hp hpc).mono (next_any hnx)).mono ?_
  rintro e w1 ⟨A1, n1, c1, rfl, hblk1, hg1⟩
  have k1 : w1.cell? ⟨g, 1, none⟩ = some (.slice Ao o.length co) := by rw [hblk1.cell]; rfl
  have k2 : w1.cell? ⟨g, 2, none⟩ = some (.int .i64 size) := by rw [hblk1.cell]; rfl
  have f1 : IntKind.i64.wrap ((size : Int) - (o.length : Int)) = (size : Int) - (o.length : Int) := IntWalk.i64_in _ (by omega)
  have d0 : decide ((n : Int) ≤ (size : Int) - (o.length : Int)) = false := by simp; omega
  have d0' : (size : Int) - (o.length : Int) < (n : Int) := by omega
  clear h0
  clear hnx hseg hown hap hblk
  go_wp2_with fail
  go_still_tail 34, (by kernel_rfl)
  change wpList _ _ _ _ _ (World.drew w1)
  go_wp2_with fail
  refine (want_no g _ _ _ _ (World.drew w1) hblk1.drew).mono ?_
  rintro e w2 ⟨rfl, hb2, hg2⟩
  go_wp2_with fail
  go_end0
  exact ⟨rfl, ⟨A1, Ao, n1, c1, o.length, co, hb2⟩, grown_step (grown_drew hg1) hg2⟩

set_option maxRecDepth 100000 in
set_option maxHeartbeats 4000000 in
theorem cbad1 (base g : Nat) (p o : List UInt8) (size n d x : Nat) (w : World) (h : OpnSt w base g p o size) (hnx : (takeNum p = none ∧ d = 0 ∧ x = 2) ∨ ∃ q, takeNum p = some (d, q) ∧ x = 0) (h0 : n ≤ size - o.length) (h1 : ¬ n ≤ 259) (ho : o.length ≤ size) (hs : size ≤ 70368744177664) (hp : p.length ≤ 140737488355328) (hd : d ≤ 4611686018427387903) (hn2 : n ≤ 4611686018427387903) (hg : base ≤ g) :
    Calls Try.prog 41 #[.pointer (some ⟨g, 0, none⟩), .int .i64 n] w fun e w' => e = .returned (.tuple #[]) ∧ OpnBad w' g size ∧ w.grownBy w' (some g) := by
  obtain ⟨Ap, Ao, cp, co, hblk, hseg, hown, hap⟩ := h
  have hpc := hseg.2.1
  go_enter Try.func41, Try.ntmps41
  go_wp2_with fail
  refine ((next_calls g Ap p cp _ _ _ w hblk hseg.rd hp hpc).mono (next_any hnx)).mono ?_
  rintro e w1 ⟨A1, n1, c1, rfl, hblk1, hg1⟩
  have k1 : w1.cell? ⟨g, 1, none⟩ = some (.slice Ao o.length co) := by rw [hblk1.cell]; rfl
  have k2 : w1.cell? ⟨g, 2, none⟩ = some (.int .i64 size) := by rw [hblk1.cell]; rfl
  have f1 : IntKind.i64.wrap ((size : Int) - (o.length : Int)) = (size : Int) - (o.length : Int) := IntWalk.i64_in _ (by omega)
  have d0 : (n : Int) ≤ (size : Int) - (o.length : Int) := by omega
  have d1 : decide ((n : Int) ≤ 259) = false := by simp; omega
  have d1' : 259 < (n : Int) := by omega
  clear h1
  clear hnx hseg hown hap hblk
  go_wp2_with fail
  go_still_tail 34, (by kernel_rfl)
  change wpList _ _ _ _ _ (World.drew w1)
  go_wp2_with fail
  refine (want_no g _ _ _ _ (World.drew w1) hblk1.drew).mono ?_
  rintro e w2 ⟨rfl, hb2, hg2⟩
  go_wp2_with fail
  go_end0
  exact ⟨rfl, ⟨A1, Ao, n1, c1, o.length, co, hb2⟩, grown_step (grown_drew hg1) hg2⟩

set_option maxRecDepth 100000 in
set_option maxHeartbeats 4000000 in
theorem cbad2 (base g : Nat) (p o : List UInt8) (size n d x : Nat) (w : World) (h : OpnSt w base g p o size) (hnx : (takeNum p = none ∧ d = 0 ∧ x = 2) ∨ ∃ q, takeNum p = some (d, q) ∧ x = 0) (h0 : n ≤ size - o.length) (h1 : n ≤ 259) (h2 : ¬ 1 ≤ d) (ho : o.length ≤ size) (hs : size ≤ 70368744177664) (hp : p.length ≤ 140737488355328) (hd : d ≤ 4611686018427387903) (hn2 : n ≤ 4611686018427387903) (hg : base ≤ g) :
    Calls Try.prog 41 #[.pointer (some ⟨g, 0, none⟩), .int .i64 n] w fun e w' => e = .returned (.tuple #[]) ∧ OpnBad w' g size ∧ w.grownBy w' (some g) := by
  obtain ⟨Ap, Ao, cp, co, hblk, hseg, hown, hap⟩ := h
  have hpc := hseg.2.1
  go_enter Try.func41, Try.ntmps41
  go_wp2_with fail
  refine ((next_calls g Ap p cp _ _ _ w hblk hseg.rd hp hpc).mono (next_any hnx)).mono ?_
  rintro e w1 ⟨A1, n1, c1, rfl, hblk1, hg1⟩
  have k1 : w1.cell? ⟨g, 1, none⟩ = some (.slice Ao o.length co) := by rw [hblk1.cell]; rfl
  have k2 : w1.cell? ⟨g, 2, none⟩ = some (.int .i64 size) := by rw [hblk1.cell]; rfl
  have f1 : IntKind.i64.wrap ((size : Int) - (o.length : Int)) = (size : Int) - (o.length : Int) := IntWalk.i64_in _ (by omega)
  have d0 : (n : Int) ≤ (size : Int) - (o.length : Int) := by omega
  have d1 : (n : Int) ≤ 259 := by omega
  have d2 : decide ((1 : Int) ≤ (d : Int)) = false := by simp; omega
  have d2' : (d : Int) < (1 : Int) := by omega
  clear h2
  clear hnx hseg hown hap hblk
  go_wp2_with fail
  go_still_tail 34, (by kernel_rfl)
  change wpList _ _ _ _ _ (World.drew w1)
  go_wp2_with fail
  refine (want_no g _ _ _ _ (World.drew w1) hblk1.drew).mono ?_
  rintro e w2 ⟨rfl, hb2, hg2⟩
  go_wp2_with fail
  go_end0
  exact ⟨rfl, ⟨A1, Ao, n1, c1, o.length, co, hb2⟩, grown_step (grown_drew hg1) hg2⟩

set_option maxRecDepth 100000 in
set_option maxHeartbeats 4000000 in
theorem cbad3 (base g : Nat) (p o : List UInt8) (size n d x : Nat) (w : World) (h : OpnSt w base g p o size) (hnx : (takeNum p = none ∧ d = 0 ∧ x = 2) ∨ ∃ q, takeNum p = some (d, q) ∧ x = 0) (h0 : n ≤ size - o.length) (h1 : n ≤ 259) (h2 : 1 ≤ d) (h3 : ¬ d ≤ o.length) (ho : o.length ≤ size) (hs : size ≤ 70368744177664) (hp : p.length ≤ 140737488355328) (hd : d ≤ 4611686018427387903) (hn2 : n ≤ 4611686018427387903) (hg : base ≤ g) :
    Calls Try.prog 41 #[.pointer (some ⟨g, 0, none⟩), .int .i64 n] w fun e w' => e = .returned (.tuple #[]) ∧ OpnBad w' g size ∧ w.grownBy w' (some g) := by
  obtain ⟨Ap, Ao, cp, co, hblk, hseg, hown, hap⟩ := h
  have hpc := hseg.2.1
  go_enter Try.func41, Try.ntmps41
  go_wp2_with fail
  refine ((next_calls g Ap p cp _ _ _ w hblk hseg.rd hp hpc).mono (next_any hnx)).mono ?_
  rintro e w1 ⟨A1, n1, c1, rfl, hblk1, hg1⟩
  have k1 : w1.cell? ⟨g, 1, none⟩ = some (.slice Ao o.length co) := by rw [hblk1.cell]; rfl
  have k2 : w1.cell? ⟨g, 2, none⟩ = some (.int .i64 size) := by rw [hblk1.cell]; rfl
  have f1 : IntKind.i64.wrap ((size : Int) - (o.length : Int)) = (size : Int) - (o.length : Int) := IntWalk.i64_in _ (by omega)
  have d0 : (n : Int) ≤ (size : Int) - (o.length : Int) := by omega
  have d1 : (n : Int) ≤ 259 := by omega
  have d2 : (1 : Int) ≤ (d : Int) := by omega
  have d3 : decide (d ≤ o.length) = false := by simp; omega
  have d3' : (o.length : Int) < (d : Int) := by omega
  clear h3
  clear hnx hseg hown hap hblk
  go_wp2_with fail
  go_still_tail 34, (by kernel_rfl)
  change wpList _ _ _ _ _ (World.drew w1)
  go_wp2_with fail
  refine (want_no g _ _ _ _ (World.drew w1) hblk1.drew).mono ?_
  rintro e w2 ⟨rfl, hb2, hg2⟩
  go_wp2_with fail
  go_end0
  exact ⟨rfl, ⟨A1, Ao, n1, c1, o.length, co, hb2⟩, grown_step (grown_drew hg1) hg2⟩

set_option maxRecDepth 100000 in
set_option maxHeartbeats 4000000 in
theorem cbad4 (base g : Nat) (p o : List UInt8) (size n d x : Nat) (w : World) (h : OpnSt w base g p o size) (hnx : (takeNum p = none ∧ d = 0 ∧ x = 2) ∨ ∃ q, takeNum p = some (d, q) ∧ x = 0) (h0 : n ≤ size - o.length) (h1 : n ≤ 259) (h2 : 1 ≤ d) (h3 : d ≤ o.length) (h4 : ¬ d ≤ 4096) (ho : o.length ≤ size) (hs : size ≤ 70368744177664) (hp : p.length ≤ 140737488355328) (hd : d ≤ 4611686018427387903) (hn2 : n ≤ 4611686018427387903) (hg : base ≤ g) :
    Calls Try.prog 41 #[.pointer (some ⟨g, 0, none⟩), .int .i64 n] w fun e w' => e = .returned (.tuple #[]) ∧ OpnBad w' g size ∧ w.grownBy w' (some g) := by
  obtain ⟨Ap, Ao, cp, co, hblk, hseg, hown, hap⟩ := h
  have hpc := hseg.2.1
  go_enter Try.func41, Try.ntmps41
  go_wp2_with fail
  refine ((next_calls g Ap p cp _ _ _ w hblk hseg.rd hp hpc).mono (next_any hnx)).mono ?_
  rintro e w1 ⟨A1, n1, c1, rfl, hblk1, hg1⟩
  have k1 : w1.cell? ⟨g, 1, none⟩ = some (.slice Ao o.length co) := by rw [hblk1.cell]; rfl
  have k2 : w1.cell? ⟨g, 2, none⟩ = some (.int .i64 size) := by rw [hblk1.cell]; rfl
  have f1 : IntKind.i64.wrap ((size : Int) - (o.length : Int)) = (size : Int) - (o.length : Int) := IntWalk.i64_in _ (by omega)
  have d0 : (n : Int) ≤ (size : Int) - (o.length : Int) := by omega
  have d1 : (n : Int) ≤ 259 := by omega
  have d2 : (1 : Int) ≤ (d : Int) := by omega
  have d3 : (d : Int) ≤ (o.length : Int) := by omega
  have d4 : decide ((d : Int) ≤ 4096) = false := by simp; omega
  have d4' : 4096 < (d : Int) := by omega
  clear h4
  clear hnx hseg hown hap hblk
  go_wp2_with fail
  go_still_tail 34, (by kernel_rfl)
  change wpList _ _ _ _ _ (World.drew w1)
  go_wp2_with fail
  refine (want_no g _ _ _ _ (World.drew w1) hblk1.drew).mono ?_
  rintro e w2 ⟨rfl, hb2, hg2⟩
  go_wp2_with fail
  go_end0
  exact ⟨rfl, ⟨A1, Ao, n1, c1, o.length, co, hb2⟩, grown_step (grown_drew hg1) hg2⟩

theorem copied_bad (base g : Nat) (p o : List UInt8) (size n d x : Nat) (w : World) (h : OpnSt w base g p o size) (hnx : (takeNum p = none ∧ d = 0 ∧ x = 2) ∨ ∃ q, takeNum p = some (d, q) ∧ x = 0) (hb : ¬ (n ≤ size - o.length ∧ n ≤ 259 ∧ 1 ≤ d ∧ d ≤ o.length ∧ d ≤ 4096)) (ho : o.length ≤ size) (hs : size ≤ 70368744177664) (hp : p.length ≤ 140737488355328) (hd : d ≤ 4611686018427387903) (hn2 : n ≤ 4611686018427387903) (hg : base ≤ g) :
    Calls Try.prog 41 #[.pointer (some ⟨g, 0, none⟩), .int .i64 n] w fun e w' => e = .returned (.tuple #[]) ∧ OpnBad w' g size ∧ w.grownBy w' (some g) := by
  by_cases h0 : n ≤ size - o.length
  · by_cases h1 : n ≤ 259
    · by_cases h2 : 1 ≤ d
      · by_cases h3 : d ≤ o.length
        · by_cases h4 : d ≤ 4096
          · exact absurd ⟨h0, h1, h2, h3, h4⟩ hb
          · exact cbad4 base g p o size n d x w h hnx h0 h1 h2 h3 h4 ho hs hp hd hn2 hg
        · exact cbad3 base g p o size n d x w h hnx h0 h1 h2 h3 ho hs hp hd hn2 hg
      · exact cbad2 base g p o size n d x w h hnx h0 h1 h2 ho hs hp hd hn2 hg
    · exact cbad1 base g p o size n d x w h hnx h0 h1 ho hs hp hd hn2 hg
  · exact cbad0 base g p o size n d x w h hnx h0 ho hs hp hd hn2 hg
end Go.Proofs.Ytjikoeokmdnciaa
