/- The walks of the layer 'disk', its third part: may a file that is there be touched; reading; a new disk; the power. Conditions: lengths below 2^47. -/
import Derived.Test.YtegolgkagdlocaaDisk3
import Derived.Test.YtegolgkagdlocaaDisk4
namespace Go.Proofs.Ytegolgkagdlocaa
open Go.RowKit Go.Dol
set_option linter.unusedVariables false

theorem sc_one (ns : List ByteArray) : ∀ u ∈ sc ns, u.oneCell' = true := by
  intro u hu
  obtain ⟨_, _, rfl⟩ := List.mem_map.1 hu
  rfl
section
variable {w w' : World} {g m : Nat} {D : Dk}
theorem Dsk.own (h : Dsk w g m D) {base : Nat} {T : TypeId} {size : Nat} {v : Value} {n : Nat} {xs : List Value} (ho : w.ownsRow base T size v n xs) (h1 : 77 ≠ T) (h2 : T ≠ 5) (hg : w.grownBy w' v.ownBlock) : Dsk w' g m D := by
  obtain ⟨al, hB, hM, hF⟩ := h
  exact ⟨al, hB.grown hg (own_ne ho hB h1).symm, hM.grown hg (hM.own_ne ho).symm, hF.keep hg (Other.own ho h2 (Nat.zero_le _))⟩

set_option maxRecDepth 100000 in
set_option maxHeartbeats 800000 in
theorem there_calls (h : Dsk w g m D) (hO : InOrder D.l) (base : Nat) (Ao : Option Addr) (os : List ByteArray) (no co : Nat) (hno : no = os.length) (hos : os.length ≤ 4) (n : ByteArray) (ho : w.ownsRow base 9 1 (.slice Ao no co) no (sc os)) (hb : base ≤ w.heap.size) (hn : n.size ≤ maxLen) :
    Calls Try.prog 38 #[.pointer (some ⟨g, 0, none⟩), .string n, .slice Ao no co] w fun e w' => e = .returned (.int .i64 (thD D os n)) ∧ Below base w w' ∧ Dsk w' g m D := by
  subst hno
  obtain ⟨t, ht⟩ : ∃ t, t = thD D os n := ⟨_, rfl⟩
  rw [← ht]
  have hb1 : Below base w (w.alloc (.cells #[.string n] 9)) := (Below.refl _ _).alloc hb _
  have ho1 := ho.alloc (.cells #[.string n] 9)
  have hD1 := h.below ((Below.refl _ _).alloc (Nat.le_refl _) (.cells #[.string n] 9))
  have hr1 := Rd.new1 w 9 (.string n)
  have hs1 := hb1.size
  have hbs : base ≤ (w.alloc (.cells #[.string n] 9)).heap.size := by omega
  go_enter Try.func38, Try.ntmps38
  go_wp2_with (at_builtin; refine appVl rfl (.tmp 11) (.tmp 13) 89 9 _ 16 rfl Try.underlying89 info_st rfl base _ os.length (sc os) rfl ho1 _ _ 1 1 [.string n] rfl hr1 (by intro u hu; obtain rfl := List.mem_singleton.1 hu; rfl) (by unfold maxLen; omega) (by omega) hbs ?_)
  intro A2 c2 w2 ho2 hb2 hg2 h3 h4
  have hD2 := hD1.own ho1 (by decide) (by decide) hg2
  have hr2 := Rd.of_own ho2
  have e2 : sc os ++ [.string n] = sc (os ++ [n]) := by simp [sc]
  rw [e2] at hr2
  have hlen : os.length + 1 = (os ++ [n]).length := by simp
  have hb02 := hb1.trans hb2
  obtain ⟨k0, k1, k2, k3, k4, k5⟩ := hD2.cells
  obtain ⟨r, hr⟩ : ∃ r, r = rdD D (os ++ [n]) := ⟨_, rfl⟩
  have HR := Lib.hid hr
  have HL := Lib.hid hlen
  clear hr e2 hlen hr1 ho1 hD1 hb1 ho hb hb2 hg2
  by_cases hr0 : r = 0
  · have HT : Hid (t = if (lookF D.l n).isSome = true then 0 else 3) := by
      unfold Hid thD at *
      rw [ht, ← HR, hr0]
      simp
    clear ht
    rcases hD2.find hO n hn with ⟨hl, hf, _⟩ | ⟨b, A, c, hl, hF, hc, hcm, hf, _⟩
    · have HT2 : Hid (t = 3) := by unfold Hid at *; rw [HT, hl]; rfl
      have hf0 := hf w2 rfl
      clear hf HT
      go_wp2_with ((go_at_call 50; refine (ready_calls hD2 _ A2 (os ++ [n]) _ c2 HL.out hr2 (by simp; omega)).mono ?_; rw [← HR.out, hr0]; rintro e w' ⟨rfl, rfl⟩))
      go_ret
      rw [HT2.out]
      exact ⟨rfl, hb02, hD2⟩
    · have HT2 : Hid (t = 0) := by unfold Hid at *; rw [HT, hl]; rfl
      have hf0 := hf w2 rfl
      clear hf HT
      go_wp2_with ((go_at_call 50; refine (ready_calls hD2 _ A2 (os ++ [n]) _ c2 HL.out hr2 (by simp; omega)).mono ?_; rw [← HR.out, hr0]; rintro e w' ⟨rfl, rfl⟩))
      go_ret
      rw [HT2.out]
      exact ⟨rfl, hb02, hD2⟩
  · have HT : Hid (t = r) := by
      unfold Hid thD at *
      rw [ht, ← HR, if_pos hr0]
    have hq : (r == 0) = false := beq_eq_false_iff_ne.2 hr0
    clear ht hr0
    go_wp2_with ((go_at_call 50; refine (ready_calls hD2 _ A2 (os ++ [n]) _ c2 HL.out hr2 (by simp; omega)).mono ?_; rw [← HR.out]; rintro e w' ⟨rfl, rfl⟩))
    go_ret
    rw [HT.out]
    exact ⟨rfl, hb02, hD2⟩

/-- What a file's reading hands back. -/
def RetRead (w : World) (r : List UInt8 × Int) (e : Ending) (w' : World) : Prop :=
  ∃ (l' : List UInt8) (A : Option Addr) (c : Nat), Hid (l' = r.1) ∧ e = .returned (.tuple #[.slice A l'.length c, .int .i64 r.2]) ∧ w'.ownsRow w.heap.size 5 1 (.slice A l'.length c) l'.length (bc l') ∧ Below w.heap.size w w'

set_option maxRecDepth 100000 in
set_option maxHeartbeats 800000 in
theorem Read_calls (h : Dsk w g m D) (hO : InOrder D.l) (n : ByteArray) (hL : ∀ b, lookF D.l n = some b → b.length ≤ 140737488355328) :
    Calls Try.prog 15 #[.pointer (some ⟨g, 0, none⟩), .string n] w (RetRead w (readD D n)) := by
  have hb1 : Below w.heap.size w (w.alloc (.cells #[.string n] 9)) := (Below.refl _ _).alloc (Nat.le_refl _) _
  have hD1 := h.below hb1
  obtain ⟨k0, k1, k2, k3, k4, k5⟩ := hD1.cells
  have hr1 : Rd (w.alloc (.cells #[.string n] 9)) (w.heap.size + 1) 1 (some ⟨w.heap.size, 0, none⟩) [n].length (sc [n]) := Rd.new1 w 9 (.string n)
  cases hB : nameB n with
  | false =>
    have HF : Hid (readD D n = ([], 1)) := by unfold Hid readD; rw [if_pos hB]
    have HB : Hid ([n].all nameB = false) := by unfold Hid; simp [hB]
    clear hB hL
    go_enter Try.func15, Try.ntmps15
    go_wp2_with (first
      | (go_at_call 42; refine (made_calls h).mono ?_; rintro e w' ⟨rfl, rfl⟩)
      | (go_at_call 47; refine (named_calls _ _ [n] 1 _ hr1 (by simp)).mono ?_; rw [HB.out]; rintro e w' ⟨rfl, rfl⟩))
    go_ret2
    rw [HF.out]
    exact ⟨[], none, 0, rfl, rfl, World.ownsRow_nil _ _ _ _, hb1⟩
  | true =>
    have hn := nameB_size hB
    have HB : Hid ([n].all nameB = true) := by unfold Hid; simp [hB]
    rcases hD1.find hO n (by unfold maxLen; omega) with ⟨hl, hf, _⟩ | ⟨b, A, c, hl, hF, hc, hcm, hf, _⟩
    · have HF : Hid (readD D n = ([], 3)) := by unfold Hid readD; rw [if_neg (by rw [hB]; decide), hl.out]
      have hf0 := hf (w.alloc (.cells #[.string n] 9)) rfl
      clear hf hB hL
      go_enter Try.func15, Try.ntmps15
      go_wp2_with (first
        | (go_at_call 42; refine (made_calls h).mono ?_; rintro e w' ⟨rfl, rfl⟩)
        | (go_at_call 47; refine (named_calls _ _ [n] 1 _ hr1 (by simp)).mono ?_; rw [HB.out]; rintro e w' ⟨rfl, rfl⟩))
      go_ret2
      rw [HF.out]
      exact ⟨[], none, 0, rfl, rfl, World.ownsRow_nil _ _ _ _, hb1⟩
    · have HF : Hid (readD D n = (b, 0)) := by unfold Hid readD; rw [if_neg (by rw [hB]; decide), hl.out]
      have hb := hL b hl.out
      have hf0 := hf (w.alloc (.cells #[.string n] 9)) rfl
      clear hf hB hL
      go_enter Try.func15, Try.ntmps15
      go_wp2_with (first
        | (go_at_call 42; refine (made_calls h).mono ?_; rintro e w' ⟨rfl, rfl⟩)
        | (go_at_call 47; refine (named_calls _ _ [n] 1 _ hr1 (by simp)).mono ?_; rw [HB.out]; rintro e w' ⟨rfl, rfl⟩)
        | (go_at_call 48; refine (Clone_calls _ A b b.length c rfl _ hF.1 hb).mono ?_; rintro e w2 ⟨l', A', c', he, rfl, ho, hb2, _, _⟩))
      go_ret2
      rw [HF.out]
      exact ⟨l', A', c', he, rfl, ho.base (by simp), hb1.trans (hb2.mono (by simp))⟩

/-- A disk without files. -/
def newD (cap : Int) : Dk := ⟨cap, [], 0, -1, false⟩
set_option maxRecDepth 100000 in
set_option maxHeartbeats 800000 in
theorem New_calls (cap : Int) (w : World) (h1 : 0 ≤ cap) (h2 : cap ≤ 1099511627776) :
    Calls Try.prog 35 #[.int .i64 cap] w fun e w' => ∃ g m, e = .returned (.tuple #[.pointer (some ⟨g, 0, none⟩), .int .i64 0]) ∧ Dsk w' g m (newD cap) ∧ w.heap.size ≤ g ∧ w.heap.size ≤ m ∧ Below w.heap.size w w' := by
  have d1 : decide (cap < 0) = false := decide_eq_false (by omega)
  have d2 : decide (cap > 1099511627776) = false := decide_eq_false (by omega)
  have d2' : decide (1099511627776 < cap) = false := decide_eq_false (by omega)
  have hmm := @run_makeMap Try.prog
  go_enter Try.func35, Try.ntmps35
  go_wp2_with fail
  go_ret2
  have hb1 : Below w.heap.size w (w.alloc (.map #[] 0)) := (Below.refl _ _).alloc (Nat.le_refl _) _
  have hM := MapL.new (P := Try.prog) (k := 9) w
  have e1 : frD (newD cap) = cap := by
    show IntKind.i64.wrap (cap - 0) = cap
    rw [Int.sub_zero]
    exact IntWalk.i64_in _ (by omega)
  have h := Blk.new (w.alloc (.map #[] 0)) 77 (dcells cap w.heap.size (frD (newD cap)) 0 (-1) false)
  rw [e1] at h
  rw [World.size_alloc] at h
  refine ⟨w.heap.size + 1, w.heap.size, rfl, ⟨[], ?_, hM.alloc _, Fls.nil _⟩, Nat.le_succ _, Nat.le_refl _, hb1.alloc (by simp) _⟩
  rw [e1]
  exact h
set_option maxRecDepth 100000 in
set_option maxHeartbeats 800000 in
theorem NewNo_calls (cap : Int) (w : World) (h : cap < 0 ∨ 1099511627776 < cap) :
    Calls Try.prog 35 #[.int .i64 cap] w fun e w' => e = .returned (.tuple #[.pointer none, .int .i64 1]) ∧ w' = w := by
  rcases h with h | h
  · have d1 : decide (cap < 0) = true := decide_eq_true (by omega)
    go_enter Try.func35, Try.ntmps35
    go_wp2_with fail
    go_ret2
    exact ⟨rfl, rfl⟩
  · have d1 : decide (cap < 0) = false := decide_eq_false (by omega)
    have d2 : decide (cap > 1099511627776) = true := decide_eq_true (by omega)
    have d2' : decide (1099511627776 < cap) = true := decide_eq_true (by omega)
    go_enter Try.func35, Try.ntmps35
    go_wp2_with fail
    go_ret2
    exact ⟨rfl, rfl⟩

/-- What an operation on a disk leaves. -/
def RetOp (w : World) (g m : Nat) (r : Int × Dk) (e : Ending) (w' : World) : Prop := e = .returned (.int .i64 r.1) ∧ Dsk w' g m r.2 ∧ Tw w w' g m
theorem Dsk.turn (h : Dsk w g m D) {D' : Dk} (hl : D'.l = D.l) (hB' : Blk w' g 77 (dcells D'.cap m (frD D') D'.done D'.left D'.dark)) (hg : w.grownBy w' (some g)) : Dsk w' g m D' := by
  obtain ⟨al, hB, hM, hF⟩ := h
  refine ⟨al, hB', hM.grown hg (fun e => ?_), ?_⟩
  · injection e with e
    exact hM.blk_ne hB e.symm
  · rw [hl]
    exact hF.keep hg (Other.blk hB (by decide) (Nat.zero_le _))

set_option maxRecDepth 100000 in
set_option maxHeartbeats 800000 in
theorem Cut_calls (h : Dsk w g m D) (k : Int) : Calls Try.prog 27 #[.pointer (some ⟨g, 0, none⟩), .int .i64 k] w (RetOp w g m (cutD D k)) := by
  obtain ⟨k0, k1, k2, k3, k4, k5⟩ := h.cells
  have z4 := h.free 4
  by_cases hk : k < 0
  · have d1 : decide (k < 0) = true := decide_eq_true hk
    have HF : Hid (cutD D k = (1, D)) := if_pos hk
    clear hk
    go_enter Try.func27, Try.ntmps27
    go_wp2_with (go_at_call 42; refine (made_calls h).mono ?_; rintro e w' ⟨rfl, hw⟩; obtain rfl := hw.symm)
    go_ret
    rw [HF.out]
    exact ⟨rfl, h, Tw.refl _ _ _⟩
  · have d1 : decide (k < 0) = false := decide_eq_false hk
    cases hd : D.dark with
    | true =>
      have HF : Hid (cutD D k = (0, D)) := by unfold Hid cutD; rw [if_neg hk, if_pos hd]
      rw [hd] at k5
      clear hk
      go_enter Try.func27, Try.ntmps27
      go_wp2_with (go_at_call 42; refine (made_calls h).mono ?_; rintro e w' ⟨rfl, hw⟩; obtain rfl := hw.symm)
      go_ret
      rw [HF.out]
      exact ⟨rfl, h, Tw.refl _ _ _⟩
    | false =>
      have HF : Hid (cutD D k = (0, { D with left := k })) := by unfold Hid cutD; rw [if_neg hk, if_neg (by rw [hd]; decide)]
      rw [hd] at k5
      clear hk
      go_enter Try.func27, Try.ntmps27
      go_wp2_with (go_at_call 42; refine (made_calls h).mono ?_; rintro e w' ⟨rfl, hw⟩; obtain rfl := hw.symm)
      go_ret
      rw [HF.out]
      have hg : w.grownBy (w.setCell ⟨g, 4, none⟩ (.int .i64 k)) (some g) := grown_setCell (World.grownBy.refl w _) 4 _
      obtain ⟨al, hB, _⟩ := id h
      exact ⟨rfl, h.turn (D' := { D with left := k }) rfl (hB.set 4 _) hg, Tw.grown hg⟩

set_option maxRecDepth 100000 in
set_option maxHeartbeats 800000 in
theorem On_calls (h : Dsk w g m D) : Calls Try.prog 29 #[.pointer (some ⟨g, 0, none⟩)] w fun e w' => e = .returned (.tuple #[]) ∧ Dsk w' g m (onD D) ∧ Tw w w' g m := by
  obtain ⟨k0, k1, k2, k3, k4, k5⟩ := h.cells
  have z4 := h.free 4
  have z5 := h.free 5
  go_enter Try.func29, Try.ntmps29
  go_wp2_with (go_at_call 42; refine (made_calls h).mono ?_; rintro e w' ⟨rfl, hw⟩; obtain rfl := hw.symm)
  go_end0
  have hg : w.grownBy ((w.setCell ⟨g, 5, none⟩ (.bool false)).setCell ⟨g, 4, none⟩ (.int .i64 (-1))) (some g) := grown_setCell (grown_setCell (World.grownBy.refl w _) 5 _) 4 _
  obtain ⟨al, hB, _⟩ := id h
  exact ⟨rfl, h.turn (D' := onD D) rfl ((hB.set 5 _).set 4 _) hg, Tw.grown hg⟩
end
end Go.Proofs.Ytegolgkagdlocaa
