/- The walks of the program's stack of texts: push, pop. Conditions: lengths below 2^40. -/
import Derived.Test.YteeajmgiamdfdaaNd
import Derived.Test.YteeajmgiamdfdaaSeg2
import Derived.StillTailTactics
namespace Go.Proofs.Yteeajmgiamdfdaa
open Go.RowKit Go.Dol
set_option linter.unusedVariables false
theorem info_string : (Try.prog.info? 9).map (fun i => (i.zero, i.size, i.bytes)) = some (some (.string ⟨#[]⟩), 1, 16) := by kernel_rfl
/-- A row that is owned, but for its last element. -/
theorem own_init {w : World} {base : Nat} {e : TypeId} {A : Option Addr} {c n : Nat} {xs : List Value} {y : Value} (h : w.ownsRow base e 1 (.slice A (n + 1 : Nat) c) (n + 1) (xs ++ [y])) (hx : xs.length = n) : w.ownsRow base e 1 (.slice A n c) n xs := by
  obtain ⟨h0, h1⟩ := h
  refine ⟨by omega, ?_⟩
  rcases h1 with ⟨h1, h2⟩ | ⟨g, cap, cur, h1, h2, h3, h4, h5, h6, h7⟩
  · injection h1 with _ h1
    omega
  · injection h1 with hA _ hc
    refine .inr ⟨g, cap, cur, by rw [hA, hc], h2, h3, by omega, h5, h6, ?_⟩
    have h8 : cur.toList.take (n * 1) = (cur.toList.take ((n + 1) * 1)).take n := by rw [List.take_take]; congr 1; omega
    rw [h8, h7, ← hx, List.take_left']
    rfl
/-- What stays as it was but the stack and its row. -/
structure StkKeep (w w' : World) (base sb : Nat) (v : Value) : Prop where
  os : w'.os = w.os
  below : Below base w w'
  block : ∀ i, i < w.heap.size → i ≠ sb → v.ownBlock ≠ some i → w'.heap[i]? = w.heap[i]?
/-- A stack of texts, of the call's own. -/
def Stk (w : World) (base sb : Nat) (A : Option Addr) (c : Nat) (l : List ByteArray) : Prop :=
  base ≤ sb ∧ Blk w sb 70 [.slice A l.length c] ∧ w.ownsRow base 9 1 (.slice A l.length c) l.length (pc l)
set_option maxRecDepth 100000 in
set_option maxHeartbeats 1600000 in
theorem push_calls (w : World) (base sb : Nat) (A : Option Addr) (c : Nat) (l : List ByteArray) (h : Stk w base sb A c l) (A2 : Option Addr) (m : List ByteArray) (c2 B : Nat) (hr : Rd w B 1 A2 m.length (pc m)) (hl : l.length + m.length ≤ 1099511627776) (hbase : base ≤ w.heap.size) :
    Calls Try.prog 41 #[.pointer (some ⟨sb, 0, none⟩), .slice A2 m.length c2] w fun e w' => e = .returned (.tuple #[]) ∧ (∃ A' c', Stk w' base sb A' c' (l ++ m)) ∧ StkKeep w w' base sb (.slice A l.length c) := by
  obtain ⟨hb, hB, ho⟩ := h
  have k0 : w.cell? ⟨sb, 0, none⟩ = some (.slice A l.length c) := by rw [hB.cell]; rfl
  go_enter Try.func41, Try.ntmps41
  have hne : (Value.slice A l.length c).ownBlock ≠ some sb := own_ne ho hB (by decide)
  go_wp2_with (at_builtin; go_loud (refine appVl rfl (.tmp 8) (.tmp 9) 26 9 _ 16 rfl Try.underlying26 info_string rfl base _ l.length (pc l) rfl ho B _ m.length c2 (pc m) rfl hr (pc_one _) (by unfold maxLen; omega) (by omega) hbase ?_; intro A' c' w1 z1 z2 z3 z4 z5; have z3' : w.grownBy w1 (Value.slice A l.length c).ownBlock := z3; have hB1 := hB.grown z3' (fun e => hne e.symm); have k1 : w1.cell? ⟨sb, 0, none⟩ = some (.slice A l.length c) := (hB1.cell 0).trans rfl; have fz := hB1.free 0))
  have hlm : l.length + m.length = (l ++ m).length := by rw [List.length_append]
  rw [← pc_append, hlm] at z1
  rw [hlm]
  have hB2 := hB1.set 0 (.slice A' (l ++ m).length c')
  have g2 : w1.grownBy (w1.setCell ⟨sb, 0, none⟩ (.slice A' (l ++ m).length c')) (some sb) := grown_setCell (World.grownBy.refl w1 _) 0 _
  go_end0
  refine ⟨rfl, ⟨A', c', hb, hB2, own_other z1 hB1 (by decide) g2⟩, ⟨?_, ?_, fun i hi h1 h2 => ?_⟩⟩
  · exact g2.os.trans z3'.os
  · exact z2.grown g2 (Nat.le_trans hbase z3'.size) (fun k hk => by injection hk with hk; omega)
  · exact (g2.block i (Nat.lt_of_lt_of_le hi z3'.size) (fun e => h1 (by injection e))).trans (z3'.block i hi (fun e => h2 e.symm))
set_option maxRecDepth 100000 in
set_option maxHeartbeats 1600000 in
theorem pop_none (w : World) (base sb : Nat) (A : Option Addr) (c : Nat) (h : Stk w base sb A c []) :
    Calls Try.prog 42 #[.pointer (some ⟨sb, 0, none⟩)] w fun e w' => e = .returned (.tuple #[.string ⟨#[]⟩, .bool false]) ∧ w' = w := by
  obtain ⟨hb, hB, ho⟩ := h
  have k0 : w.cell? ⟨sb, 0, none⟩ = some (.slice A 0 c) := by rw [hB.cell]; rfl
  go_enter Try.func42, Try.ntmps42
  go_wp2_with fail
  go_ret2
  exact ⟨rfl, rfl⟩
set_option maxRecDepth 100000 in
set_option maxHeartbeats 1600000 in
theorem pop_calls (w : World) (base sb : Nat) (A : Option Addr) (c : Nat) (l : List ByteArray) (x : ByteArray) (h : Stk w base sb A c (l ++ [x])) (hl : l.length ≤ 1099511627776) (hbase : base ≤ w.heap.size) :
    Calls Try.prog 42 #[.pointer (some ⟨sb, 0, none⟩)] w fun e w' => e = .returned (.tuple #[.string x, .bool true]) ∧ Stk w' base sb A c l ∧ StkKeep w w' base sb (.slice A (l.length + 1) c) := by
  obtain ⟨hb, hB, ho⟩ := h
  have hlen : (l ++ [x]).length = l.length + 1 := by rw [List.length_append]; rfl
  rw [hlen] at hB ho
  have k0 : w.cell? ⟨sb, 0, none⟩ = some (.slice A (l.length + 1 : Nat) c) := by rw [hB.cell]; rfl
  have hr := Rd.of_own ho
  obtain ⟨bb, off, rfl, hbb, hcell⟩ := hr.at_ (by omega)
  have c1 : w.cell? ⟨bb, off + l.length, none⟩ = some (.string x) := hcell _ _ (by simp [pc])
  have f0 := hB.free 0
  have g1 : IntKind.i64.wrap (((l.length + 1 : Nat) : Int) - 1) = (l.length : Int) := by rw [IntWalk.i64_in _ (by omega)]; omega
  have d0 : (((l.length + 1 : Nat) : Int) == 0) = false := beq_eq_false_iff_ne.2 (by omega)
  have hcc : l.length + 1 ≤ c := by obtain ⟨A', c', he, hc1, _⟩ := own_form ho; injection he with _ _ he; omega
  go_enter Try.func42, Try.ntmps42
  go_wp2_with fail
  go_quiet (fail)
  go_wp2_with fail
  refine wp_region_still_tail 14 (by kernel_rfl) (by kernel_rfl) ?_
  obtain ⟨W, hW⟩ : ∃ W, W = World.drew (w.drewN nq) := ⟨_, rfl⟩
  change wpStill _ _ (World.drew (w.drewN nq)) (fun a' => wpList _ _ _ _ a' (World.drew (w.drewN nq))) _ _
  rw [← hW]
  have kW : W.cell? ⟨sb, 0, none⟩ = some (.slice (some ⟨bb, off, none⟩) (l.length + 1 : Nat) c) := by rw [hW]; exact k0
  have fW : W.frozen? ⟨sb, 0, none⟩ = false := by rw [hW]; exact f0
  have hci : ((l.length : Nat) : Int) ≤ (c : Int) := by omega
  have hli : (l.length : Int) ≤ ((l.length + 1 : Nat) : Int) := by omega
  have hl0 : (0 : Int) ≤ (l.length : Int) := by omega
  simp only [List.take_succ_cons, List.take_zero, List.drop_succ_cons, List.drop_zero]
  have g3 : IntKind.i64.wrap (l.length : Int) = (l.length : Int) := IntWalk.i64_in _ (by omega)
  repeat still_step
  refine wpStill_nil ?_
  go_wp2_with fail
  have hBn := (hB.drewN (nq + 1)).set 0 (.slice (some ⟨bb, off, none⟩) l.length c)
  have gn : w.grownBy ((w.drewN (nq + 1)).setCell ⟨sb, 0, none⟩ (.slice (some ⟨bb, off, none⟩) l.length c)) (some sb) := grown_setCell (grown_drewN (World.grownBy.refl w (some sb)) _) 0 _
  go_ret2
  refine ⟨rfl, ⟨hb, hBn, ?_⟩, ⟨gn.os, (Below.refl _ _).grown gn hbase (fun k hk => by injection hk with hk; omega), fun i hi h1 h2 => gn.block i hi (fun e => h1 (by injection e))⟩⟩
  refine own_init (y := .string x) (own_other ?_ hB (by decide) gn) (pc_length l)
  rw [pc_append] at ho
  exact ho
end Go.Proofs.Yteeajmgiamdfdaa
