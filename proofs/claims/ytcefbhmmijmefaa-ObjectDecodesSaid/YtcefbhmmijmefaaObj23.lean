/- The walks of the document's 'object', its sixth part: Decode. Conditions: bytes of at most 2^47 - 4096. -/
import Derived.Test.YtcefbhmmijmefaaObj22
import Derived.Test.YtcefbhmmijmefaaObj21
import Derived.Test.YtcefbhmmijmefaaObj17
import Derived.Test.YtcefbhmmijmefaaRegB
namespace Go.Proofs.Ytcefbhmmijmefaa
open Go.RowKit Go.Dol
set_option linter.unusedVariables false

set_option maxHeartbeats 400000 in
theorem Same_no (A1 : Option Addr) (l : List UInt8) (c1 : Nat) (A2 : Option Addr) (l2 : List UInt8) (c2 : Nat) (w : World) (B1 B2 : Nat) (h1 : Rd w B1 1 A1 l.length (bc l)) (h2 : Rd w B2 1 A2 l2.length (bc l2)) (he : ¬ l = l2) :
    Calls Try.prog 15 #[.slice A1 l.length c1, .slice A2 l2.length c2] w fun e w' => e = .returned (.bool false) ∧ w = w' := by
  have g1 : (l == l2) = false := beq_eq_false_iff_ne.2 he
  clear he
  have v1 : (convert 22 9 (.slice A1 l.length c1)).run Try.prog w = .ok (.string ⟨l.toArray⟩) w := conv8f h1
  have v2 : (convert 22 9 (.slice A2 l2.length c2)).run Try.prog w = .ok (.string ⟨l2.toArray⟩) w := conv8f h2
  go_enter Try.func15, Try.ntmps15
  go_wp2_with fail
  go_ret
  exact ⟨rfl, rfl⟩
set_option maxRecDepth 100000 in
theorem refDecode0_calls (A : Option Addr) (c : Nat) (w : World) : Calls Try.prog 37 #[.slice A 0 c] w (RetDec w none) := by
  have hb1 : Below w.heap.size w (w.alloc (.cells #[.int .i64 0, .slice none 0 0, .slice none 0 0, .string ⟨#[]⟩, .slice none 0 0, .string ⟨#[]⟩, .string ⟨#[]⟩, .string ⟨#[]⟩, .int .i64 0, .string ⟨#[]⟩] 43)) := (Below.refl _ _).alloc (Nat.le_refl _) _
  have hB := Blk.new w 43 zcells
  go_enter Try.func37, Try.ntmps37
  go_wp2_with ((refine wpList_store_blk (by rfl) _ (.tmp 2) (.tmp 16) rfl w.heap.size zcells rfl rfl 43 zcells hB (by kernel_rfl) rfl (by decide) ?_; intro w6 hB6 hg6))
  have hl := Go.run_loadVar_row (P := Try.prog) w6 w.heap.size 43 43 zcells.toArray (0, 0) _ hB6 Try.underlying43 rfl (by kernel_rfl)
  refine bodyPost_ret (v := .tuple #[.agg zcells.toArray, .int .i64 2]) ?_ rfl ⟨rfl, hb1.grown hg6 hb1.size (fun k hk => by cases hk; exact Nat.le_refl _)⟩
  simp [results, Try.results37, asAddr, hl]

/-- The entries that were read, in the object that is being made. -/
def RTree (B g gx N : Nat) (l0 : List UInt8) (b0 : Bool) (L : Nat) (w : World) (i : Value) (wr : World) : Prop :=
  ∃ (k : Nat) (en : List Ent) (A : Option Addr) (c : Nat) (l : List UInt8) (b : Bool), i = .int .i64 k ∧ k ≤ N ∧ Blk wr gx 43 (ocells 2 (.slice none 0 0) (.slice A en.length c) ⟨#[]⟩ (.slice none 0 0) ⟨#[]⟩ ⟨#[]⟩ ⟨#[]⟩ 0 ⟨#[]⟩) ∧ wr.ownsRow B 56 3 (.slice A en.length c) en.length (ec en) ∧ Rr wr B g l b ∧
    Hid (Sofar takeEnt N l0 b0 en (N - k) l b) ∧ Below B w wr ∧ N ≤ 4611686018427387903 ∧ en.length ≤ L + 1 ∧ (b = false → en.length * 32 + l.length ≤ L) ∧ Hid (∀ e ∈ en, e.name.size ≤ maxLen)
def RCom (B g gx N : Nat) (t : ByteArray) (l0 : List UInt8) (b0 : Bool) (L : Nat) (w : World) (i : Value) (wr : World) : Prop :=
  ∃ (k : Nat) (pa : List ByteArray) (A : Option Addr) (c : Nat) (l : List UInt8) (b : Bool), i = .int .i64 k ∧ k ≤ N ∧ Blk wr gx 43 (ocells 3 (.slice none 0 0) (.slice none 0 0) t (.slice A pa.length c) ⟨#[]⟩ ⟨#[]⟩ ⟨#[]⟩ 0 ⟨#[]⟩) ∧ wr.ownsRow B 9 1 (.slice A pa.length c) pa.length (pc pa) ∧ Rr wr B g l b ∧
    Hid (Sofar takePar N l0 b0 pa (N - k) l b) ∧ Below B w wr ∧ N ≤ 4611686018427387903 ∧ pa.length ≤ L + 1 ∧ (b = false → pa.length * 32 + l.length ≤ L) ∧ Hid (∀ p ∈ pa, p.size ≤ 32)

set_option maxRecDepth 100000 in
set_option maxHeartbeats 8000000 in
theorem refDecode1_calls (A : Option Addr) (l : List UInt8) (n c : Nat) (w : World) (hn : n = l.length + 1) (hr : Rd w w.heap.size 1 A n (bc (1 :: l))) (hc : n ≤ c) (hcm : c ≤ maxLen) (hl : l.length ≤ 140737488351231) :
    Calls Try.prog 37 #[.slice A n c] w (RetDec w (decO geS (1 :: l))) := by
  have d0 : ((n : Int) == 0) = false := beq_eq_false_iff_ne.2 (by omega)
  have hn0 : (0 : Int) < (n : Int) := by omega
  obtain ⟨m, A', c', em, jm, jm', ⟨rm, km, km'⟩, _, _, _, sm⟩ := sl_from (k := 1) (l := 1 :: l) (c := c) 1 rfl (by rw [List.length_cons, ← hn]; exact hr) (by simp) (by simp; omega) hcm
  rw [List.length_cons, ← hn] at sm jm
  obtain ⟨gb, off, rfl, hgb, hcell⟩ := hr.at_ (by omega)
  have hml : m = l := by rw [em.out]; rfl
  have hb1 : Below w.heap.size w (w.alloc (.cells #[.int .i64 0, .slice none 0 0, .slice none 0 0, .string ⟨#[]⟩, .slice none 0 0, .string ⟨#[]⟩, .string ⟨#[]⟩, .string ⟨#[]⟩, .int .i64 0, .string ⟨#[]⟩] 43)) := (Below.refl _ _).alloc (Nat.le_refl _) _
  have hb2 := hb1.alloc hb1.size (.cells #[.slice A' m.length c', .bool false] 81)
  have hb3 := hb2.alloc hb2.size (.cells #[.int .i64 1, .slice none 0 0, .slice none 0 0, .string ⟨#[]⟩, .slice none 0 0, .string ⟨#[]⟩, .string ⟨#[]⟩, .string ⟨#[]⟩, .int .i64 0, .string ⟨#[]⟩] 43)
  have hB1 := Blk.new w 43 zcells
  have hB3 := (hB1.alloc (.cells #[.slice A' m.length c', .bool false] 81)).alloc (.cells #[.int .i64 1, .slice none 0 0, .slice none 0 0, .string ⟨#[]⟩, .slice none 0 0, .string ⟨#[]⟩, .string ⟨#[]⟩, .string ⟨#[]⟩, .int .i64 0, .string ⟨#[]⟩] 43)
  have s1 : (w.alloc (.cells #[.int .i64 0, .slice none 0 0, .slice none 0 0, .string ⟨#[]⟩, .slice none 0 0, .string ⟨#[]⟩, .string ⟨#[]⟩, .string ⟨#[]⟩, .int .i64 0, .string ⟨#[]⟩] 43)).heap.size = w.heap.size + 1 := by simp
  have s2 : ((w.alloc (.cells #[.int .i64 0, .slice none 0 0, .slice none 0 0, .string ⟨#[]⟩, .slice none 0 0, .string ⟨#[]⟩, .string ⟨#[]⟩, .string ⟨#[]⟩, .int .i64 0, .string ⟨#[]⟩] 43)).alloc (.cells #[.slice A' m.length c', .bool false] 81)).heap.size = w.heap.size + 2 := by simp
  have s3 : (((w.alloc (.cells #[.int .i64 0, .slice none 0 0, .slice none 0 0, .string ⟨#[]⟩, .slice none 0 0, .string ⟨#[]⟩, .string ⟨#[]⟩, .string ⟨#[]⟩, .int .i64 0, .string ⟨#[]⟩] 43)).alloc (.cells #[.slice A' m.length c', .bool false] 81)).alloc (.cells #[.int .i64 1, .slice none 0 0, .slice none 0 0, .string ⟨#[]⟩, .slice none 0 0, .string ⟨#[]⟩, .string ⟨#[]⟩, .string ⟨#[]⟩, .int .i64 0, .string ⟨#[]⟩] 43)).heap.size = w.heap.size + 3 := by simp
  have hR2 := (Blk.new (w.alloc (.cells #[.int .i64 0, .slice none 0 0, .slice none 0 0, .string ⟨#[]⟩, .slice none 0 0, .string ⟨#[]⟩, .string ⟨#[]⟩, .string ⟨#[]⟩, .int .i64 0, .string ⟨#[]⟩] 43)) 81 [.slice A' m.length c', .bool false]).alloc (.cells #[.int .i64 1, .slice none 0 0, .slice none 0 0, .string ⟨#[]⟩, .slice none 0 0, .string ⟨#[]⟩, .string ⟨#[]⟩, .string ⟨#[]⟩, .int .i64 0, .string ⟨#[]⟩] 43)
  have hX3 : Blk (((w.alloc (.cells #[.int .i64 0, .slice none 0 0, .slice none 0 0, .string ⟨#[]⟩, .slice none 0 0, .string ⟨#[]⟩, .string ⟨#[]⟩, .string ⟨#[]⟩, .int .i64 0, .string ⟨#[]⟩] 43)).alloc (.cells #[.slice A' m.length c', .bool false] 81)).alloc (.cells #[.int .i64 1, .slice none 0 0, .slice none 0 0, .string ⟨#[]⟩, .slice none 0 0, .string ⟨#[]⟩, .string ⟨#[]⟩, .string ⟨#[]⟩, .int .i64 0, .string ⟨#[]⟩] 43)) (w.heap.size + 2) 43 (ocells 1 (.slice none 0 0) (.slice none 0 0) ⟨#[]⟩ (.slice none 0 0) ⟨#[]⟩ ⟨#[]⟩ ⟨#[]⟩ 0 ⟨#[]⟩) := by
    have h := Blk.new ((w.alloc (.cells #[.int .i64 0, .slice none 0 0, .slice none 0 0, .string ⟨#[]⟩, .slice none 0 0, .string ⟨#[]⟩, .string ⟨#[]⟩, .string ⟨#[]⟩, .int .i64 0, .string ⟨#[]⟩] 43)).alloc (.cells #[.slice A' m.length c', .bool false] 81)) 43 (ocells 1 (.slice none 0 0) (.slice none 0 0) ⟨#[]⟩ (.slice none 0 0) ⟨#[]⟩ ⟨#[]⟩ ⟨#[]⟩ 0 ⟨#[]⟩)
    rw [s2] at h
    exact h
  rw [s1] at hR2
  obtain ⟨B, hBe⟩ : ∃ B, B = w.heap.size + 1 := ⟨_, rfl⟩
  have hRr : Rr (((w.alloc (.cells #[.int .i64 0, .slice none 0 0, .slice none 0 0, .string ⟨#[]⟩, .slice none 0 0, .string ⟨#[]⟩, .string ⟨#[]⟩, .string ⟨#[]⟩, .int .i64 0, .string ⟨#[]⟩] 43)).alloc (.cells #[.slice A' m.length c', .bool false] 81)).alloc (.cells #[.int .i64 1, .slice none 0 0, .slice none 0 0, .string ⟨#[]⟩, .slice none 0 0, .string ⟨#[]⟩, .string ⟨#[]⟩, .string ⟨#[]⟩, .int .i64 0, .string ⟨#[]⟩] 43)) B (w.heap.size + 1) m false := ⟨A', c', hR2, Far.of_rd ((rm.below hb3).more (by omega)) (by omega), km, km', by omega, by omega⟩
  have hx1 : w.cell? ⟨gb, off, none⟩ = some (.int .u8 1) := hcell 0 (.int .u8 1) rfl
  have hwx : IntKind.i64.wrap 1 = 1 := by rfl
  have hBr : Below B (((w.alloc (.cells #[.int .i64 0, .slice none 0 0, .slice none 0 0, .string ⟨#[]⟩, .slice none 0 0, .string ⟨#[]⟩, .string ⟨#[]⟩, .string ⟨#[]⟩, .int .i64 0, .string ⟨#[]⟩] 43)).alloc (.cells #[.slice A' m.length c', .bool false] 81)).alloc (.cells #[.int .i64 1, .slice none 0 0, .slice none 0 0, .string ⟨#[]⟩, .slice none 0 0, .string ⟨#[]⟩, .string ⟨#[]⟩, .string ⟨#[]⟩, .int .i64 0, .string ⟨#[]⟩] 43)) (((w.alloc (.cells #[.int .i64 0, .slice none 0 0, .slice none 0 0, .string ⟨#[]⟩, .slice none 0 0, .string ⟨#[]⟩, .string ⟨#[]⟩, .string ⟨#[]⟩, .int .i64 0, .string ⟨#[]⟩] 43)).alloc (.cells #[.slice A' m.length c', .bool false] 81)).alloc (.cells #[.int .i64 1, .slice none 0 0, .slice none 0 0, .string ⟨#[]⟩, .slice none 0 0, .string ⟨#[]⟩, .string ⟨#[]⟩, .string ⟨#[]⟩, .int .i64 0, .string ⟨#[]⟩] 43)) := Below.refl _ _
  have hBw : B ≤ (((w.alloc (.cells #[.int .i64 0, .slice none 0 0, .slice none 0 0, .string ⟨#[]⟩, .slice none 0 0, .string ⟨#[]⟩, .string ⟨#[]⟩, .string ⟨#[]⟩, .int .i64 0, .string ⟨#[]⟩] 43)).alloc (.cells #[.slice A' m.length c', .bool false] 81)).alloc (.cells #[.int .i64 1, .slice none 0 0, .slice none 0 0, .string ⟨#[]⟩, .slice none 0 0, .string ⟨#[]⟩, .string ⟨#[]⟩, .string ⟨#[]⟩, .int .i64 0, .string ⟨#[]⟩] 43)).heap.size := by omega
  clear hcell
  have HN := Lib.hid hn
  have HML := Lib.hid hml
  have hmlen : Hid (m.length = l.length) := by unfold Hid; rw [hml]
  clear hn hml
  go_enter Try.func37, Try.ntmps37
  have y1 : (((w.alloc (.cells #[.int .i64 0, .slice none 0 0, .slice none 0 0, .string ⟨#[]⟩, .slice none 0 0, .string ⟨#[]⟩, .string ⟨#[]⟩, .string ⟨#[]⟩, .int .i64 0, .string ⟨#[]⟩] 43)).alloc (.cells #[.slice A' m.length c', .bool false] 81)).alloc (.cells #[.int .i64 1, .slice none 0 0, .slice none 0 0, .string ⟨#[]⟩, .slice none 0 0, .string ⟨#[]⟩, .string ⟨#[]⟩, .string ⟨#[]⟩, .int .i64 0, .string ⟨#[]⟩] 43)).cell? ⟨w.heap.size + 2, 1, none⟩ = some (.slice none 0 0) := by rw [hX3.cell]; rfl
  have y2 : (((w.alloc (.cells #[.int .i64 0, .slice none 0 0, .slice none 0 0, .string ⟨#[]⟩, .slice none 0 0, .string ⟨#[]⟩, .string ⟨#[]⟩, .string ⟨#[]⟩, .int .i64 0, .string ⟨#[]⟩] 43)).alloc (.cells #[.slice A' m.length c', .bool false] 81)).alloc (.cells #[.int .i64 1, .slice none 0 0, .slice none 0 0, .string ⟨#[]⟩, .slice none 0 0, .string ⟨#[]⟩, .string ⟨#[]⟩, .string ⟨#[]⟩, .int .i64 0, .string ⟨#[]⟩] 43)).cell? ⟨w.heap.size + 1, 0, none⟩ = some (.slice A' m.length c') := by rw [hR2.cell]; rfl
  go_wp2_with fail
  refine wp_region_last (S := fun w' => w'.cell? ⟨w.heap.size + 2, 1, none⟩ = some (.slice none 0 0) ∧ w'.cell? ⟨w.heap.size + 1, 0, none⟩ = some (.slice A' m.length c')) 8 _ (by kernel_rfl) rfl (by kernel_rfl) rfl rfl ⟨y1, y2⟩ (fun hHeld => ?_)
  simp only [List.setIfInBounds_toArray, List.set_cons_zero, List.set_cons_succ, idle, List.getElem_toArray, List.getElem_cons_succ, List.getElem_cons_zero]
  refine wpAnyH_take (i := 0) (oi := _) (v := .pointer (some ⟨w.heap.size + 2, 1, none⟩)) rfl (by kernel_rfl) (by kernel_rfl) (by kernel_rfl) (fun _ _ _ h => h) (Or.inl ⟨by rfl, fun w' hS => ?_⟩) hHeld ?_
  · obtain ⟨s0, s1⟩ := hS
    go_simp
  try simp only [Act.put, List.setIfInBounds_toArray, List.set_cons_zero, List.set_cons_succ, List.getElem_toArray, List.getElem_cons_zero]
  refine wpAnyH_take (i := 1) (oi := _) (v := .slice none 0 0) rfl (by kernel_rfl) (by kernel_rfl) (by kernel_rfl) (fun _ _ _ h => h) (Or.inl ⟨by rfl, fun w' hS => ?_⟩) hHeld ?_
  · obtain ⟨s0, s1⟩ := hS
    go_simp
  try simp only [Act.put, List.setIfInBounds_toArray, List.set_cons_zero, List.set_cons_succ, List.getElem_toArray, List.getElem_cons_succ, List.getElem_cons_zero]
  refine wpAnyH_take (i := 2) (oi := _) (v := .pointer (some ⟨w.heap.size + 1, 0, none⟩)) rfl (by kernel_rfl) (by kernel_rfl) (by kernel_rfl) (fun _ _ _ h => h) (Or.inl ⟨by rfl, fun w' hS => ?_⟩) hHeld ?_
  · obtain ⟨s0, s1⟩ := hS
    go_simp
  try simp only [Act.put, List.setIfInBounds_toArray, List.set_cons_zero, List.set_cons_succ, List.getElem_toArray, List.getElem_cons_succ, List.getElem_cons_zero]
  refine wpAnyH_take (i := 3) (oi := _) (v := .pointer (some ⟨w.heap.size + 1, 0, none⟩)) rfl (by kernel_rfl) (by kernel_rfl) (by kernel_rfl) (fun _ _ _ h => h) (Or.inl ⟨by rfl, fun w' hS => ?_⟩) hHeld ?_
  · obtain ⟨s0, s1⟩ := hS
    go_simp
  try simp only [Act.put, List.setIfInBounds_toArray, List.set_cons_zero, List.set_cons_succ, List.getElem_toArray, List.getElem_cons_succ, List.getElem_cons_zero]
  refine wpAnyH_take (i := 4) (oi := _) (v := .pointer (some ⟨w.heap.size + 1, 0, none⟩)) rfl (by kernel_rfl) (by kernel_rfl) (by kernel_rfl) (fun _ _ _ h => h) (Or.inl ⟨by rfl, fun w' hS => ?_⟩) hHeld ?_
  · obtain ⟨s0, s1⟩ := hS
    go_simp
  try simp only [Act.put, List.setIfInBounds_toArray, List.set_cons_zero, List.set_cons_succ, List.getElem_toArray, List.getElem_cons_succ, List.getElem_cons_zero]
  refine wpAnyH_take (i := 5) (oi := _) (v := .slice A' m.length c') rfl (by kernel_rfl) (by kernel_rfl) (by kernel_rfl) (fun _ _ _ h => h) (Or.inl ⟨by rfl, fun w' hS => ?_⟩) hHeld ?_
  · obtain ⟨s0, s1⟩ := hS
    go_simp
  try simp only [Act.put, List.setIfInBounds_toArray, List.set_cons_zero, List.set_cons_succ, List.getElem_toArray, List.getElem_cons_succ, List.getElem_cons_zero]
  refine wpAnyH_ready (rs := [6]) (by kernel_rfl) (by simp) (AllReadyH.cons (o := _) rfl (fun K hK => ?_) AllReadyH.nil)
  refine appS8r (by rfl) (.tmp 31) (.tmp 35) (by rfl) B _ 0 [] (by rfl) (w := World.drew _) (World.ownsRow_nil _ _ _ _) _ A' m.length c' m (by rfl) ((rm.below hb3).drew) (by have := hmlen.out; omega) hBw ?_
  intro d Ad cd w5 e5 ho5 hb5 hg5 _ _ _
  have hX5 := hX3.drew.grown hg5 (by simp [Value.ownBlock])
  have hR5 := hRr.drew.keep hg5 (by simp [Value.ownBlock]) (fun k hk => by simp [Value.ownBlock] at hk)
  have hB5 := hB3.drew.grown hg5 (by simp [Value.ownBlock])
  obtain ⟨Ar5, cr5, hRb5, _⟩ := id hR5
  have hRc5 := hR2.drew.grown hg5 (by simp [Value.ownBlock])
  have z1 : w5.cell? ⟨w.heap.size + 2, 1, none⟩ = some (.slice none 0 0) := by rw [hX5.cell]; rfl
  have z2 : w5.cell? ⟨w.heap.size + 1, 0, none⟩ = some (.slice A' m.length c') := by rw [hRc5.cell]; rfl
  refine hK.out _ _ ⟨z1, z2⟩ (fun hHeld => ?_)
  clear hK K
  try simp only [Act.put, List.setIfInBounds_toArray, List.set_cons_zero, List.set_cons_succ, List.getElem_toArray, List.getElem_cons_succ, List.getElem_cons_zero]
  refine wpAnyH_take (i := 7) (oi := _) (v := .pointer (some ⟨w.heap.size + 2, 1, none⟩)) rfl (by kernel_rfl) (by kernel_rfl) (by kernel_rfl) (fun _ _ _ h => h) (Or.inl ⟨by rfl, fun w' hS => ?_⟩) hHeld ?_
  · obtain ⟨s0, s1⟩ := hS
    go_simp
  try simp only [Act.put, List.setIfInBounds_toArray, List.set_cons_zero, List.set_cons_succ, List.getElem_toArray, List.getElem_cons_succ, List.getElem_cons_zero]
  refine wpAnyH_take (i := 8) (oi := _) (v := undef) rfl (by kernel_rfl) (by kernel_rfl) (by kernel_rfl) (fun _ _ _ h => h) (Or.inl ⟨by rfl, fun w' hS => ?_⟩) hHeld ?_
  · obtain ⟨s0, s1⟩ := hS
    go_simp
  try simp only [Act.put, List.getElem_toArray, List.getElem_cons_succ, List.getElem_cons_zero]
  refine wpAnyH_done (by kernel_rfl) ?_ _
  have f5 := hX5.free 1
  simp only [lastQ]
  go_simp
  have hgx : w5.grownBy (w5.setCell ⟨w.heap.size + 2, 1, none⟩ (.slice Ad d.length cd)) (some (w.heap.size + 2)) := grown_setCell (World.grownBy.refl w5 _) 1 _
  have hX : Blk (w5.setCell ⟨w.heap.size + 2, 1, none⟩ (.slice Ad d.length cd)) (w.heap.size + 2) 43 (ocells 1 (.slice Ad d.length cd) (.slice none 0 0) ⟨#[]⟩ (.slice none 0 0) ⟨#[]⟩ ⟨#[]⟩ ⟨#[]⟩ 0 ⟨#[]⟩) := hX5.set 1 _
  have hRx := hR5.keep hgx (fun e => by injection e; omega) (Other.blk hX5 (by decide) (by omega))
  have hBx := hB5.grown hgx (fun e => by injection e; omega)
  have hdn : RdN _ B 1 Ad d.length (bc d) := RdN.own (own_other ho5 hX5 (by decide) hgx)
  have hbx := hBr.trans (((Below.refl B _).drew.trans hb5).trans (below_of_grown hgx (by omega) (Nat.le_trans hBw hg5.size)))
  have hPo : Hid (Parsed (parseK 1 l) (⟨1, d, [], ⟨#[]⟩, [], ⟨#[]⟩, ⟨#[]⟩, ⟨#[]⟩, 0, ⟨#[]⟩⟩ : Go.Dol.Obj) false) := Lib.hid (.inr ⟨rfl, by rw [parseK1, e5.out, List.nil_append, HML.out]; rfl⟩)
  obtain ⟨b3, hb3e⟩ : ∃ b3, b3 = false := ⟨_, rfl⟩
  rw [← hb3e] at hRx hPo
  clear hb3e hX5 hR5 hB5 hRb5 hRc5 ho5 z1 z2 y1 y2 f5 hHeld
  obtain ⟨wx, hwx'⟩ : ∃ wx, wx = w5.setCell ⟨w.heap.size + 2, 1, none⟩ (.slice Ad d.length cd) := ⟨_, rfl⟩
  rw [← hwx'] at hX hRx hBx hdn hbx ⊢
  clear hwx' hgx hg5 hb5
  -- from here on: world wx; hX : Blk wx gx [C]; hRx : Rr wx B g l3 b3; hBx : Blk wx of the result; hbx : Below B W2 wx
  obtain ⟨z0, z1, z2, z3, z4, z5, z6, z7, z8, z9⟩ := obj_cells hX
  have hE := refEncode_calls 1 Ad d cd none [] 0 ⟨#[]⟩ none [] 0 ⟨#[]⟩ ⟨#[]⟩ ⟨#[]⟩ 0 ⟨#[]⟩ wx hdn.1 Rd.nil Rd.nil (Nat.zero_le _) (Nat.zero_le _) (Lib.hid (by simp))
  clear hRr hR2 hB1 hX3 hBr
  go_wp2_with fail
  refine hE.mono ?_
  rintro e w6 ⟨hb6, hR6⟩
  have hR7 := hRx.below hb6
  have hB7 := hBx.below hb6 hBx.lt
  have hO7 := hX.below hb6 hX.lt
  have hsx := hbx.size
  have hbe : Below w.heap.size w w6 := hb3.trans ((hbx.mono (by omega)).trans (hb6.mono (by omega)))
  obtain ⟨Ar, cr, hRb, _⟩ := id hR7
  have e1 : w6.cell? ⟨w.heap.size + 1, 1, none⟩ = some (.bool b3) := by rw [hRb.cell]; rfl
  clear z0 z1 z2 z3 z4 z5 z6 z7 z8 z9 hE
  have hDec := dec_of (ge := geS) hPo.out
  rcases hR6 with ⟨hck, lo, Ao, co, el, rfl, ho6⟩ | ⟨hck, rfl⟩
  · have HCK := Lib.hid hck
    cases b3 with
    | true =>
      have HD : Hid (decO geS (1 :: l) = none) := by
        unfold Hid
        rw [hDec, if_neg (by simp)]
      clear hDec hck
      go_wp2_with ((refine wpList_store_blk (by rfl) _ (.tmp 2) (.tmp 141) rfl w.heap.size zcells rfl rfl 43 zcells hB7 (by kernel_rfl) rfl (by decide) ?_; intro w8 hB8 hg8))
      have hl := Go.run_loadVar_row (P := Try.prog) w8 w.heap.size 43 43 zcells.toArray (0, 0) _ hB8 Try.underlying43 rfl (by kernel_rfl)
      rw [HD.out]
      refine bodyPost_ret (v := .tuple #[.agg zcells.toArray, .int .i64 2]) ?_ rfl ⟨rfl, hbe.grown hg8 hbe.size (fun k hk => by cases hk; exact Nat.le_refl _)⟩
      simp [results, Try.results37, asAddr, hl]
    | false =>
      have hr6 := Rd.of_own ho6
      have hrb : Rd w6 w6.heap.size 1 (some ⟨gb, off, none⟩) (1 :: l).length (bc (1 :: l)) := by
        have := (hr.below hbe).more hbe.size
        rwa [HN.out] at this
      have hnl : n = (1 :: l).length := by rw [List.length_cons]; exact HN.out
      by_cases heq : lo = 1 :: l
      · have HD : Hid (decO geS (1 :: l) = some ⟨1, d, [], ⟨#[]⟩, [], ⟨#[]⟩, ⟨#[]⟩, ⟨#[]⟩, 0, ⟨#[]⟩⟩) := by
          unfold Hid
          rw [hDec, if_pos ⟨rfl, HCK.out, by rw [← el.out]; exact heq⟩]
        have hq := Same_calls Ao lo co (some ⟨gb, off, none⟩) (1 :: l) c w6 _ _ hr6 hrb (Lib.hid heq)
        rw [← hnl] at hq
        have HQ := Lib.hid heq
        obtain ⟨z0, z1, z2, z3, z4, z5, z6, z7, z8, z9⟩ := obj_cells hO7
        clear hDec heq hr hrb hr6 hck hnl
        go_wp2_with ((first
          | (go_at_call 15; refine hq.mono ?_; rintro e w7 ⟨rfl, rfl⟩)
          | (refine wpList_store_blk (by rfl) _ (.tmp 2) (.tmp 142) rfl w.heap.size [.int .i64 1, .slice Ad d.length cd, .slice none 0 0, .string ⟨#[]⟩, .slice none 0 0, .string ⟨#[]⟩, .string ⟨#[]⟩, .string ⟨#[]⟩, .int .i64 0, .string ⟨#[]⟩] rfl rfl 43 zcells hB7 (by kernel_rfl) rfl (o_one _ _ _ _ _ _ _ _ _ _ rfl rfl rfl) ?_; intro w8 hB8 hg8)))
        have hl := Go.run_loadVar_row (P := Try.prog) w8 w.heap.size 43 43 #[.int .i64 1, .slice Ad d.length cd, .slice none 0 0, .string ⟨#[]⟩, .slice none 0 0, .string ⟨#[]⟩, .string ⟨#[]⟩, .string ⟨#[]⟩, .int .i64 0, .string ⟨#[]⟩] (0, 0) _ hB8 Try.underlying43 rfl (by kernel_rfl)
        rw [HD.out]
        have hb9 : Below w.heap.size w w8 := hbe.grown hg8 hbe.size (fun k hk => by cases hk; exact Nat.le_refl _)
        refine bodyPost_ret (v := .tuple #[.agg #[.int .i64 1, .slice Ad d.length cd, .slice none 0 0, .string ⟨#[]⟩, .slice none 0 0, .string ⟨#[]⟩, .string ⟨#[]⟩, .string ⟨#[]⟩, .int .i64 0, .string ⟨#[]⟩], .int .i64 0]) ?_ rfl ⟨1, Ad, d, cd, none, [], 0, ⟨#[]⟩, none, [], 0, ⟨#[]⟩, ⟨#[]⟩, ⟨#[]⟩, 0, ⟨#[]⟩, rfl, rfl, (((hdn.below hb6).apart hg8 (by omega)).lower (by omega)), RdN.nil, RdN.nil, hb9, (Nat.zero_le _), (Nat.zero_le _), (Lib.hid (by simp))⟩
        simp [results, Try.results37, asAddr, hl]
      · have HD : Hid (decO geS (1 :: l) = none) := by
          unfold Hid
          rw [hDec, if_neg (by rintro ⟨_, _, h⟩; exact heq (by rw [el.out, h]))]
        have hq := Same_no Ao lo co (some ⟨gb, off, none⟩) (1 :: l) c w6 _ _ hr6 hrb heq
        rw [← hnl] at hq
        clear hDec heq hr hrb hr6 hck hnl
        go_wp2_with ((first
          | (go_at_call 15; refine hq.mono ?_; rintro e w7 ⟨rfl, rfl⟩)
          | (refine wpList_store_blk (by rfl) _ (.tmp 2) (.tmp 141) rfl w.heap.size zcells rfl rfl 43 zcells hB7 (by kernel_rfl) rfl (by decide) ?_; intro w8 hB8 hg8)))
        have hl := Go.run_loadVar_row (P := Try.prog) w8 w.heap.size 43 43 zcells.toArray (0, 0) _ hB8 Try.underlying43 rfl (by kernel_rfl)
        rw [HD.out]
        refine bodyPost_ret (v := .tuple #[.agg zcells.toArray, .int .i64 2]) ?_ rfl ⟨rfl, hbe.grown hg8 hbe.size (fun k hk => by cases hk; exact Nat.le_refl _)⟩
        simp [results, Try.results37, asAddr, hl]
  · have HD : Hid (decO geS (1 :: l) = none) := by
      unfold Hid
      rw [hDec, if_neg (by rw [hck]; simp)]
    clear hDec hck
    cases b3 with
    | true =>
      go_wp2_with ((refine wpList_store_blk (by rfl) _ (.tmp 2) (.tmp 141) rfl w.heap.size zcells rfl rfl 43 zcells hB7 (by kernel_rfl) rfl (by decide) ?_; intro w8 hB8 hg8))
      have hl := Go.run_loadVar_row (P := Try.prog) w8 w.heap.size 43 43 zcells.toArray (0, 0) _ hB8 Try.underlying43 rfl (by kernel_rfl)
      rw [HD.out]
      refine bodyPost_ret (v := .tuple #[.agg zcells.toArray, .int .i64 2]) ?_ rfl ⟨rfl, hbe.grown hg8 hbe.size (fun k hk => by cases hk; exact Nat.le_refl _)⟩
      simp [results, Try.results37, asAddr, hl]
    | false =>
      go_wp2_with ((refine wpList_store_blk (by rfl) _ (.tmp 2) (.tmp 141) rfl w.heap.size zcells rfl rfl 43 zcells hB7 (by kernel_rfl) rfl (by decide) ?_; intro w8 hB8 hg8))
      have hl := Go.run_loadVar_row (P := Try.prog) w8 w.heap.size 43 43 zcells.toArray (0, 0) _ hB8 Try.underlying43 rfl (by kernel_rfl)
      rw [HD.out]
      refine bodyPost_ret (v := .tuple #[.agg zcells.toArray, .int .i64 2]) ?_ rfl ⟨rfl, hbe.grown hg8 hbe.size (fun k hk => by cases hk; exact Nat.le_refl _)⟩
      simp [results, Try.results37, asAddr, hl]
set_option maxRecDepth 100000 in
set_option maxHeartbeats 8000000 in
theorem refDecode4_calls (A : Option Addr) (l : List UInt8) (n c : Nat) (w : World) (hn : n = l.length + 1) (hr : Rd w w.heap.size 1 A n (bc (4 :: l))) (hc : n ≤ c) (hcm : c ≤ maxLen) (hl : l.length ≤ 140737488351231) :
    Calls Try.prog 37 #[.slice A n c] w (RetDec w (decO geS (4 :: l))) := by
  have d0 : ((n : Int) == 0) = false := beq_eq_false_iff_ne.2 (by omega)
  have hn0 : (0 : Int) < (n : Int) := by omega
  obtain ⟨m, A', c', em, jm, jm', ⟨rm, km, km'⟩, _, _, _, sm⟩ := sl_from (k := 1) (l := 4 :: l) (c := c) 1 rfl (by rw [List.length_cons, ← hn]; exact hr) (by simp) (by simp; omega) hcm
  rw [List.length_cons, ← hn] at sm jm
  obtain ⟨gb, off, rfl, hgb, hcell⟩ := hr.at_ (by omega)
  have hml : m = l := by rw [em.out]; rfl
  have hb1 : Below w.heap.size w (w.alloc (.cells #[.int .i64 0, .slice none 0 0, .slice none 0 0, .string ⟨#[]⟩, .slice none 0 0, .string ⟨#[]⟩, .string ⟨#[]⟩, .string ⟨#[]⟩, .int .i64 0, .string ⟨#[]⟩] 43)) := (Below.refl _ _).alloc (Nat.le_refl _) _
  have hb2 := hb1.alloc hb1.size (.cells #[.slice A' m.length c', .bool false] 81)
  have hb3 := hb2.alloc hb2.size (.cells #[.int .i64 4, .slice none 0 0, .slice none 0 0, .string ⟨#[]⟩, .slice none 0 0, .string ⟨#[]⟩, .string ⟨#[]⟩, .string ⟨#[]⟩, .int .i64 0, .string ⟨#[]⟩] 43)
  have hB1 := Blk.new w 43 zcells
  have hB3 := (hB1.alloc (.cells #[.slice A' m.length c', .bool false] 81)).alloc (.cells #[.int .i64 4, .slice none 0 0, .slice none 0 0, .string ⟨#[]⟩, .slice none 0 0, .string ⟨#[]⟩, .string ⟨#[]⟩, .string ⟨#[]⟩, .int .i64 0, .string ⟨#[]⟩] 43)
  have s1 : (w.alloc (.cells #[.int .i64 0, .slice none 0 0, .slice none 0 0, .string ⟨#[]⟩, .slice none 0 0, .string ⟨#[]⟩, .string ⟨#[]⟩, .string ⟨#[]⟩, .int .i64 0, .string ⟨#[]⟩] 43)).heap.size = w.heap.size + 1 := by simp
  have s2 : ((w.alloc (.cells #[.int .i64 0, .slice none 0 0, .slice none 0 0, .string ⟨#[]⟩, .slice none 0 0, .string ⟨#[]⟩, .string ⟨#[]⟩, .string ⟨#[]⟩, .int .i64 0, .string ⟨#[]⟩] 43)).alloc (.cells #[.slice A' m.length c', .bool false] 81)).heap.size = w.heap.size + 2 := by simp
  have s3 : (((w.alloc (.cells #[.int .i64 0, .slice none 0 0, .slice none 0 0, .string ⟨#[]⟩, .slice none 0 0, .string ⟨#[]⟩, .string ⟨#[]⟩, .string ⟨#[]⟩, .int .i64 0, .string ⟨#[]⟩] 43)).alloc (.cells #[.slice A' m.length c', .bool false] 81)).alloc (.cells #[.int .i64 4, .slice none 0 0, .slice none 0 0, .string ⟨#[]⟩, .slice none 0 0, .string ⟨#[]⟩, .string ⟨#[]⟩, .string ⟨#[]⟩, .int .i64 0, .string ⟨#[]⟩] 43)).heap.size = w.heap.size + 3 := by simp
  have hR2 := (Blk.new (w.alloc (.cells #[.int .i64 0, .slice none 0 0, .slice none 0 0, .string ⟨#[]⟩, .slice none 0 0, .string ⟨#[]⟩, .string ⟨#[]⟩, .string ⟨#[]⟩, .int .i64 0, .string ⟨#[]⟩] 43)) 81 [.slice A' m.length c', .bool false]).alloc (.cells #[.int .i64 4, .slice none 0 0, .slice none 0 0, .string ⟨#[]⟩, .slice none 0 0, .string ⟨#[]⟩, .string ⟨#[]⟩, .string ⟨#[]⟩, .int .i64 0, .string ⟨#[]⟩] 43)
  have hX3 : Blk (((w.alloc (.cells #[.int .i64 0, .slice none 0 0, .slice none 0 0, .string ⟨#[]⟩, .slice none 0 0, .string ⟨#[]⟩, .string ⟨#[]⟩, .string ⟨#[]⟩, .int .i64 0, .string ⟨#[]⟩] 43)).alloc (.cells #[.slice A' m.length c', .bool false] 81)).alloc (.cells #[.int .i64 4, .slice none 0 0, .slice none 0 0, .string ⟨#[]⟩, .slice none 0 0, .string ⟨#[]⟩, .string ⟨#[]⟩, .string ⟨#[]⟩, .int .i64 0, .string ⟨#[]⟩] 43)) (w.heap.size + 2) 43 (ocells 4 (.slice none 0 0) (.slice none 0 0) ⟨#[]⟩ (.slice none 0 0) ⟨#[]⟩ ⟨#[]⟩ ⟨#[]⟩ 0 ⟨#[]⟩) := by
    have h := Blk.new ((w.alloc (.cells #[.int .i64 0, .slice none 0 0, .slice none 0 0, .string ⟨#[]⟩, .slice none 0 0, .string ⟨#[]⟩, .string ⟨#[]⟩, .string ⟨#[]⟩, .int .i64 0, .string ⟨#[]⟩] 43)).alloc (.cells #[.slice A' m.length c', .bool false] 81)) 43 (ocells 4 (.slice none 0 0) (.slice none 0 0) ⟨#[]⟩ (.slice none 0 0) ⟨#[]⟩ ⟨#[]⟩ ⟨#[]⟩ 0 ⟨#[]⟩)
    rw [s2] at h
    exact h
  rw [s1] at hR2
  obtain ⟨B, hBe⟩ : ∃ B, B = w.heap.size + 1 := ⟨_, rfl⟩
  have hRr : Rr (((w.alloc (.cells #[.int .i64 0, .slice none 0 0, .slice none 0 0, .string ⟨#[]⟩, .slice none 0 0, .string ⟨#[]⟩, .string ⟨#[]⟩, .string ⟨#[]⟩, .int .i64 0, .string ⟨#[]⟩] 43)).alloc (.cells #[.slice A' m.length c', .bool false] 81)).alloc (.cells #[.int .i64 4, .slice none 0 0, .slice none 0 0, .string ⟨#[]⟩, .slice none 0 0, .string ⟨#[]⟩, .string ⟨#[]⟩, .string ⟨#[]⟩, .int .i64 0, .string ⟨#[]⟩] 43)) B (w.heap.size + 1) m false := ⟨A', c', hR2, Far.of_rd ((rm.below hb3).more (by omega)) (by omega), km, km', by omega, by omega⟩
  have hx1 : w.cell? ⟨gb, off, none⟩ = some (.int .u8 4) := hcell 0 (.int .u8 4) rfl
  have hwx : IntKind.i64.wrap 4 = 4 := by rfl
  have hBr : Below B (((w.alloc (.cells #[.int .i64 0, .slice none 0 0, .slice none 0 0, .string ⟨#[]⟩, .slice none 0 0, .string ⟨#[]⟩, .string ⟨#[]⟩, .string ⟨#[]⟩, .int .i64 0, .string ⟨#[]⟩] 43)).alloc (.cells #[.slice A' m.length c', .bool false] 81)).alloc (.cells #[.int .i64 4, .slice none 0 0, .slice none 0 0, .string ⟨#[]⟩, .slice none 0 0, .string ⟨#[]⟩, .string ⟨#[]⟩, .string ⟨#[]⟩, .int .i64 0, .string ⟨#[]⟩] 43)) (((w.alloc (.cells #[.int .i64 0, .slice none 0 0, .slice none 0 0, .string ⟨#[]⟩, .slice none 0 0, .string ⟨#[]⟩, .string ⟨#[]⟩, .string ⟨#[]⟩, .int .i64 0, .string ⟨#[]⟩] 43)).alloc (.cells #[.slice A' m.length c', .bool false] 81)).alloc (.cells #[.int .i64 4, .slice none 0 0, .slice none 0 0, .string ⟨#[]⟩, .slice none 0 0, .string ⟨#[]⟩, .string ⟨#[]⟩, .string ⟨#[]⟩, .int .i64 0, .string ⟨#[]⟩] 43)) := Below.refl _ _
  have hBw : B ≤ (((w.alloc (.cells #[.int .i64 0, .slice none 0 0, .slice none 0 0, .string ⟨#[]⟩, .slice none 0 0, .string ⟨#[]⟩, .string ⟨#[]⟩, .string ⟨#[]⟩, .int .i64 0, .string ⟨#[]⟩] 43)).alloc (.cells #[.slice A' m.length c', .bool false] 81)).alloc (.cells #[.int .i64 4, .slice none 0 0, .slice none 0 0, .string ⟨#[]⟩, .slice none 0 0, .string ⟨#[]⟩, .string ⟨#[]⟩, .string ⟨#[]⟩, .int .i64 0, .string ⟨#[]⟩] 43)).heap.size := by omega
  clear hcell
  have HN := Lib.hid hn
  have HML := Lib.hid hml
  have hmlen : Hid (m.length = l.length) := by unfold Hid; rw [hml]
  clear hn hml
  go_enter Try.func37, Try.ntmps37
  go_wp2_with fail
  refine (rrBytes_calls B (w.heap.size + 1) 32 32 rfl m false _ hRr).mono ?_
  rintro e wa1 ⟨v1, la1, ba1, rfl, ra1, t1, ga1, qa1, va1⟩
  obtain ⟨Ax1, cx1, Rb1, _⟩ := id hRr
  have Xa1 := hX3.grown ga1 (blk_apart hX3 Rb1 (by decide))
  have Ba1 := hB3.grown ga1 (blk_apart hB3 Rb1 (by decide))
  have ha1 := hBr.trans (below_of_grown ga1 (by omega) (Nat.le_trans hBw hBr.size))
  obtain ⟨k10, k11, k12, k13, k14, k15, k16, k17, k18, k19⟩ := obj_cells Xa1
  have fr1 := Xa1.free 5
  have gs1 : wa1.grownBy (wa1.setCell ⟨w.heap.size + 2, 5, none⟩ (.string ⟨v1.toArray⟩)) (some (w.heap.size + 2)) := grown_setCell (World.grownBy.refl _ _) 5 _
  have Xs1 : Blk (wa1.setCell ⟨w.heap.size + 2, 5, none⟩ (.string ⟨v1.toArray⟩)) (w.heap.size + 2) 43 (ocells 4 (.slice none 0 0) (.slice none 0 0) ⟨#[]⟩ (.slice none 0 0) ⟨v1.toArray⟩ ⟨#[]⟩ ⟨#[]⟩ 0 ⟨#[]⟩) := Xa1.set 5 _
  have rs1 := ra1.keep gs1 (fun e => by injection e; omega) (Other.blk Xa1 (by decide) (by omega))
  have Bs1 := Ba1.grown gs1 (fun e => by injection e; omega)
  have hs1 := ha1.trans (below_of_grown gs1 (by omega) (Nat.le_trans hBw ha1.size))
  unfold mkS
  go_wp2_with fail
  refine (rrText_calls B (w.heap.size + 1) la1 ba1 _ rs1).mono ?_
  rintro e wa2 ⟨v2, la2, ba2, rfl, ra2, t2, ga2, qa2, va2⟩
  obtain ⟨Ax2, cx2, Rb2, _⟩ := id rs1
  have Xa2 := Xs1.grown ga2 (blk_apart Xs1 Rb2 (by decide))
  have Ba2 := Bs1.grown ga2 (blk_apart Bs1 Rb2 (by decide))
  have ha2 := hs1.trans (below_of_grown ga2 (by omega) (Nat.le_trans hBw hs1.size))
  obtain ⟨k20, k21, k22, k23, k24, k25, k26, k27, k28, k29⟩ := obj_cells Xa2
  have fr2 := Xa2.free 6
  have gs2 : wa2.grownBy (wa2.setCell ⟨w.heap.size + 2, 6, none⟩ (.string ⟨v2.toArray⟩)) (some (w.heap.size + 2)) := grown_setCell (World.grownBy.refl _ _) 6 _
  have Xs2 : Blk (wa2.setCell ⟨w.heap.size + 2, 6, none⟩ (.string ⟨v2.toArray⟩)) (w.heap.size + 2) 43 (ocells 4 (.slice none 0 0) (.slice none 0 0) ⟨#[]⟩ (.slice none 0 0) ⟨v1.toArray⟩ ⟨v2.toArray⟩ ⟨#[]⟩ 0 ⟨#[]⟩) := Xa2.set 6 _
  have rs2 := ra2.keep gs2 (fun e => by injection e; omega) (Other.blk Xa2 (by decide) (by omega))
  have Bs2 := Ba2.grown gs2 (fun e => by injection e; omega)
  have hs2 := ha2.trans (below_of_grown gs2 (by omega) (Nat.le_trans hBw ha2.size))
  unfold mkS
  go_wp2_with fail
  refine (rrText_calls B (w.heap.size + 1) la2 ba2 _ rs2).mono ?_
  rintro e wa3 ⟨v3, la3, ba3, rfl, ra3, t3, ga3, qa3, va3⟩
  obtain ⟨Ax3, cx3, Rb3, _⟩ := id rs2
  have Xa3 := Xs2.grown ga3 (blk_apart Xs2 Rb3 (by decide))
  have Ba3 := Bs2.grown ga3 (blk_apart Bs2 Rb3 (by decide))
  have ha3 := hs2.trans (below_of_grown ga3 (by omega) (Nat.le_trans hBw hs2.size))
  obtain ⟨k30, k31, k32, k33, k34, k35, k36, k37, k38, k39⟩ := obj_cells Xa3
  have fr3 := Xa3.free 7
  have gs3 : wa3.grownBy (wa3.setCell ⟨w.heap.size + 2, 7, none⟩ (.string ⟨v3.toArray⟩)) (some (w.heap.size + 2)) := grown_setCell (World.grownBy.refl _ _) 7 _
  have Xs3 : Blk (wa3.setCell ⟨w.heap.size + 2, 7, none⟩ (.string ⟨v3.toArray⟩)) (w.heap.size + 2) 43 (ocells 4 (.slice none 0 0) (.slice none 0 0) ⟨#[]⟩ (.slice none 0 0) ⟨v1.toArray⟩ ⟨v2.toArray⟩ ⟨v3.toArray⟩ 0 ⟨#[]⟩) := Xa3.set 7 _
  have rs3 := ra3.keep gs3 (fun e => by injection e; omega) (Other.blk Xa3 (by decide) (by omega))
  have Bs3 := Ba3.grown gs3 (fun e => by injection e; omega)
  have hs3 := ha3.trans (below_of_grown gs3 (by omega) (Nat.le_trans hBw ha3.size))
  unfold mkS
  go_wp2_with fail
  refine (rrNum_calls B (w.heap.size + 1) la3 ba3 _ rs3).mono ?_
  rintro e wa4 ⟨v4, la4, ba4, rfl, ra4, t4, ga4, qa4, va4⟩
  obtain ⟨Ax4, cx4, Rb4, _⟩ := id rs3
  have Xa4 := Xs3.grown ga4 (blk_apart Xs3 Rb4 (by decide))
  have Ba4 := Bs3.grown ga4 (blk_apart Bs3 Rb4 (by decide))
  have ha4 := hs3.trans (below_of_grown ga4 (by omega) (Nat.le_trans hBw hs3.size))
  obtain ⟨k40, k41, k42, k43, k44, k45, k46, k47, k48, k49⟩ := obj_cells Xa4
  have fr4 := Xa4.free 8
  have gs4 : wa4.grownBy (wa4.setCell ⟨w.heap.size + 2, 8, none⟩ (.int .i64 (v4 : Nat))) (some (w.heap.size + 2)) := grown_setCell (World.grownBy.refl _ _) 8 _
  have Xs4 : Blk (wa4.setCell ⟨w.heap.size + 2, 8, none⟩ (.int .i64 (v4 : Nat))) (w.heap.size + 2) 43 (ocells 4 (.slice none 0 0) (.slice none 0 0) ⟨#[]⟩ (.slice none 0 0) ⟨v1.toArray⟩ ⟨v2.toArray⟩ ⟨v3.toArray⟩ (v4 : Nat) ⟨#[]⟩) := Xa4.set 8 _
  have rs4 := ra4.keep gs4 (fun e => by injection e; omega) (Other.blk Xa4 (by decide) (by omega))
  have Bs4 := Ba4.grown gs4 (fun e => by injection e; omega)
  have hs4 := ha4.trans (below_of_grown gs4 (by omega) (Nat.le_trans hBw ha4.size))
  unfold mkN
  go_wp2_with fail
  refine (rrText_calls B (w.heap.size + 1) la4 ba4 _ rs4).mono ?_
  rintro e wa5 ⟨v5, la5, ba5, rfl, ra5, t5, ga5, qa5, va5⟩
  obtain ⟨Ax5, cx5, Rb5, _⟩ := id rs4
  have Xa5 := Xs4.grown ga5 (blk_apart Xs4 Rb5 (by decide))
  have Ba5 := Bs4.grown ga5 (blk_apart Bs4 Rb5 (by decide))
  have ha5 := hs4.trans (below_of_grown ga5 (by omega) (Nat.le_trans hBw hs4.size))
  obtain ⟨k50, k51, k52, k53, k54, k55, k56, k57, k58, k59⟩ := obj_cells Xa5
  have fr5 := Xa5.free 9
  have gs5 : wa5.grownBy (wa5.setCell ⟨w.heap.size + 2, 9, none⟩ (.string ⟨v5.toArray⟩)) (some (w.heap.size + 2)) := grown_setCell (World.grownBy.refl _ _) 9 _
  have Xs5 : Blk (wa5.setCell ⟨w.heap.size + 2, 9, none⟩ (.string ⟨v5.toArray⟩)) (w.heap.size + 2) 43 (ocells 4 (.slice none 0 0) (.slice none 0 0) ⟨#[]⟩ (.slice none 0 0) ⟨v1.toArray⟩ ⟨v2.toArray⟩ ⟨v3.toArray⟩ (v4 : Nat) ⟨v5.toArray⟩) := Xa5.set 9 _
  have rs5 := ra5.keep gs5 (fun e => by injection e; omega) (Other.blk Xa5 (by decide) (by omega))
  have Bs5 := Ba5.grown gs5 (fun e => by injection e; omega)
  have hs5 := ha5.trans (below_of_grown gs5 (by omega) (Nat.le_trans hBw ha5.size))
  unfold mkS
  have hPo : Hid (Parsed (parseK 4 l) (⟨4, [], [], ⟨#[]⟩, [], ⟨v1.toArray⟩, ⟨v2.toArray⟩, ⟨v3.toArray⟩, (v4 : Nat), ⟨v5.toArray⟩⟩ : Go.Dol.Obj) ba5) := Lib.hid (by
    have h := parsed_tag t1.out t2.out (took_told t3.out t4.out t5.out)
    rw [HML.out] at h
    rw [parseK4]
    exact h)
  obtain ⟨ta, hta⟩ : ∃ ta : ByteArray, ta = ⟨v1.toArray⟩ := ⟨_, rfl⟩
  obtain ⟨na, hna⟩ : ∃ na : ByteArray, na = ⟨v2.toArray⟩ := ⟨_, rfl⟩
  obtain ⟨wh, hwh⟩ : ∃ wh : ByteArray, wh = ⟨v3.toArray⟩ := ⟨_, rfl⟩
  obtain ⟨st, hst⟩ : ∃ st : Int, st = ((v4 : Nat) : Int) := ⟨_, rfl⟩
  obtain ⟨te, hte⟩ : ∃ te : ByteArray, te = ⟨v5.toArray⟩ := ⟨_, rfl⟩
  rw [← hta, ← hna, ← hwh, ← hst, ← hte] at Xs5 hPo ⊢
  rw [← hte] at rs5 Bs5 hs5
  obtain ⟨b3, hb3e⟩ : ∃ b3, b3 = ba5 := ⟨_, rfl⟩
  rw [← hb3e] at rs5 hPo
  have hX := Xs5
  have hRx := rs5
  have hBx := Bs5
  have hbx := hs5
  clear hta hna hwh hst hte hb3e Xs5 rs5 Bs5 hs5 Xa1 Xa2 Xa3 Xa4 Ba1 Ba2 Ba3 Ba4 Xs1 Xs2 Xs3 Xs4 rs1 rs2 rs3 rs4 Bs1 Bs2 Bs3 Bs4 ra1 ra2 ra3 ra4 ra5 Rb1 Rb2 Rb3 Rb4 Rb5 t1 t2 t3 t4 t5 ha1 ha2 ha3 ha4 hs1 hs2 hs3 hs4 k10 k11 k12 k13 k14 k15 k16 k17 k18 k19 k20 k21 k22 k23 k24 k25 k26 k27 k28 k29 k30 k31 k32 k33 k34 k35 k36 k37 k38 k39 k40 k41 k42 k43 k44 k45 k46 k47 k48 k49
  -- from here on: world wx; hX : Blk (wa5.setCell ⟨w.heap.size + 2, 9, none⟩ (.string te)) gx [C]; hRx : Rr (wa5.setCell ⟨w.heap.size + 2, 9, none⟩ (.string te)) B g l3 b3; hBx : Blk (wa5.setCell ⟨w.heap.size + 2, 9, none⟩ (.string te)) of the result; hbx : Below B W2 wx
  obtain ⟨z0, z1, z2, z3, z4, z5, z6, z7, z8, z9⟩ := obj_cells hX
  have hE := refEncode_calls 4 none [] 0 none [] 0 ⟨#[]⟩ none [] 0 ta na wh st te (wa5.setCell ⟨w.heap.size + 2, 9, none⟩ (.string te)) Rd.nil Rd.nil Rd.nil (Nat.zero_le _) (Nat.zero_le _) (Lib.hid (by simp))
  clear hRr hR2 hB1 hX3 hBr
  go_wp2_with fail
  refine hE.mono ?_
  rintro e w6 ⟨hb6, hR6⟩
  have hR7 := hRx.below hb6
  have hB7 := hBx.below hb6 hBx.lt
  have hO7 := hX.below hb6 hX.lt
  have hsx := hbx.size
  have hbe : Below w.heap.size w w6 := hb3.trans ((hbx.mono (by omega)).trans (hb6.mono (by omega)))
  obtain ⟨Ar, cr, hRb, _⟩ := id hR7
  have e1 : w6.cell? ⟨w.heap.size + 1, 1, none⟩ = some (.bool b3) := by rw [hRb.cell]; rfl
  clear z0 z1 z2 z3 z4 z5 z6 z7 z8 z9 hE
  have hDec := dec_of (ge := geS) hPo.out
  rcases hR6 with ⟨hck, lo, Ao, co, el, rfl, ho6⟩ | ⟨hck, rfl⟩
  · have HCK := Lib.hid hck
    cases b3 with
    | true =>
      have HD : Hid (decO geS (4 :: l) = none) := by
        unfold Hid
        rw [hDec, if_neg (by simp)]
      clear hDec hck
      go_wp2_with ((refine wpList_store_blk (by rfl) _ (.tmp 2) (.tmp 141) rfl w.heap.size zcells rfl rfl 43 zcells hB7 (by kernel_rfl) rfl (by decide) ?_; intro w8 hB8 hg8))
      have hl := Go.run_loadVar_row (P := Try.prog) w8 w.heap.size 43 43 zcells.toArray (0, 0) _ hB8 Try.underlying43 rfl (by kernel_rfl)
      rw [HD.out]
      refine bodyPost_ret (v := .tuple #[.agg zcells.toArray, .int .i64 2]) ?_ rfl ⟨rfl, hbe.grown hg8 hbe.size (fun k hk => by cases hk; exact Nat.le_refl _)⟩
      simp [results, Try.results37, asAddr, hl]
    | false =>
      have hr6 := Rd.of_own ho6
      have hrb : Rd w6 w6.heap.size 1 (some ⟨gb, off, none⟩) (4 :: l).length (bc (4 :: l)) := by
        have := (hr.below hbe).more hbe.size
        rwa [HN.out] at this
      have hnl : n = (4 :: l).length := by rw [List.length_cons]; exact HN.out
      by_cases heq : lo = 4 :: l
      · have HD : Hid (decO geS (4 :: l) = some ⟨4, [], [], ⟨#[]⟩, [], ta, na, wh, st, te⟩) := by
          unfold Hid
          rw [hDec, if_pos ⟨rfl, HCK.out, by rw [← el.out]; exact heq⟩]
        have hq := Same_calls Ao lo co (some ⟨gb, off, none⟩) (4 :: l) c w6 _ _ hr6 hrb (Lib.hid heq)
        rw [← hnl] at hq
        have HQ := Lib.hid heq
        obtain ⟨z0, z1, z2, z3, z4, z5, z6, z7, z8, z9⟩ := obj_cells hO7
        clear hDec heq hr hrb hr6 hck hnl
        go_wp2_with ((first
          | (go_at_call 15; refine hq.mono ?_; rintro e w7 ⟨rfl, rfl⟩)
          | (refine wpList_store_blk (by rfl) _ (.tmp 2) (.tmp 142) rfl w.heap.size [.int .i64 4, .slice none 0 0, .slice none 0 0, .string ⟨#[]⟩, .slice none 0 0, .string ta, .string na, .string wh, .int .i64 st, .string te] rfl rfl 43 zcells hB7 (by kernel_rfl) rfl (o_one _ _ _ _ _ _ _ _ _ _ rfl rfl rfl) ?_; intro w8 hB8 hg8)))
        have hl := Go.run_loadVar_row (P := Try.prog) w8 w.heap.size 43 43 #[.int .i64 4, .slice none 0 0, .slice none 0 0, .string ⟨#[]⟩, .slice none 0 0, .string ta, .string na, .string wh, .int .i64 st, .string te] (0, 0) _ hB8 Try.underlying43 rfl (by kernel_rfl)
        rw [HD.out]
        have hb9 : Below w.heap.size w w8 := hbe.grown hg8 hbe.size (fun k hk => by cases hk; exact Nat.le_refl _)
        refine bodyPost_ret (v := .tuple #[.agg #[.int .i64 4, .slice none 0 0, .slice none 0 0, .string ⟨#[]⟩, .slice none 0 0, .string ta, .string na, .string wh, .int .i64 st, .string te], .int .i64 0]) ?_ rfl ⟨4, none, [], 0, none, [], 0, ⟨#[]⟩, none, [], 0, ta, na, wh, st, te, rfl, rfl, RdN.nil, RdN.nil, RdN.nil, hb9, (Nat.zero_le _), (Nat.zero_le _), (Lib.hid (by simp))⟩
        simp [results, Try.results37, asAddr, hl]
      · have HD : Hid (decO geS (4 :: l) = none) := by
          unfold Hid
          rw [hDec, if_neg (by rintro ⟨_, _, h⟩; exact heq (by rw [el.out, h]))]
        have hq := Same_no Ao lo co (some ⟨gb, off, none⟩) (4 :: l) c w6 _ _ hr6 hrb heq
        rw [← hnl] at hq
        clear hDec heq hr hrb hr6 hck hnl
        go_wp2_with ((first
          | (go_at_call 15; refine hq.mono ?_; rintro e w7 ⟨rfl, rfl⟩)
          | (refine wpList_store_blk (by rfl) _ (.tmp 2) (.tmp 141) rfl w.heap.size zcells rfl rfl 43 zcells hB7 (by kernel_rfl) rfl (by decide) ?_; intro w8 hB8 hg8)))
        have hl := Go.run_loadVar_row (P := Try.prog) w8 w.heap.size 43 43 zcells.toArray (0, 0) _ hB8 Try.underlying43 rfl (by kernel_rfl)
        rw [HD.out]
        refine bodyPost_ret (v := .tuple #[.agg zcells.toArray, .int .i64 2]) ?_ rfl ⟨rfl, hbe.grown hg8 hbe.size (fun k hk => by cases hk; exact Nat.le_refl _)⟩
        simp [results, Try.results37, asAddr, hl]
  · have HD : Hid (decO geS (4 :: l) = none) := by
      unfold Hid
      rw [hDec, if_neg (by rw [hck]; simp)]
    clear hDec hck
    cases b3 with
    | true =>
      go_wp2_with ((refine wpList_store_blk (by rfl) _ (.tmp 2) (.tmp 141) rfl w.heap.size zcells rfl rfl 43 zcells hB7 (by kernel_rfl) rfl (by decide) ?_; intro w8 hB8 hg8))
      have hl := Go.run_loadVar_row (P := Try.prog) w8 w.heap.size 43 43 zcells.toArray (0, 0) _ hB8 Try.underlying43 rfl (by kernel_rfl)
      rw [HD.out]
      refine bodyPost_ret (v := .tuple #[.agg zcells.toArray, .int .i64 2]) ?_ rfl ⟨rfl, hbe.grown hg8 hbe.size (fun k hk => by cases hk; exact Nat.le_refl _)⟩
      simp [results, Try.results37, asAddr, hl]
    | false =>
      go_wp2_with ((refine wpList_store_blk (by rfl) _ (.tmp 2) (.tmp 141) rfl w.heap.size zcells rfl rfl 43 zcells hB7 (by kernel_rfl) rfl (by decide) ?_; intro w8 hB8 hg8))
      have hl := Go.run_loadVar_row (P := Try.prog) w8 w.heap.size 43 43 zcells.toArray (0, 0) _ hB8 Try.underlying43 rfl (by kernel_rfl)
      rw [HD.out]
      refine bodyPost_ret (v := .tuple #[.agg zcells.toArray, .int .i64 2]) ?_ rfl ⟨rfl, hbe.grown hg8 hbe.size (fun k hk => by cases hk; exact Nat.le_refl _)⟩
      simp [results, Try.results37, asAddr, hl]
end Go.Proofs.Ytcefbhmmijmefaa
