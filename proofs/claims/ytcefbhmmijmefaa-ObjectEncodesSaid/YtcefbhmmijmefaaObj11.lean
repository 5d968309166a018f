/- The walks of the layer 'object', its eleventh part: an id of a number; Decode where the first byte is no kind. Conditions: lengths below 2^47. -/
import Derived.Test.YtcefbhmmijmefaaObj10
import Derived.Test.YtcefbhmmijmefaaArr
namespace Go.Proofs.Ytcefbhmmijmefaa
open Go.RowKit Go.Dol
set_option linter.unusedVariables false

def IdRel (c : Nat) (w : World) (b i : Value) (wr : World) : Prop :=
  ∃ (k : Nat) (l1 : List UInt8) (A1 : Option Addr) (c1 : Nat), b = .slice A1 l1.length c1 ∧ i = .int .i64 k ∧ k ≤ 32 ∧ wr.ownsRow w.heap.size 5 1 (.slice A1 l1.length c1) l1.length (bc l1) ∧ Hid (l1 = List.replicate k (UInt8.ofNat c)) ∧ Below w.heap.size w wr

set_option maxRecDepth 100000 in
set_option maxHeartbeats 400000 in
theorem id_calls (c : Nat) (w : World) (hc : c < 256) : Calls Try.prog 58 #[.int .u8 c] w fun e w' => e = .returned (.string ⟨(List.replicate 32 (UInt8.ofNat c)).toArray⟩) ∧ Below w.heap.size w w' := by
  go_enter Try.func58, Try.ntmps58
  go_wp2_with fail
  go_loopw [3, 4] (fun b i wr => IdRel c w b i wr) (fun _ i _ => 32 - (intOf i).toNat)
  case atStart => exact ⟨0, [], none, 0, rfl, rfl, by omega, World.ownsRow_nil _ _ _ _, rfl, Below.refl _ _⟩
  case round =>
    obtain ⟨k, l1, A1, c1, rfl, rfl, hk, ho, hl1, hbl⟩ := hrel
    have hs := hbl.size
    have hlen : l1.length = k := by rw [hl1.out, List.length_replicate]
    have hll : l1.length ≤ 32 := by omega
    have hro := Rd.of_own ho
    clear hlen
    by_cases hlt : k < 32
    · go_wp2_with (at_builtin; refine push8 rfl (.tmp 9) (.tmp 11) rfl w.heap.size _ l1.length l1 rfl ho rfl (by omega) (by omega) (by omega) (by omega) ?_)
      intro d l' A' c' w' hd e' g1 gb g2 g3 g4 g5
      go_wp2_with fail
      refine ⟨⟨k + 1, l', A', c', rfl, by go_num, by omega, g1, ?_, hbl.trans gb⟩, by simp [intOf]; omega⟩
      have hd' := byte_of (n := c) hd rfl
      unfold Hid at *
      rw [e', hl1, hd', List.replicate_succ']
    · have hk32 : k = 32 := by omega
      have hcv : (convert 22 9 (.slice A1 l1.length c1)).run Try.prog wr = .ok (.string ⟨l1.toArray⟩) wr := conv8f hro
      have HK := Lib.hid hk32
      clear hk32
      go_wp2_with fail
      go_ret
      have := hl1.out
      rw [HK.out] at this
      exact ⟨by rw [this]; rfl, hbl⟩

set_option maxRecDepth 100000 in
set_option maxHeartbeats 4000000 in
theorem bodyN_calls (q : Addr) (k : Int) (w : World) (h1 : k ≠ 1) (h2 : k ≠ 2) (h3 : k ≠ 3) (h4 : k ≠ 4) :
    Calls Try.prog 60 #[.pointer (some q), .int .i64 k] w fun e w' => e = .returned .nilIface ∧ Below w.heap.size w w' := by
  have hb0 : Below w.heap.size w (w.alloc (.cells #[.pointer (some q)] 72)) := (Below.refl _ _).alloc (Nat.le_refl _) _
  have d1 : (k == 1) = false := beq_eq_false_iff_ne.2 h1
  have d2 : (k == 2) = false := beq_eq_false_iff_ne.2 h2
  have d3 : (k == 3) = false := beq_eq_false_iff_ne.2 h3
  have d4 : (k == 4) = false := beq_eq_false_iff_ne.2 h4
  clear h1 h2 h3 h4
  go_enter Try.func60, Try.ntmps60
  go_wp2_with fail
  go_ret
  exact ⟨rfl, hb0⟩

/-- The object with nothing in it, as its cells. -/
def zcells : List Value := [.int .i64 0, .slice none 0 0, .slice none 0 0, .string ⟨#[]⟩, .slice none 0 0, .string ⟨#[]⟩, .string ⟨#[]⟩, .string ⟨#[]⟩, .int .i64 0, .string ⟨#[]⟩]

set_option maxRecDepth 100000 in
set_option maxHeartbeats 4000000 in
/-- Bytes whose first is no kind are no object. -/
theorem DecodeN_calls (A : Option Addr) (x : UInt8) (l : List UInt8) (n c : Nat) (w : World) (hn : n = l.length + 1) (hr : Rd w w.heap.size 1 A n (bc (x :: l))) (hc : n ≤ c) (hcm : c ≤ maxLen) (h1 : x ≠ 1) (h2 : x ≠ 2) (h3 : x ≠ 3) (h4 : x ≠ 4) :
    Calls Try.prog 36 #[.slice A n c] w fun e w' => e = .returned (.tuple #[.agg #[.int .i64 0, .slice none 0 0, .slice none 0 0, .string ⟨#[]⟩, .slice none 0 0, .string ⟨#[]⟩, .string ⟨#[]⟩, .string ⟨#[]⟩, .int .i64 0, .string ⟨#[]⟩], .int .i64 2]) ∧ Below w.heap.size w w' := by
  have d0 : ((n : Int) == 0) = false := beq_eq_false_iff_ne.2 (by omega)
  have hn0 : (0 : Int) < (n : Int) := by omega
  obtain ⟨m, A', c', em, jm, jm', ⟨rm, km, km'⟩, _, _, _, sm⟩ := sl_from (k := 1) (l := x :: l) (c := c) 1 rfl (by rw [List.length_cons, ← hn]; exact hr) (by simp) (by simp; omega) hcm
  rw [List.length_cons, ← hn] at sm
  obtain ⟨g, off, rfl, hg, hcell⟩ := hr.at_ (by omega)
  have hb1 : Below w.heap.size w (w.alloc (.cells #[.int .i64 0, .slice none 0 0, .slice none 0 0, .string ⟨#[]⟩, .slice none 0 0, .string ⟨#[]⟩, .string ⟨#[]⟩, .string ⟨#[]⟩, .int .i64 0, .string ⟨#[]⟩] 43)) := (Below.refl _ _).alloc (Nat.le_refl _) _
  have hb2 := hb1.alloc hb1.size (.cells #[.slice A' m.length c', .int .i64 0] 74)
  have hB1 := Blk.new w 43 zcells
  have hB2 := hB1.alloc (.cells #[.slice A' m.length c', .int .i64 0] 74)
  have hR2 := Blk.new (w.alloc (.cells #[.int .i64 0, .slice none 0 0, .slice none 0 0, .string ⟨#[]⟩, .slice none 0 0, .string ⟨#[]⟩, .string ⟨#[]⟩, .string ⟨#[]⟩, .int .i64 0, .string ⟨#[]⟩] 43)) 74 [.slice A' m.length c', .int .i64 0]
  have hx0 : ((w.alloc (.cells #[.int .i64 0, .slice none 0 0, .slice none 0 0, .string ⟨#[]⟩, .slice none 0 0, .string ⟨#[]⟩, .string ⟨#[]⟩, .string ⟨#[]⟩, .int .i64 0, .string ⟨#[]⟩] 43)).alloc (.cells #[.slice A' m.length c', .int .i64 0] 74)).cell? ⟨g, off, none⟩ = some (.int .u8 x.toNat) := by
    have := hcell 0 (.int .u8 x.toNat) rfl
    rw [← this]
    exact hb2.cell (p := ⟨g, off, none⟩) hg
  have k1 : ((x.toNat : Nat) : Int) ≠ 1 := fun e => h1 (UInt8.toNat_inj.1 (by rw [show (1 : UInt8).toNat = 1 from rfl]; omega))
  have k2 : ((x.toNat : Nat) : Int) ≠ 2 := fun e => h2 (UInt8.toNat_inj.1 (by rw [show (2 : UInt8).toNat = 2 from rfl]; omega))
  have k3 : ((x.toNat : Nat) : Int) ≠ 3 := fun e => h3 (UInt8.toNat_inj.1 (by rw [show (3 : UInt8).toNat = 3 from rfl]; omega))
  have k4 : ((x.toNat : Nat) : Int) ≠ 4 := fun e => h4 (UInt8.toNat_inj.1 (by rw [show (4 : UInt8).toNat = 4 from rfl]; omega))
  have hxl : x.toNat < 256 := x.toNat_lt
  have hwx : IntKind.i64.wrap (x.toNat : Int) = (x.toNat : Int) := IntWalk.i64_in _ (by omega)
  clear hr hcell h1 h2 h3 h4 jm jm' rm km km'
  have HN := Lib.hid hn
  clear hn
  have K1 := Lib.hid k1
  have K2 := Lib.hid k2
  have K3 := Lib.hid k3
  have K4 := Lib.hid k4
  clear k1 k2 k3 k4
  go_enter Try.func36, Try.ntmps36
  go_wp2_with ((go_at_call 60; refine (bodyN_calls _ _ _ K1.out K2.out K3.out K4.out).mono ?_; rintro e w3 ⟨rfl, hb3⟩))
  refine (madeN_calls w3).mono ?_
  rintro e w4 ⟨rfl, hb4⟩
  have hb34 := hb3.next hb4
  have hR4 := hR2.below hb34 hR2.lt
  have hB4 := hB2.below hb34 hB2.lt
  have hO := Blk.new w4 43 zcells
  obtain ⟨z0, z1, z2, z3, z4, z5, z6, z7, z8, z9⟩ := obj_cells hO
  have hzc : Hid (checkB geS ⟨0, [], [], ⟨#[]⟩, [], ⟨#[]⟩, ⟨#[]⟩, ⟨#[]⟩, 0, ⟨#[]⟩⟩ = false) := rfl
  have hE := Encode_wrong 0 none [] 0 none [] 0 ⟨#[]⟩ none [] 0 ⟨#[]⟩ ⟨#[]⟩ ⟨#[]⟩ 0 ⟨#[]⟩ (w4.alloc (.cells zcells.toArray 43)) Rd.nil Rd.nil Rd.nil (by simp) (by simp) (by unfold Hid; simp) hzc
  go_wp2_with fail
  refine hE.mono ?_
  rintro e w5 ⟨rfl, hb5⟩
  have hb45 : Below w4.heap.size w4 w5 := ((Below.refl _ _).alloc (Nat.le_refl _) _).next hb5
  have hR5 := hR4.below hb45 hR4.lt
  have hB5 := hB4.below hb45 hB4.lt
  have e1 : w5.cell? ⟨w.heap.size + 1, 1, none⟩ = some (.int .i64 0) := by
    have := hR5.cell 1
    simpa using this
  clear hE
  go_wp2_with ((refine wpList_store_blk (by rfl) _ (.tmp 2) (.tmp 43) rfl w.heap.size zcells rfl rfl 43 zcells hB5 (by kernel_rfl) rfl (by decide) ?_; intro w6 hB6 hg6))
  have hbe : Below w.heap.size w w5 := hb2.trans ((hb34.mono hb2.size).trans (hb45.mono (Nat.le_trans hb2.size hb34.size)))
  have hl := Go.run_loadVar_row (P := Try.prog) w6 w.heap.size 43 43 zcells.toArray (0, 0) _ hB6 Try.underlying43 rfl (by kernel_rfl)
  refine bodyPost_ret (v := .tuple #[.agg zcells.toArray, .int .i64 2]) ?_ rfl ⟨rfl, hbe.grown hg6 hbe.size (fun k hk => by cases hk; exact Nat.le_refl _)⟩
  simp [results, Try.results36, asAddr, hl]
end Go.Proofs.Ytcefbhmmijmefaa
