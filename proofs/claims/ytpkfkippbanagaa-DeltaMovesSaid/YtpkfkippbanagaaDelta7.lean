/- The walks of the layer 'delta', its seventh part: the index of a base's blocks. Conditions: lengths below 2^40. -/
import Derived.Test.YtpkfkippbanagaaDelta6
import Derived.Test.YtpkfkippbanagaaArr
namespace Go.Proofs.Ytpkfkippbanagaa
open Go.RowKit Go.Dol
set_option linter.unusedVariables false

theorem block_law : Go.Maps.Keyed Try.prog 60 :=
  Go.Maps.Keyed.of_law (deep_law_laid (m := 2) (by kernel_rfl) (by decide) (of_decide_eq_true (by kernel_rfl)) (by kernel_rfl) (by rw [Try.underlying60]))
theorem block_key (K : List UInt8) (hK : K.length = 16) : ∃ kl, keyOf Try.prog 60 (kvB K) = some kl :=
  keyOf_bytes (n := 16) Try.underlying60 (by kernel_rfl) (by kernel_rfl) Try.underlying5 (by kernel_rfl) ⟨Try.prog.types.size - 1, by kernel_rfl⟩ K hK
theorem int_zero (w : World) : (zeroValue 3).run Try.prog w = .ok (.int .i64 0) w := by kernel_rfl

theorem _root_.Go.Dol.rd_of_blk {w : World} {g : Nat} {T : TypeId} {cs : List Value} {n : Nat} (h : Blk w g T cs) (hn : cs.length = n) : Rd w (g + 1) 1 (some ⟨g, 0, none⟩) n cs :=
  ⟨by omega, fun _ => ⟨g, 0, rfl, by omega, fun j u hu => by rw [Nat.zero_add, h.cell]; exact hu⟩⟩

def RetIndex (b : List UInt8) (w : World) (e : Ending) (w' : World) : Prop :=
  ∃ n al, e = .returned (.map (some w.heap.size)) ∧ MapL Try.prog 60 w' w.heap.size al ∧ Hid (Idx b n al ∧ 16 * n ≤ b.length ∧ b.length < 16 * n + 16) ∧ Below w.heap.size w w'
def IndexRel (b : List UInt8) (w : World) (k : Value) (wr : World) : Prop :=
  ∃ (n i : Nat) (al : List (Value × Value)), k = .int .i64 (i : Nat) ∧ Hid (i = 16 * n) ∧ i ≤ b.length ∧ MapL Try.prog 60 wr w.heap.size al ∧ Hid (Idx b n al) ∧ Below w.heap.size w wr

set_option maxRecDepth 100000 in
set_option maxHeartbeats 800000 in
theorem index_calls (A : Option Addr) (b : List UInt8) (c : Nat) (w : World) (hr : Rd w w.heap.size 1 A b.length (bc b)) (hb : b.length ≤ 1099511627776) (hc : b.length ≤ c) (hcm : c ≤ maxLen) :
    Calls Try.prog 46 #[.slice A b.length c] w (RetIndex b w) := by
  go_enter Try.func46, Try.ntmps46
  have hmm := @run_makeMap Try.prog
  go_wp2_with fail
  clear hmm
  have hm0 : MapL Try.prog 60 (w.alloc (.map #[] 0)) w.heap.size [] := MapL.new w
  have hb0 : Below w.heap.size w (w.alloc (.map #[] 0)) := (Below.refl _ w).alloc (Nat.le_refl _) _
  obtain ⟨v0, hv0⟩ : ∃ v, v = w.alloc (.map #[] 0) := ⟨_, rfl⟩
  rw [← hv0] at hm0 hb0 ⊢
  clear hv0
  go_loopw [4] (fun k wr => IndexRel b w k wr) (fun k _ => b.length + 1 - (intOf k).toNat)
  case atStart => exact ⟨0, 0, [], rfl, rfl, Nat.zero_le _, hm0, Idx.nil b, hb0⟩
  case round =>
    clear hm0 hb0
    obtain ⟨n, i, al, rfl, hin, hib, hmap, hidx, hbel⟩ := hrel
    have f1 : IntKind.i64.wrap ((i : Int) + 16) = (i : Int) + 16 := IntWalk.i64_in _ (by omega)
    by_cases h1 : i + 16 ≤ b.length
    · have d1 : decide ((i : Int) + 16 ≤ (b.length : Int)) = true := by simp; omega
      have d1' : (i : Int) + 16 ≤ (b.length : Int) := by omega
      have hrw := hr.below hbel
      obtain ⟨m, Am, cm, em, jm, jm', ⟨rm, km, km'⟩, _, _, _, sm⟩ := sl_mid (lo := i) (hi := i + 16) (i : Int) ((i : Int) + 16) rfl (by omega) hrw (by omega) h1 hc hcm
      have hm16 : m.length = 16 := by omega
      have harr : (Instr.arrayAt 60 (.slice Am m.length cm)).run Try.prog wr = .ok (.pointer Am) wr := run_arrayAt wr _ _ 16 _ _ _ Try.underlying60 (by omega)
      have em' : Hid (m = (b.drop (16 * n)).take 16) := by unfold Hid; rw [em.out, hin.out, show 16 * n + 16 - 16 * n = 16 by omega]
      have HM := Lib.hid hm16
      clear hm16 em
      have hbm : (bc m).length = 16 := by rw [bc_length]; exact HM.out
      have HBM := Lib.hid hbm
      clear hbm
      have hz := Blk.new wr 60 (bc (List.replicate 16 (0 : UInt8)))
      have hbz : Below wr.heap.size wr (wr.alloc (.cells (bc (List.replicate 16 (0 : UInt8))).toArray 60)) := (Below.refl _ _).alloc (Nat.le_refl _) _
      go_wp2_with (first | (refine wpList_load_rd rfl 60 _ rfl Am rfl _ m.length (bc m) _ rm (by have := HM.out; omega) Try.underlying60 rfl (by rw [HM.out]; kernel_rfl) ?_) | (refine wpList_store_blk rfl 60 _ _ rfl wr.heap.size (bc m) rfl rfl 60 (bc (List.replicate 16 (0 : UInt8))) hz (by rw [HBM.out]; kernel_rfl) (by rw [HBM.out]; rfl) (bc_one _) ?_))
      intro w5 hB5 hg5
      have hb5 : Below wr.heap.size wr w5 := hbz.trans (below_of_grown hg5 (Nat.le_refl _) (by simp))
      have hmap5 := hmap.belowW hb5
      have hbel5 := hbel.trans (hb5.mono hbel.size)
      have r5 : Rd w5 (wr.heap.size + 1) 1 (some ⟨wr.heap.size, 0, none⟩) 16 (bc m) := rd_of_blk hB5 HBM.out
      obtain ⟨kl, hkl⟩ := block_key m HM.out
      clear hz hbz hg5 hb5 sm harr rm hrw f1
      rcases hmap5.look block_law Try.underlying56 (int_zero w5) hkl true with ⟨hmiss, hlk⟩ | ⟨v, hhit, hlk⟩
      · have hlk' : (Instr.lookup 56 (.map (some w.heap.size)) (.agg (bc m).toArray) true).run Try.prog w5 = .ok (.tuple #[.int .i64 0, .bool false]) w5 := hlk
        obtain ⟨al', w6, hup, hmap6, hput, hg6⟩ := hmap5.update block_law Try.underlying56 hkl (.int .i64 (i : Nat))
        have hup' : (Instr.mapUpdate 56 (.map (some w.heap.size)) (.agg (bc m).toArray) (.int .i64 (i : Nat))).run Try.prog w5 = .ok () w6 := hup
        have hidx' : Hid (Idx b (n + 1) al') := by
          unfold Hid
          have := hidx.out.put (al' := al') (by rw [← em'.out]; exact hmiss) (by rw [← em'.out, ← hin.out]; exact hput)
          exact this
        have hbel6 := hbel5.trans (below_of_grown hg6 (Nat.le_refl _) hbel5.size)
        clear hlk hup hmiss hput hmap5 hg6
        go_wp2_with (refine wpList_load_rd rfl 60 _ rfl _ rfl _ 16 (bc m) _ r5 (by decide) Try.underlying60 rfl (by kernel_rfl) ?_)
        exact ⟨⟨n + 1, i + 16, al', by go_num, by unfold Hid; rw [hin.out]; omega, h1, hmap6, hidx', hbel6⟩, by simp [intOf]; omega⟩
      · have hlk' : (Instr.lookup 56 (.map (some w.heap.size)) (.agg (bc m).toArray) true).run Try.prog w5 = .ok (.tuple #[v, .bool true]) w5 := hlk
        have hidx' : Hid (Idx b (n + 1) al) := hidx.out.met (v := v) (by rw [← em'.out]; exact hhit)
        clear hlk hhit
        go_wp2_with (refine wpList_load_rd rfl 60 _ rfl _ rfl _ 16 (bc m) _ r5 (by decide) Try.underlying60 rfl (by kernel_rfl) ?_)
        exact ⟨⟨n + 1, i + 16, al, by go_num, by unfold Hid; rw [hin.out]; omega, h1, hmap5, hidx', hbel5⟩, by simp [intOf]; omega⟩
    · have d1 : decide ((i : Int) + 16 ≤ (b.length : Int)) = false := by simp; omega
      have d1' : ¬ (i : Int) + 16 ≤ (b.length : Int) := by omega
      go_wp2_with fail
      go_ret
      exact ⟨n, al, rfl, hmap, ⟨hidx.out, by have := hin.out; omega, by have := hin.out; omega⟩, hbel⟩
end Go.Proofs.Ytpkfkippbanagaa
