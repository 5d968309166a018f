/- The walk of the law's turning of files: theirs. Conditions: fewer than 3518437208880 files. -/
import Derived.Test.YtegolgkagdlocaaFil
import Derived.Test.YtegolgkagdlocaaAppN
import Derived.Deep.RegionHeld3
namespace Go.Proofs.Ytegolgkagdlocaa
open Go.RowKit Go.Dol
set_option linter.unusedVariables false
theorem info_theirs5 : (Try.prog.info? 47).map (fun i => (i.zero, i.size, i.bytes)) = some (some (.agg #[.string ⟨#[]⟩, .slice none 0 0]), 2, 40) := by kernel_rfl
/-- What 'theirs5' hands back. -/
def Ret_theirs5 (w : World) (fs : List FilA) (e : Ending) (w' : World) : Prop :=
  ∃ (ys : List FilA) (A : Option Addr) (c : Nat), Hid (ys = fs) ∧ e = .returned (.slice A ys.length c) ∧ w'.ownsRow w.heap.size 47 2 (.slice A ys.length c) ys.length (fc ys) ∧ Below w.heap.size w w'
def Rel_theirs5 (fs : List FilA) (w : World) (q i : Value) (wr : World) : Prop :=
  ∃ (k : Nat) (ys : List FilA) (A : Option Addr) (c : Nat), q = .slice A ys.length c ∧ i = .int .i64 k ∧ k ≤ fs.length ∧ Hid (ys = fs.take k) ∧ ys.length = k ∧ wr.ownsRow w.heap.size 47 2 (.slice A ys.length c) ys.length (fc ys) ∧ Below w.heap.size w wr
set_option maxRecDepth 100000 in
set_option maxHeartbeats 1600000 in
theorem theirs5_calls (A : Option Addr) (fs : List FilA) (c : Nat) (w : World) (hr : Rd w w.heap.size 2 A fs.length (fc fs)) (hl : fs.length ≤ 3518437208880) :
    Calls Try.prog 22 #[.slice A fs.length c] w (Ret_theirs5 w fs) := by
  go_enter Try.func22, Try.ntmps22
  go_wp2_with fail
  go_loopw [3, 4] (fun q i wr => Rel_theirs5 fs w q i wr) (fun _ i _ => fs.length - (intOf i).toNat)
  case atStart => exact ⟨0, [], none, 0, rfl, rfl, Nat.zero_le _, rfl, rfl, World.ownsRow_nil _ _ _ _, Below.refl _ _⟩
  case round =>
    obtain ⟨k, ys, A5, c5, rfl, rfl, hk, hy, hyl, ho, hb⟩ := hrel
    have hs := hb.size
    by_cases hlt : k < fs.length
    · have hd : decide ((k : Int) < (fs.length : Int)) = true := decide_eq_true (by omega)
      have hd' : (k : Int) < (fs.length : Int) := by omega
      have hk0 : (0 : Int) ≤ (k : Int) := by omega
      obtain ⟨x, hx⟩ : ∃ x, fs[k]? = some x := ⟨fs[k], List.getElem?_eq_getElem hlt⟩
      have hnext : fs.take (k + 1) = fs.take k ++ [x] := by rw [List.take_add_one, hx]; rfl
      have hrw := hr.belowW hb (Nat.le_refl _)
      obtain ⟨bb, off, rfl, hbb, hcell⟩ := hrw.at_ (by omega)
      have q0 : wr.cell? ⟨bb, off + k * 2, none⟩ = _ := hcell _ _ (fc_get hx).1
      have q1 : wr.cell? ⟨bb, off + k * 2 + 1, none⟩ = _ := hcell _ _ (fc_get hx).2
      have z2 : Below wr.heap.size wr (wr.alloc (.cells x.cells.toArray 47)) := (Below.refl _ _).alloc (Nat.le_refl _) _
      have hxr := (Rd.fileT wr 47 x).drew
      have hone := fc_one [x]
      have f1 : IntKind.i64.wrap ((k : Int) + 1) = (k : Int) + 1 := IntWalk.i64_in _ (by omega)
      have hyk : ys.length ≤ 3518437208880 := by omega
      obtain ⟨xn, xb, xA, xc⟩ := x
      simp only at q0 q1 hxr
      have HX := Lib.hid hnext
      have HL := Lib.hid hyl
      clear hx hcell hrw hnext hr hyl
      go_wp2_with fail
      go_region_held3 (fun w' => w'.cell? ⟨bb, off + k * 2, none⟩ = some (.string xn) ∧ w'.cell? ⟨bb, off + k * 2 + 1, none⟩ = some (.slice xA xb.length xc)) (first | go_keep | (go_split_ands; refine ⟨?_, ?_⟩ <;> (rw [z2.cell (p := ⟨bb, _, none⟩) hbb]; assumption)))
        ((refine appNr (by rfl) (.tmp 11) (.tmp 23) 22 47 _ 2 40 (by rfl) Try.underlying22 info_theirs5 rfl (by decide) w.heap.size _ ys.length (fc ys) (by rfl) (World.ownsRow.alloc (w := World.drew wr) ho _) (wr.heap.size + 1) _ 1 1 (fc [⟨xn, xb, xA, xc⟩]) (by rfl) hxr hone (by unfold maxLen; omega) (by omega) (by simp; omega) ?_; intro A' c' w' z1 z2 z3 z4 z5))
      go_wp2_with fail
      have hzl : (ys ++ [(⟨xn, xb, xA, xc⟩ : FilA)]).length = ys.length + 1 := by rw [List.length_append]; rfl
      refine ⟨⟨k + 1, ys ++ [⟨xn, xb, xA, xc⟩], A', c', by rw [hzl], by go_num, by omega, ?_, by rw [hzl, HL.out], ?_, hb.trans (((Below.refl _ _).alloc hs _).drew.trans z2)⟩, by simp [intOf]; omega⟩
      · unfold Hid
        rw [HX.out, hy.out]
      · rw [hzl, fc_append]
        exact z1
    · have hd : decide ((k : Int) < (fs.length : Int)) = false := decide_eq_false (by omega)
      have hkf : k = fs.length := by omega
      have hall : ys = fs := by rw [hy.out, hkf, List.take_length]
      have HA := Lib.hid hall
      clear hall hkf
      go_wp2_with fail
      go_ret
      exact ⟨ys, A5, c5, HA, rfl, ho, hb⟩
end Go.Proofs.Ytegolgkagdlocaa
