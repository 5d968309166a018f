/- The walk of the laws' 'shadowed': files but one, and but shadows. Conditions: fewer than 3518437208883 files. -/
import Derived.Test.YtegolgkagdlocaaRefDisk
import Derived.Test.YtegolgkagdlocaaSafeSpec
namespace Go.Proofs.Ytegolgkagdlocaa
open Go.RowKit Go.Dol
set_option linter.unusedVariables false
/-- Is a name neither this one nor its shadow's? -/
def keepN (n x : ByteArray) : Bool := !(x.toList == n.toList) && !(x.toList == (shd n).toList)
/-- What 'shadowed' hands back. -/
def RetShad (w : World) (fs : List FilA) (e : Ending) (w' : World) : Prop :=
  ∃ (ys : List FilA) (A : Option Addr) (c : Nat), Hid (ys = fs) ∧ e = .returned (.slice A ys.length c) ∧ w'.ownsRow w.heap.size 47 2 (.slice A ys.length c) ys.length (fc ys) ∧ Below w.heap.size w w'
def ShRel (fs : List FilA) (n : ByteArray) (w : World) (q i : Value) (wr : World) : Prop :=
  ∃ (k : Nat) (ys : List FilA) (A : Option Addr) (c : Nat), q = .slice A ys.length c ∧ i = .int .i64 k ∧ k ≤ fs.length ∧ Hid (ys = (fs.take k).filter fun x => keepN n x.n) ∧ ys.length ≤ k ∧ wr.ownsRow w.heap.size 47 2 (.slice A ys.length c) ys.length (fc ys) ∧ Below w.heap.size w wr
set_option maxRecDepth 100000 in
set_option maxHeartbeats 1600000 in
theorem shadowed_calls (A : Option Addr) (fs : List FilA) (c : Nat) (n : ByteArray) (w : World) (hr : Rd w w.heap.size 2 A fs.length (fc fs)) (hl : fs.length ≤ 3518437208880) (hn : n.size ≤ 140737488355328) :
    Calls Try.prog 19 #[.slice A fs.length c, .string n] w (RetShad w (fs.filter fun x => keepN n x.n)) := by
  go_enter Try.func19, Try.ntmps19
  go_wp2_with fail
  go_loopw [5, 6] (fun q i wr => ShRel fs n w q i wr) (fun _ i _ => fs.length - (intOf i).toNat)
  case atStart => exact ⟨0, [], none, 0, rfl, rfl, Nat.zero_le _, rfl, Nat.le_refl _, World.ownsRow_nil _ _ _ _, Below.refl _ _⟩
  case round =>
    obtain ⟨k, ys, A5, c5, rfl, rfl, hk, hy, hyl, ho, hb⟩ := hrel
    have hs := hb.size
    by_cases hlt : k < fs.length
    · have hd : decide ((k : Int) < (fs.length : Int)) = true := decide_eq_true (by omega)
      have hd' : (k : Int) < (fs.length : Int) := by omega
      have hk0 : (0 : Int) ≤ (k : Int) := by omega
      obtain ⟨x, hx⟩ : ∃ x, fs[k]? = some x := ⟨fs[k], List.getElem?_eq_getElem hlt⟩
      have hnext : (fs.take (k + 1)).filter (fun x => keepN n x.n) = (fs.take k).filter (fun x => keepN n x.n) ++ if keepN n x.n = true then [x] else [] := by
        rw [List.take_add_one, hx, List.filter_append]
        congr 1
        simp [List.filter_cons]
      have hrw := hr.belowW hb (Nat.le_refl _)
      obtain ⟨bb, off, rfl, hbb, hcell⟩ := hrw.at_ (by omega)
      have q0 : wr.cell? ⟨bb, off + k * 2, none⟩ = _ := hcell _ _ (fc_get hx).1
      have q1 : wr.cell? ⟨bb, off + k * 2 + 1, none⟩ = _ := hcell _ _ (fc_get hx).2
      have hFT := Rd.fileT wr 47 x
      have f1 : IntKind.i64.wrap ((k : Int) + 1) = (k : Int) + 1 := IntWalk.i64_in _ (by omega)
      obtain ⟨xn, xb, xA, xc⟩ := x
      simp only at q0 q1 hFT hnext
      cases hK : keepN n xn with
      | true =>
        rw [hK, if_pos rfl] at hnext
        have HX := Lib.hid hnext
        unfold keepN at hK
        simp only [Bool.and_eq_true, Bool.not_eq_true'] at hK
        obtain ⟨k1, k2⟩ := hK
        have k2' : (xn.toList == (n ++ ⟨#[126]⟩ : ByteArray).toList) = false := k2
        clear hx hcell hrw hnext hr k2
        go_wp2_with (at_builtin; refine appF rfl (.tmp 28) (.tmp 36) rfl w.heap.size _ ys ys.length rfl rfl (World.ownsRow.alloc ho _) (wr.heap.size + 1) _ 1 1 [⟨xn, xb, xA, xc⟩] rfl rfl hFT (by omega) (by simp only [World.size_alloc]; omega) ?_; intro zs A3 c3 w3 he3 ho3 hb3 hg3)
        have hzl : zs.length = ys.length + 1 := by rw [he3.out, List.length_append]; rfl
        refine ⟨⟨k + 1, zs, A3, c3, rfl, by go_num, by omega, ?_, by omega, ho3, hb.trans (((Below.refl _ _).alloc hs _).trans hb3)⟩, by simp [intOf]; omega⟩
        unfold Hid
        rw [he3.out, HX.out, hy.out]
      | false =>
        rw [hK, if_neg (by decide), List.append_nil] at hnext
        have HX := Lib.hid hnext
        by_cases h1 : xn.toList = n.toList
        · have k1 : (xn.toList == n.toList) = true := beq_iff_eq.2 h1
          clear hx hcell hrw hnext hr hFT
          go_wp2_with fail
          refine ⟨⟨k + 1, ys, A5, c5, rfl, by go_num, by omega, ?_, by omega, ho, hb⟩, by simp [intOf]; omega⟩
          unfold Hid
          rw [HX.out, hy.out]
        · have k1 : (xn.toList == n.toList) = false := beq_eq_false_iff_ne.2 h1
          unfold keepN at hK
          rw [k1] at hK
          have k2 : (xn.toList == (n ++ ⟨#[126]⟩ : ByteArray).toList) = true := by
            cases h2 : (xn.toList == (n ++ ⟨#[126]⟩ : ByteArray).toList) with
            | true => rfl
            | false =>
              have h3 : (xn.toList == (shd n).toList) = false := h2
              rw [h3] at hK
              cases hK
          clear hx hcell hrw hnext hr hFT hK
          go_wp2_with fail
          refine ⟨⟨k + 1, ys, A5, c5, rfl, by go_num, by omega, ?_, by omega, ho, hb⟩, by simp [intOf]; omega⟩
          unfold Hid
          rw [HX.out, hy.out]
    · have hd : decide ((k : Int) < (fs.length : Int)) = false := decide_eq_false (by omega)
      have hkf : k = fs.length := by omega
      have hall : ys = fs.filter fun x => keepN n x.n := by rw [hy.out, hkf, List.take_length]
      have HA := Lib.hid hall
      clear hall hkf
      go_wp2_with fail
      go_ret
      exact ⟨ys, A5, c5, HA, rfl, ho, hb⟩
end Go.Proofs.Ytegolgkagdlocaa
