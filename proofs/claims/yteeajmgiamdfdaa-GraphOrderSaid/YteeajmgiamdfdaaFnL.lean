/- The library's slices.IndexFunc, ContainsFunc, Clone, DeleteFunc, Delete on texts, at closures that only make memory. Conditions: fewer than 2^40 texts. -/
import Derived.Test.YteeajmgiamdfdaaMapDel
import Derived.Test.YteeajmgiamdfdaaPieceT
import Derived.Test.YteeajmgiamdfdaaAppS
import Derived.Lib.SliceRun
namespace Go.Proofs.Yteeajmgiamdfdaa
open Go.RowKit Go.Dol
set_option linter.unusedVariables false
/-- A closure that says p of each text of a row, in all worlds that come of v0 by what is made. -/
def Says (g : Nat) (cb : Array Value) (p : ByteArray → Bool) (l : List ByteArray) (v0 : World) : Prop :=
  ∀ W, Below v0.heap.size v0 W → ∀ x ∈ l, Calls Try.prog g (#[.string x] ++ cb) W fun e W' => e = .returned (.bool (p x)) ∧ Below W.heap.size W W'
/-- The first place at which p holds. -/
def FirstAt (p : ByteArray → Bool) (l : List ByteArray) (e : Ending) : Prop :=
  (e = .returned (.int .i64 (-1)) ∧ Hid (∀ x ∈ l, p x = false)) ∨ ∃ (k : Nat) (x : ByteArray), e = .returned (.int .i64 k) ∧ k < l.length ∧ Hid (l[k]? = some x) ∧ Hid (p x = true) ∧ Hid (∀ j, j < k → ∀ y, l[j]? = some y → p y = false)
def IdxRel (p : ByteArray → Bool) (l : List ByteArray) (w : World) (i : Value) (wr : World) : Prop :=
  ∃ k : Nat, i = .int .i64 k ∧ k ≤ l.length ∧ Hid (∀ j, j < k → ∀ y, l[j]? = some y → p y = false) ∧ Below w.heap.size w wr
set_option maxRecDepth 100000 in
set_option maxHeartbeats 3200000 in
theorem indexFunc_calls (g : Nat) (cb : Array Value) (p : ByteArray → Bool) (v0 : World) (A : Option Addr) (l : List ByteArray) (c : Nat) (w : World) (hv : Below v0.heap.size v0 w) (hr : Rd w w.heap.size 1 A l.length (pc l)) (hl : l.length ≤ 1099511627776)
    (eg : ∀ args w, (callFunc g args).run Try.prog w = .ok (.enter g args) w) (hp : Says g cb p l v0) :
    Calls Try.prog 36 #[.slice A l.length c, .func (.func g) #[] cb] w fun e w' => FirstAt p l e ∧ Below w.heap.size w w' := by
  have HP := Lib.hid hp
  clear hp
  go_enter Try.func36, Try.ntmps36
  go_wp2_with fail
  go_loopw [8] (fun i wr => IdxRel p l w i wr) (fun i _ => l.length - (intOf i).toNat)
  case atStart => exact ⟨0, rfl, Nat.zero_le _, fun j hj => by omega, Below.refl _ _⟩
  case round =>
    obtain ⟨k, rfl, hk, hno, hb⟩ := hrel
    have f1 : IntKind.i64.wrap ((k : Int) + 1) = (k : Int) + 1 := IntWalk.i64_in _ (by omega)
    by_cases hlt : k < l.length
    · have hd : decide ((k : Int) < (l.length : Int)) = true := decide_eq_true (by omega)
      have hd' : (k : Int) < (l.length : Int) := by omega
      have hk0 : (0 : Int) ≤ (k : Int) := by omega
      obtain ⟨x, hx⟩ : ∃ x, l[k]? = some x := ⟨l[k], List.getElem?_eq_getElem hlt⟩
      have hrw := hr.belowW hb (Nat.le_refl _)
      obtain ⟨bl, ol, rfl, hbl, hcl⟩ := hrw.at_ (by omega)
      have cx : wr.cell? ⟨bl, ol + k, none⟩ = some (.string x) := hcl k _ (by simp [pc, hx])
      have hc := HP.out wr (hv.next hb) x (List.mem_of_getElem? hx)
      obtain ⟨b, hpb⟩ : ∃ b, b = p x := ⟨_, rfl⟩
      rw [← hpb] at hc
      have HPX := Lib.hid hpb
      have HX := Lib.hid hx
      clear hx hcl hrw hpb
      cases b with
      | true =>
        go_wp2_with (go_at_fn g; refine hc.mono ?_; rintro e w2 ⟨rfl, hb2⟩)
        go_ret
        exact ⟨.inr ⟨k, x, rfl, hlt, HX, HPX.out.symm, hno⟩, hb.next hb2⟩
      | false =>
        have HN : Hid (∀ j, j < k + 1 → ∀ y, l[j]? = some y → p y = false) := fun j hj y hy => by
          by_cases e : j = k
          · rw [e, HX.out] at hy
            injection hy with hy
            rw [← hy]
            exact HPX.out.symm
          · exact hno.out j (by omega) y hy
        go_wp2_with (go_at_fn g; refine hc.mono ?_; rintro e w2 ⟨rfl, hb2⟩)
        exact ⟨⟨k + 1, by go_num, by omega, HN, hb.next hb2⟩, by simp [intOf]; omega⟩
    · have hd : decide ((k : Int) < (l.length : Int)) = false := decide_eq_false (by omega)
      have HN : Hid (∀ x ∈ l, p x = false) := fun x hx => by
        obtain ⟨j, hj, e⟩ := List.mem_iff_getElem.1 hx
        exact hno.out j (by omega) x (by rw [List.getElem?_eq_getElem hj, e])
      go_wp2_with fail
      go_ret
      exact ⟨.inl ⟨rfl, HN⟩, hb⟩
set_option maxRecDepth 100000 in
set_option maxHeartbeats 3200000 in
theorem containsFunc_calls (g : Nat) (cb : Array Value) (p : ByteArray → Bool) (v0 : World) (A : Option Addr) (l : List ByteArray) (c : Nat) (w : World) (hv : Below v0.heap.size v0 w) (hr : Rd w w.heap.size 1 A l.length (pc l)) (hl : l.length ≤ 1099511627776)
    (eg : ∀ args w, (callFunc g args).run Try.prog w = .ok (.enter g args) w) (hp : Says g cb p l v0) :
    Calls Try.prog 31 #[.slice A l.length c, .func (.func g) #[] cb] w fun e w' => e = .returned (.bool (l.any p)) ∧ Below w.heap.size w w' := by
  have HI := Lib.hid (indexFunc_calls g cb p v0 A l c w hv hr hl eg hp)
  clear hp eg hv hr
  go_enter Try.func31, Try.ntmps31
  go_wp2_with fail
  refine HI.out.mono ?_
  rintro e w1 ⟨⟨rfl, hn⟩ | ⟨k, x, rfl, hk, hx, hpx, hn⟩, hb⟩
  · have HA : Hid (l.any p = false) := by
      unfold Hid
      rw [List.any_eq_false]
      intro x hx
      rw [hn.out x hx]
      simp
    go_wp2_with fail
    go_ret
    rw [HA.out]
    exact ⟨rfl, hb⟩
  · have HA : Hid (l.any p = true) := by
      unfold Hid
      rw [List.any_eq_true]
      exact ⟨x, List.mem_of_getElem? hx.out, hpx.out⟩
    have hk0 : (0 : Int) ≤ (k : Int) := by omega
    go_wp2_with fail
    go_ret
    rw [HA.out]
    exact ⟨rfl, hb⟩
end Go.Proofs.Yteeajmgiamdfdaa
