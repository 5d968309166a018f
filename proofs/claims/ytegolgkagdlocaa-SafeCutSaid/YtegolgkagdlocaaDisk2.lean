/- The walks of the layer 'disk', its first part: which names may be. Conditions: lengths below 2^47. -/
import Derived.Test.YtegolgkagdlocaaDisk1
import Derived.Test.YtegolgkagdlocaaIndex
namespace Go.Proofs.Ytegolgkagdlocaa
open Go.RowKit Go.Dol
set_option linter.unusedVariables false

set_option maxRecDepth 100000 in
set_option maxHeartbeats 800000 in
theorem nameF_calls (n : ByteArray) (w : World) : Calls Try.prog 73 #[.string n] w fun e w' => e = .returned (.bool (!nameB n)) ∧ w' = w := by
  obtain ⟨r, hr⟩ : ∃ r, r = !nameB n := ⟨_, rfl⟩
  rw [← hr]
  by_cases h1 : n.size < 1
  · have d1 : decide ((n.size : Int) < 1) = true := decide_eq_true (by omega)
    have HF : Hid (r = true) := by unfold Hid nameB at *; rw [hr, decide_eq_false (show ¬ 1 ≤ n.size by omega)]; simp
    clear h1 hr
    go_enter Try.func73, Try.ntmps73
    go_wp2_with fail
    go_ret
    rw [HF.out]
    exact ⟨rfl, rfl⟩
  · have d1 : decide ((n.size : Int) < 1) = false := decide_eq_false (by omega)
    have e1 : decide (1 ≤ n.size) = true := decide_eq_true (by omega)
    by_cases h2 : 200 < n.size
    · have d2 : decide ((n.size : Int) > 200) = true := decide_eq_true (by omega)
      have d2' : decide ((200 : Int) < (n.size : Int)) = true := decide_eq_true (by omega)
      have HF : Hid (r = true) := by unfold Hid nameB at *; rw [hr, decide_eq_false (show ¬ n.size ≤ 200 by omega)]; simp
      clear h1 h2 hr e1
      go_enter Try.func73, Try.ntmps73
      go_wp2_with fail
      go_ret
      rw [HF.out]
      exact ⟨rfl, rfl⟩
    · have d2 : decide ((n.size : Int) > 200) = false := decide_eq_false (by omega)
      have d2' : decide ((200 : Int) < (n.size : Int)) = false := decide_eq_false (by omega)
      have e2 : decide (n.size ≤ 200) = true := decide_eq_true (by omega)
      cases h3 : n.data.toList.contains 0 with
      | true =>
        have i3 := index_has h3
        obtain ⟨k, hk⟩ : ∃ k, k = Lib.indexByte n.data.toList 0 := ⟨_, rfl⟩
        rw [← hk] at i3
        have K := Lib.hid hk
        have HF : Hid (r = true) := by unfold Hid nameB at *; rw [hr, h3]; simp
        have hk0 : decide (k ≥ 0) = true := decide_eq_true i3
        have hk1 : decide (0 ≤ k) = true := decide_eq_true i3
        clear h1 h2 hr hk h3 i3 e1 e2
        go_enter Try.func73, Try.ntmps73
        go_wp2_with (go_at_call 74; refine (index_lit n 0 0 rfl _).mono ?_; rintro e w' ⟨rfl, rfl⟩; rw [← K.out])
        go_ret
        rw [HF.out]
        exact ⟨rfl, rfl⟩
      | false =>
        have i3 := Lib.hid (index_hasnt h3)
        have HF : Hid (r = false) := by unfold Hid nameB at *; rw [hr, h3, e1, e2]; rfl
        clear h1 h2 hr h3 e1 e2
        go_enter Try.func73, Try.ntmps73
        go_wp2_with (go_at_call 74; refine (index_lit n 0 0 rfl _).mono ?_; rintro e w' ⟨rfl, rfl⟩; rw [i3.out])
        go_ret
        rw [HF.out]
        exact ⟨rfl, rfl⟩

def sc (ns : List ByteArray) : List Value := ns.map .string
theorem sc_length (ns : List ByteArray) : (sc ns).length = ns.length := by simp [sc]
def IdxRel (ns : List ByteArray) (w : World) (i : Value) (wr : World) : Prop := ∃ k : Nat, i = .int .i64 k ∧ k ≤ ns.length ∧ Hid (∀ n ∈ ns.take k, nameB n = true) ∧ wr = w

set_option maxRecDepth 100000 in
set_option maxHeartbeats 800000 in
theorem IndexFunc_calls (B : Nat) (A : Option Addr) (ns : List ByteArray) (c : Nat) (w : World) (hr : Rd w B 1 A ns.length (sc ns)) (hl : ns.length ≤ 140737488355328) :
    Calls Try.prog 81 #[.slice A ns.length c, .func (.func 73) #[] #[]] w fun e w' => ∃ r : Int, e = .returned (.int .i64 r) ∧ Hid (decide (0 ≤ r) = !ns.all nameB) ∧ w' = w := by
  go_enter Try.func81, Try.ntmps81
  go_wp2_with fail
  go_loopw [8] (fun i wr => IdxRel ns w i wr) (fun i _ => ns.length - (intOf i).toNat)
  case atStart => exact ⟨0, rfl, Nat.zero_le _, Lib.hid (by simp), rfl⟩
  case round =>
    obtain ⟨k, rfl, hk, hT, rfl⟩ := hrel
    by_cases hlt : k < ns.length
    · have hd : decide ((k : Int) < (ns.length : Int)) = true := decide_eq_true (by omega)
      obtain ⟨b, off, rfl, hb, hcell⟩ := hr.at_ (by omega)
      obtain ⟨n, hn⟩ : ∃ n, ns[k]? = some n := ⟨ns[k], List.getElem?_eq_getElem hlt⟩
      have hn1 : (sc ns)[k]? = some (.string n) := by simp [sc, hn]
      have k1 := hcell k _ hn1
      have HN := Lib.hid hn
      clear hn hn1 hcell hr
      cases hB : nameB n with
      | true =>
        go_wp2_with ((go_at_call 73; refine (nameF_calls n _).mono ?_; rw [hB]; rintro e w' ⟨rfl, rfl⟩))
        refine ⟨⟨k + 1, by go_num, by omega, Lib.hid fun m hm => ?_, rfl⟩, by simp [intOf]; omega⟩
        rw [List.take_add_one, List.mem_append] at hm
        rcases hm with hm | hm
        · exact hT.out m hm
        · rw [HN.out] at hm
          rw [List.mem_singleton.1 hm]
          exact hB
      | false =>
        go_wp2_with ((go_at_call 73; refine (nameF_calls n _).mono ?_; rw [hB]; rintro e w' ⟨rfl, rfl⟩))
        go_ret
        refine ⟨k, rfl, Lib.hid ?_, rfl⟩
        have h1 : ns.all nameB = false := List.all_eq_false.2 ⟨n, List.mem_of_getElem? HN.out, by rw [hB]; decide⟩
        rw [h1]
        exact decide_eq_true (by omega)
    · have hd : decide ((k : Int) < (ns.length : Int)) = false := decide_eq_false (by omega)
      have hk2 : k = ns.length := by omega
      have HK := Lib.hid hk2
      clear hk2
      go_wp2_with fail
      go_ret
      refine ⟨-1, rfl, Lib.hid ?_, rfl⟩
      have h1 : ns.all nameB = true := List.all_eq_true.2 fun n hn => hT.out n (by rw [HK.out, List.take_length]; exact hn)
      rw [h1]
      decide

set_option maxRecDepth 100000 in
set_option maxHeartbeats 800000 in
theorem named_calls (B : Nat) (A : Option Addr) (ns : List ByteArray) (c : Nat) (w : World) (hr : Rd w B 1 A ns.length (sc ns)) (hl : ns.length ≤ 140737488355328) :
    Calls Try.prog 47 #[.slice A ns.length c] w fun e w' => e = .returned (.bool (ns.all nameB)) ∧ w' = w := by
  have hC : Calls Try.prog 72 #[.slice A ns.length c, .func (.func 73) #[] #[]] w fun e w' => e = .returned (.bool (!ns.all nameB)) ∧ w' = w := by
    go_enter Try.func72, Try.ntmps72
    go_wp2_with ((go_at_call 81; refine (IndexFunc_calls B A ns c _ hr hl).mono ?_; rintro e w' ⟨r, rfl, hr1, rfl⟩))
    go_ret
    refine ⟨?_, rfl⟩
    have := hr1.out
    rw [← this]
    simp
  generalize ns.all nameB = r at hC ⊢
  go_enter Try.func47, Try.ntmps47
  go_wp2_with ((go_at_call 72; refine hC.mono ?_; rintro e w' ⟨rfl, rfl⟩))
  go_ret
  simp
end Go.Proofs.Ytegolgkagdlocaa
