/- The walk of the program's 'know': nodes by their ids. Conditions: fewer than 2^40 nodes. -/
import Derived.Test.YteeajmgiamdfdaaStk
import Derived.Test.YteeajmgiamdfdaaMapL
namespace Go.Proofs.Yteeajmgiamdfdaa
open Go.RowKit Go.Dol
set_option linter.unusedVariables false
theorem str_law : Go.Maps.Keyed Try.prog 9 := Go.Maps.string_keyed Try.underlying9
theorem str_key (n : ByteArray) (hn : n.size ≤ maxLen) : ∃ kl, keyOf Try.prog 9 (.string n) = some kl := ⟨_, Go.WideMaps.keyOf_string_mk Try.underlying9 hn⟩
theorem strs_zero (w : World) : (zeroValue 26).run Try.prog w = .ok (.slice none 0 0) w := by kernel_rfl
/-- The entries are the first nodes of all ids. -/
def KnL (al : List (Value × Value)) (l : List NdA) : Prop :=
  (∀ x ∈ l, ∃ p ∈ al, p.1 = Value.string x.n) ∧ ∀ p ∈ al, ∃ x ∈ l, p = (.string x.n, .slice x.A x.ps.length x.c) ∧ parF (l.map NdA.f) x.n = some x.ps
theorem par_app (l : List Nd) (f : Nd) (s : ByteArray) : parF (l ++ [f]) s = match parF l s with | some p => some p | none => if f.1 = s then some f.2 else none := by
  induction l with
  | nil => rfl
  | cons g r ih =>
    rw [List.cons_append]
    unfold parF
    split
    · rfl
    · exact ih
theorem KnL.none {al : List (Value × Value)} {l : List NdA} (h : KnL al l) {s : ByteArray} (hn : ∀ p ∈ al, p.1 ≠ Value.string s) : parF (l.map NdA.f) s = none :=
  par_none.2 fun x hx e => by
    obtain ⟨p, hp, h1⟩ := h.1 x hx
    exact hn p hp (by rw [h1, e])
theorem KnL.look {al : List (Value × Value)} {l : List NdA} (h : KnL al l) {s : ByteArray} {v : Value} (hm : (Value.string s, v) ∈ al) : ∃ x ∈ l, x.n = s ∧ v = .slice x.A x.ps.length x.c ∧ parF (l.map NdA.f) s = some x.ps := by
  obtain ⟨x, hx, h1, h2⟩ := h.2 _ hm
  injection h1 with h1 h3
  injection h1 with h1
  exact ⟨x, hx, h1.symm, h3, by rw [h1]; exact h2⟩
/-- One node more, whose id is there. -/
theorem KnL.skip {al : List (Value × Value)} {l : List NdA} (h : KnL al l) (x : NdA) {v : Value} (hm : (Value.string x.n, v) ∈ al) : KnL al (l ++ [x]) := by
  refine ⟨fun y hy => ?_, fun p hp => ?_⟩
  · rcases List.mem_append.1 hy with hy | hy
    · exact h.1 y hy
    · rw [List.mem_singleton.1 hy]
      exact ⟨_, hm, rfl⟩
  · obtain ⟨y, hy, h1, h2⟩ := h.2 p hp
    refine ⟨y, List.mem_append.2 (.inl hy), h1, ?_⟩
    rw [List.map_append, List.map_cons, List.map_nil, par_app, h2]
/-- .. whose id is new. -/
theorem KnL.add {al : List (Value × Value)} {l : List NdA} (h : KnL al l) (x : NdA) (hn : ∀ p ∈ al, p.1 ≠ Value.string x.n) : KnL (al ++ [(.string x.n, .slice x.A x.ps.length x.c)]) (l ++ [x]) := by
  refine ⟨fun y hy => ?_, fun p hp => ?_⟩
  · rcases List.mem_append.1 hy with hy | hy
    · obtain ⟨p, hp, h1⟩ := h.1 y hy
      exact ⟨p, List.mem_append.2 (.inl hp), h1⟩
    · rw [List.mem_singleton.1 hy]
      exact ⟨_, List.mem_append.2 (.inr (List.mem_singleton.2 rfl)), rfl⟩
  · rcases List.mem_append.1 hp with hp | hp
    · obtain ⟨y, hy, h1, h2⟩ := h.2 p hp
      refine ⟨y, List.mem_append.2 (.inl hy), h1, ?_⟩
      rw [List.map_append, List.map_cons, List.map_nil, par_app, h2]
    · rw [List.mem_singleton.1 hp]
      refine ⟨x, List.mem_append.2 (.inr (List.mem_singleton.2 rfl)), rfl, ?_⟩
      rw [List.map_append, List.map_cons, List.map_nil, par_app, h.none hn]
      show (if x.n = x.n then some x.ps else Option.none) = _
      rw [if_pos rfl]
theorem KnL.nil : KnL [] [] := ⟨fun _ h => (List.not_mem_nil h).elim, fun _ h => (List.not_mem_nil h).elim⟩
/-- A map of nodes. -/
def Kn (w : World) (B : Nat) (l : List NdA) : Prop := ∃ al, MapL Try.prog 9 w B al ∧ KnL al l
/-- The rounds of 'know'. -/
def KnRel (l : List NdA) (w : World) (kb : Nat) (i : Value) (wr : World) : Prop :=
  ∃ k : Nat, i = .int .i64 k ∧ k ≤ l.length ∧ Kn wr kb (l.take k) ∧ Below w.heap.size w wr
set_option maxRecDepth 100000 in
set_option maxHeartbeats 1600000 in
theorem know_calls (A : Option Addr) (l : List NdA) (c : Nat) (w : World) (hr : Rd w w.heap.size 2 A l.length (nc l)) (hl : l.length ≤ 1099511627776) (hn : ∀ x ∈ l, x.n.size ≤ maxLen) :
    Calls Try.prog 22 #[.slice A l.length c] w fun e w' => ∃ kb, e = .returned (.map (some kb)) ∧ Kn w' kb l ∧ w.heap.size ≤ kb ∧ Below w.heap.size w w' := by
  have hmm := @run_makeMap Try.prog
  go_enter Try.func22, Try.ntmps22
  go_wp2_with fail
  clear hmm
  have hm0 : MapL Try.prog 9 (w.alloc (.map #[] 0)) w.heap.size [] := MapL.new w
  have hb0 : Below w.heap.size w (w.alloc (.map #[] 0)) := (Below.refl _ w).alloc (Nat.le_refl _) _
  obtain ⟨v0, hv0⟩ : ∃ v, v = w.alloc (.map #[] 0) := ⟨_, rfl⟩
  rw [← hv0] at hm0 hb0 ⊢
  clear hv0
  go_loopw [11] (fun i wr => KnRel l w w.heap.size i wr) (fun i _ => l.length - (intOf i).toNat)
  case atStart => exact ⟨0, rfl, Nat.zero_le _, ⟨[], hm0, KnL.nil⟩, hb0⟩
  case round =>
    clear hm0 hb0
    obtain ⟨k, rfl, hk, ⟨al, hM, hK⟩, hb⟩ := hrel
    have hs := hb.size
    have f1 : IntKind.i64.wrap ((k : Int) + 1) = (k : Int) + 1 := IntWalk.i64_in _ (by omega)
    by_cases hlt : k < l.length
    · have hd : decide ((k : Int) < (l.length : Int)) = true := decide_eq_true (by omega)
      have hd' : (k : Int) < (l.length : Int) := by omega
      have hk0 : (0 : Int) ≤ (k : Int) := by omega
      obtain ⟨x, hx⟩ : ∃ x, l[k]? = some x := ⟨l[k], List.getElem?_eq_getElem hlt⟩
      have hnext : l.take (k + 1) = l.take k ++ [x] := by rw [List.take_add_one, hx]; rfl
      obtain ⟨kl, hkey⟩ := str_key x.n (hn x (List.mem_of_getElem? hx))
      have hrw := hr.belowW hb (Nat.le_refl _)
      obtain ⟨bb, off, rfl, hbb, hcell⟩ := hrw.at_ (by omega)
      have q0 : wr.cell? ⟨bb, off + k * 2, none⟩ = _ := hcell _ _ (nc_get hx).1
      have q1 : wr.cell? ⟨bb, off + k * 2 + 1, none⟩ = _ := hcell _ _ (nc_get hx).2
      have HX := Lib.hid hnext
      clear hcell hrw hx hnext hr
      have hB0 := Blk.new wr 28 [.string x.n, .slice x.A x.ps.length x.c]
      have hb1 := (Below.refl wr.heap.size wr).alloc (Nat.le_refl _) (.cells #[.string x.n, .slice x.A x.ps.length x.c] 28)
      have hM0 := hM.alloc (.cells #[.string x.n, .slice x.A x.ps.length x.c] 28)
      rcases hM0.look str_law Try.underlying47 (strs_zero _) hkey true with ⟨hno, hrun⟩ | ⟨v, hmem, hrun⟩
      · obtain ⟨al', w2, hup, hM2, hput, hg2⟩ := hM0.update str_law Try.underlying47 hkey (.slice x.A x.ps.length x.c)
        have hal : al' = al ++ [(.string x.n, .slice x.A x.ps.length x.c)] := by
          rcases hput with ⟨_, h⟩ | ⟨l1, r1, v0, h, _⟩
          · exact h
          · exact absurd rfl (hno (.string x.n, v0) (by rw [h]; simp))
        have HK2 : Hid (KnL al' (l.take (k + 1))) := by unfold Hid; rw [hal, HX.out]; exact hK.add x hno
        have hb2 := (hb.trans (hb1.mono hs)).grown hg2 (Nat.le_trans hs (by simp)) (fun j hj => by injection hj with hj; omega)
        clear hal hput hg2
        go_wp2_with fail
        exact ⟨⟨k + 1, by go_num, by omega, ⟨al', hM2, HK2.out⟩, hb2⟩, by simp [intOf]; omega⟩
      · have HK2 : Hid (KnL al (l.take (k + 1))) := by unfold Hid; rw [HX.out]; exact hK.skip x hmem
        go_wp2_with fail
        exact ⟨⟨k + 1, by go_num, by omega, ⟨al, hM0, HK2.out⟩, hb.trans (hb1.mono hs)⟩, by simp [intOf]; omega⟩
    · have hd : decide ((k : Int) < (l.length : Int)) = false := decide_eq_false (by omega)
      have hkf : l.take k = l := List.take_of_length_le (by omega)
      rw [hkf] at hK
      go_wp2_with fail
      go_ret
      exact ⟨w.heap.size, rfl, ⟨al, hM, hK⟩, Nat.le_refl _, hb⟩
end Go.Proofs.Yteeajmgiamdfdaa
