/- The walks of the layer 'sum', its seventh part: digits. Conditions: bytes that are made fit 2^47. -/
import Derived.Test.YtcefbhmmijmefaaSumA
import Derived.Deep.RegionLaw
namespace Go.Dol
open Go.RowKit
def dig (n : Nat) : UInt8 := if n < 10 then UInt8.ofNat (48 + n) else UInt8.ofNat (87 + n)
def hexOf (l : List UInt8) : List UInt8 := l.flatMap fun c => [dig (c.toNat / 16), dig (c.toNat % 16)]
theorem hexOf_length (l : List UInt8) : (hexOf l).length = 2 * l.length := by
  induction l with
  | nil => rfl
  | cons x l ih => unfold hexOf at ih ⊢; rw [List.flatMap_cons, List.length_append, ih, List.length_cons]; simp; omega
theorem hexOf_snoc (l : List UInt8) (c : UInt8) : hexOf (l ++ [c]) = hexOf l ++ [dig (c.toNat / 16), dig (c.toNat % 16)] := by
  unfold hexOf
  rw [List.flatMap_append]
  simp
theorem Rd.two (w : World) (T : TypeId) (x y : UInt8) : Rd (w.alloc (.cells #[.int .u8 x.toNat, .int .u8 y.toNat] T)) (w.heap.size + 1) 1 (some ⟨w.heap.size, 0, none⟩) 2 (bc [x, y]) := by
  refine ⟨by simp [bc], fun _ => ⟨w.heap.size, 0, rfl, by omega, fun j u hu => ?_⟩⟩
  have hj : j < 2 := by have := (List.getElem?_eq_some_iff.1 hu).1; simpa [bc] using this
  have hc := cell_of_row (w.alloc (.cells #[.int .u8 x.toNat, .int .u8 y.toNat] T)) w.heap.size (0 + j) #[.int .u8 x.toNat, .int .u8 y.toNat] T (0, 0) (heap_alloc_new w _)
  rw [hc, Nat.zero_add]
  simpa [bc] using hu
end Go.Dol
namespace Go.Proofs.Ytcefbhmmijmefaa
open Go.RowKit Go.Dol
set_option linter.unusedVariables false

theorem digits_at (k : Nat) (hk : k < 16) : ∀ h : k < (⟨#[48, 49, 50, 51, 52, 53, 54, 55, 56, 57, 97, 98, 99, 100, 101, 102]⟩ : ByteArray).size, (⟨#[48, 49, 50, 51, 52, 53, 54, 55, 56, 57, 97, 98, 99, 100, 101, 102]⟩ : ByteArray)[k]'h = dig k := by
  intro h
  have h' : ∀ i : Fin 16, (⟨#[48, 49, 50, 51, 52, 53, 54, 55, 56, 57, 97, 98, 99, 100, 101, 102]⟩ : ByteArray)[i.val]? = some (dig i.val) := by decide
  have h1 := h' ⟨k, hk⟩
  simp only at h1
  rw [getElem?_pos _ k h] at h1
  injection h1

/-- append onto bytes that the call owns, at a step of a region that draws. -/
theorem app8r {w : World} {ops : Array Oper} {o : Oper} {a : Act} {K : Act → World → Prop} {Q : Exit → Act → World → Prop} {E : Prop} (hgd : o.guard = none) (s x : Operand)
    (ho : o.op = .call { callee := .builtin .append, args := #[s, x], argTypes := #[22, 22] })
    (base : Nat) (v : Value) (n : Nat) (xs : List UInt8) (hs : a.eval s = v) (hown : w.ownsRow base 5 1 v n (bc xs))
    (B : Nat) (A : Option Addr) (m c : Nat) (news : List UInt8) (hx : a.eval x = .slice A m c) (hr : Rd w B 1 A m (bc news))
    (hlen : n + m ≤ 140737488355328) (hbase : base ≤ w.heap.size)
    (h : ∀ (l' : List UInt8) (A' : Option Addr) (c' : Nat) (w' : World), Hid (l' = xs ++ news) → w'.ownsRow base 5 1 (.slice A' l'.length c') l'.length (bc l') → Below base w w' → w.grownBy w' v.ownBlock →
      l'.length ≤ c' → c' ≤ maxLen → K (a.put o.dst (.slice A' l'.length c')) w') : if Region.wanted o (yielded ops a.tmps) = true then Oper.wp Try.prog o a w K Q else E := by
  have hw : Region.wanted o (yielded ops a.tmps) = true := by simp [Region.wanted, hgd]
  rw [if_pos hw]
  refine wp_append_rd w s x _ ho base _ _ 1 1 Try.underlying22 info_u8 rfl (by decide) v n (bc xs) hs hown B A m c (bc news) hx hr (bc_one _) (by unfold maxLen; omega) (by omega) hbase ?_
  intro A' c' w' h1 h2 h3 h4 h5
  have e1 : n = xs.length := by have := hown.1; rw [bc_length] at this; omega
  have e2 : m = news.length := by have := hr.len; rw [bc_length] at this; omega
  have e : n + m = (xs ++ news).length := by rw [List.length_append]; omega
  rw [← bc_append, e] at h1
  rw [e] at h3 h4 ⊢
  exact h _ A' c' w' rfl h1 ((Below.refl _ _).grown h2 hbase (fun k hk => (hown.lt k hk).1)) h2 h4 h5

def HexRel (l : List UInt8) (w1 : World) (out i : Value) (wr : World) : Prop :=
  ∃ (k : Nat) (l1 : List UInt8) (A : Option Addr) (c : Nat), out = .slice A l1.length c ∧ i = .int .i64 k ∧ k ≤ l.length ∧ Hid (l1 = hexOf (l.take k)) ∧ wr.ownsRow w1.heap.size 5 1 (.slice A l1.length c) l1.length (bc l1) ∧ Below w1.heap.size w1 wr ∧ l1.length ≤ c ∧ c ≤ maxLen

set_option maxRecDepth 100000 in
set_option maxHeartbeats 400000 in
theorem Hex_calls (s : ByteArray) (w : World) (hl : s.size ≤ 70368744177600) :
    Calls Try.prog 33 #[.string s] w fun e w' => ∃ l', Hid (l' = hexOf s.data.toList) ∧ e = .returned (.string ⟨l'.toArray⟩) ∧ Below w.heap.size w w' := by
  obtain ⟨l, hls⟩ : ∃ l, l = s.data.toList := ⟨_, rfl⟩
  have hsz : s.size = l.length := by rw [hls, str_len]
  have HSZ := Lib.hid hsz
  have HLS := Lib.hid hls
  clear hsz hls
  go_enter Try.func33, Try.ntmps33
  go_wp2_with (refine wpList_conv_sb rfl (.tmp 6) _ _ _ rfl Try.underlying9 Try.underlying22 Try.underlying5 s rfl (by omega) ?_)
  intro A c w1 hr hb1 i1 i2
  rw [← HLS.out] at hr
  go_wp2_with fail
  go_loopw [3, 5, 9] (fun out _ i wr => HexRel l w1 out i wr) (fun _ _ i _ => l.length - (intOf i).toNat)
  case atStart => exact ⟨0, [], none, 0, rfl, rfl, Nat.zero_le _, rfl, ⟨by simp [bc], .inl ⟨rfl, rfl⟩⟩, Below.refl _ _, Nat.le_refl _, by unfold maxLen; omega⟩
  case round =>
    obtain ⟨k, l1, A1, c1, rfl, rfl, hk, e1, ho, hbl, j1, j2⟩ := hrel
    have hs1 := hbl.size
    have e1l : l1.length = 2 * k := by rw [e1.out, hexOf_length, List.length_take]; omega
    by_cases hlt : k < l.length
    · have hkl : k < s.size := by rw [HSZ.out]; exact hlt
      obtain ⟨b, off, rfl, hb, hcell⟩ := (hr.below hbl).at_ (by omega)
      have hcx := hcell k _ (bc_get l k hlt)
      obtain ⟨x, hx⟩ : ∃ x, x = (l[k]).toNat := ⟨_, rfl⟩
      have hx256 : x < 256 := by have := (l[k]).toNat_lt; omega
      rw [← hx] at hcx
      have HX := Lib.hid hx
      clear hx hcell
      obtain ⟨y, hy⟩ : ∃ y, y = x / 16 := ⟨_, rfl⟩
      obtain ⟨z, hz⟩ : ∃ z, z = x % 16 := ⟨_, rfl⟩
      have hy16 : y < 16 := by omega
      have hz16 : z < 16 := by omega
      have hd1 := digits_at y hy16
      have hd2 := digits_at z hz16
      have hq : IntKind.u8.wrap ((x : Int) / 16) = (y : Int) := by rw [IntKind.wrap_u8]; omega
      have hm : (x : Int) % 16 = (z : Int) := by omega
      have hm2 : (x : Int).tmod 16 = (z : Int) := by rw [Int.tmod_eq_emod_of_nonneg (by omega)]; omega
      have hyi : (y : Int) < 16 := by omega
      have hzi : (z : Int) < 16 := by omega
      have HY := Lib.hid hy
      have HZ := Lib.hid hz
      clear hy hz
      have hlen2 : l1.length ≤ 140737488355200 := by omega
      have E1L := Lib.hid e1l
      clear e1l
      go_wp2_with fail
      go_region_law ((refine app8r (by rfl) (.tmp 13) (.tmp 20) (by rfl) w1.heap.size _ l1.length l1 (by rfl) (World.ownsRow.alloc (w := World.drew wr) ho _) (wr.heap.size + 1) _ 2 2 [dig y, dig z] (by rfl) (Rd.two wr.drew _ _ _) (by omega) (by simp; omega) ?_; intro l' A' c' w' q1 q2 q3 q4 q5 q6))
      all_goals
        go_wp2_with fail
        refine ⟨⟨k + 1, l', A', c', rfl, by go_num, hlt, ?_, q2, hbl.trans (((Below.refl _ _).alloc hs1 _).drew.trans q3), q5, q6⟩, by simp [intOf]; omega⟩
        unfold Hid
        rw [q1.out, e1.out, List.take_succ_eq_append_getElem hlt, hexOf_snoc, HY.out, HZ.out, HX.out]
    · have hkk : k = l.length := by omega
      have HKK := Lib.hid hkk
      have E1L := Lib.hid e1l
      have hb : decide (k < s.size) = false := by simp [HSZ.out]; omega
      have hb2 : ¬ ((k : Int) < (s.size : Int)) := by rw [HSZ.out]; omega
      clear hkk e1l
      go_wp2_with (refine conv8 rfl (.tmp 23) rfl wr.heap.size A1 l1.length c1 l1 rfl (Rd.of_own ho) ?_)
      go_ret
      refine ⟨l1, ?_, rfl, hb1.trans (hbl.mono hb1.size)⟩
      unfold Hid
      rw [e1.out, HKK.out, List.take_length, HLS.out]
end Go.Proofs.Ytcefbhmmijmefaa
