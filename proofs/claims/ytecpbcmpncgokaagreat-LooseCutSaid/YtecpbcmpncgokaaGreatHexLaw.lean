/- The walks of the layer 'sum', its seventh part: digits. Conditions: bytes that are made fit 2^47. The walks of the layer 'sum', its eighth part: the document's digits. Conditions: bytes that are made fit 2^47. The walks of the layer 'sum', its ninth part: what digits are worth. Conditions: bytes that are made fit 2^47. The walks of the layer 'sum', its thirteenth part: the document's turn of a word. Conditions: none beyond what each names. The walks of the layer 'sum', its fourteenth part: the document's block. Conditions: none beyond what each names. The walks of the layer 'sum', its fifteenth part: the document's hash. Conditions: bytes that are made fit 2^47. What only some chapters reach of the text XSumB. The walks of the layer 'sum', its tenth part: bytes of digits, as the document says. Conditions: bytes that are made fit 2^47. Digits there and back, in plain Lean. No program is i -/
import Derived.Test.YtecpbcmpncgokaaGreatSumA
import Derived.Deep.RegionLaw
import Derived.Deep.QuietTactic
import Derived.BigQuiet
import Derived.Test.YtecpbcmpncgokaaGreatWordsA
namespace Go.Dol
open Go.RowKit
def dig (n : Nat) : UInt8 := if n < 10 then UInt8.ofNat (48 + n) else UInt8.ofNat (87 + n)
def hexOf (l : List UInt8) : List UInt8 := l.flatMap fun c => [dig (c.toNat / 16), dig (c.toNat % 16)]
theorem hexOf_length (l : List UInt8) : (hexOf l).length = 2 * l.length := by
  induction l with
  | nil => rfl
  | cons x l ih => unfold hexOf at ih ⊢; rw [List.flatMap_cons, List.length_append, ih, List.length_cons]; simp; omega
theorem hexOf_snoc (l : List UInt8) (c : UInt8) : hexOf (l ++ [c]) = hexOf l ++ [dig (c.toNat / 16), dig (c.toNat % 16)] := by
  unfold hexOf
  rw [List.flatMap_append]
  simp
theorem Rd.two (w : World) (T : TypeId) (x y : UInt8) : Rd (w.alloc (.cells #[.int .u8 x.toNat, .int .u8 y.toNat] T)) (w.heap.size + 1) 1 (some ⟨w.heap.size, 0, none⟩) 2 (bc [x, y]) := by
  refine ⟨by simp [bc], fun _ => ⟨w.heap.size, 0, rfl, by omega, fun j u hu => ?_⟩⟩
  have hj : j < 2 := by have := (List.getElem?_eq_some_iff.1 hu).1; simpa [bc] using this
  have hc := cell_of_row (w.alloc (.cells #[.int .u8 x.toNat, .int .u8 y.toNat] T)) w.heap.size (0 + j) #[.int .u8 x.toNat, .int .u8 y.toNat] T (0, 0) (heap_alloc_new w _)
  rw [hc, Nat.zero_add]
  simpa [bc] using hu
end Go.Dol
namespace Go.Proofs.YtecpbcmpncgokaaGreat
open Go.RowKit Go.Dol
set_option linter.unusedVariables false

theorem digits_at (k : Nat) (hk : k < 16) : ∀ h : k < (⟨#[48, 49, 50, 51, 52, 53, 54, 55, 56, 57, 97, 98, 99, 100, 101, 102]⟩ : ByteArray).size, (⟨#[48, 49, 50, 51, 52, 53, 54, 55, 56, 57, 97, 98, 99, 100, 101, 102]⟩ : ByteArray)[k]'h = dig k := by
  intro h
  have h' : ∀ i : Fin 16, (⟨#[48, 49, 50, 51, 52, 53, 54, 55, 56, 57, 97, 98, 99, 100, 101, 102]⟩ : ByteArray)[i.val]? = some (dig i.val) := by decide
  have h1 := h' ⟨k, hk⟩
  simp only at h1
  rw [getElem?_pos _ k h] at h1
  injection h1

/-- append onto bytes that the call owns, at a step of a region that draws. -/
theorem app8r {w : World} {ops : Array Oper} {o : Oper} {a : Act} {K : Act → World → Prop} {Q : Exit → Act → World → Prop} {E : Prop} (hgd : o.guard = none) (s x : Operand)
    (ho : o.op = .call { callee := .builtin .append, args := #[s, x], argTypes := #[36, 36] })
    (base : Nat) (v : Value) (n : Nat) (xs : List UInt8) (hs : a.eval s = v) (hown : w.ownsRow base 5 1 v n (bc xs))
    (B : Nat) (A : Option Addr) (m c : Nat) (news : List UInt8) (hx : a.eval x = .slice A m c) (hr : Rd w B 1 A m (bc news))
    (hlen : n + m ≤ 140737488355328) (hbase : base ≤ w.heap.size)
    (h : ∀ (l' : List UInt8) (A' : Option Addr) (c' : Nat) (w' : World), Hid (l' = xs ++ news) → w'.ownsRow base 5 1 (.slice A' l'.length c') l'.length (bc l') → Below base w w' → w.grownBy w' v.ownBlock →
      l'.length ≤ c' → c' ≤ maxLen → K (a.put o.dst (.slice A' l'.length c')) w') : if Region.wanted o (yielded ops a.tmps) = true then Oper.wp Tryz.prog o a w K Q else E := by
  have hw : Region.wanted o (yielded ops a.tmps) = true := by simp [Region.wanted, hgd]
  rw [if_pos hw]
  refine wp_append_rd w s x _ ho base _ _ 1 1 Tryz.underlying36 info_u8 rfl (by decide) v n (bc xs) hs hown B A m c (bc news) hx hr (bc_one _) (by unfold maxLen; omega) (by omega) hbase ?_
  intro A' c' w' h1 h2 h3 h4 h5
  have e1 : n = xs.length := by have := hown.1; rw [bc_length] at this; omega
  have e2 : m = news.length := by have := hr.len; rw [bc_length] at this; omega
  have e : n + m = (xs ++ news).length := by rw [List.length_append]; omega
  rw [← bc_append, e] at h1
  rw [e] at h3 h4 ⊢
  exact h _ A' c' w' rfl h1 ((Below.refl _ _).grown h2 hbase (fun k hk => (hown.lt k hk).1)) h2 h4 h5

def HexRel (l : List UInt8) (w1 : World) (out i : Value) (wr : World) : Prop :=
  ∃ (k : Nat) (l1 : List UInt8) (A : Option Addr) (c : Nat), out = .slice A l1.length c ∧ i = .int .i64 k ∧ k ≤ l.length ∧ Hid (l1 = hexOf (l.take k)) ∧ wr.ownsRow w1.heap.size 5 1 (.slice A l1.length c) l1.length (bc l1) ∧ Below w1.heap.size w1 wr ∧ l1.length ≤ c ∧ c ≤ maxLen

open Go.RowKit Go.Dol
set_option linter.unusedVariables false

theorem str_at {s : ByteArray} {l : List UInt8} (h : l = s.data.toList) {k : Nat} (hk : k < l.length) (h2 : k < s.size) : (s[k]'h2).toNat = (l[k]).toNat := by
  subst h
  rfl

end Go.Proofs.YtecpbcmpncgokaaGreat
namespace Go.Dol
/-- What a digit is worth; below nought: it is none. -/
def digV (x : Nat) : Int := if 48 ≤ x ∧ x ≤ 57 then (x : Int) - 48 else if 97 ≤ x ∧ x ≤ 102 then (x : Int) - 87 else -1
theorem digV_dig (k : Nat) (hk : k < 16) : digV (dig k).toNat = k := by
  have h : ∀ i : Fin 16, digV (dig i.val).toNat = i.val := by decide
  exact h ⟨k, hk⟩
end Go.Dol
namespace Go.Proofs.YtecpbcmpncgokaaGreat
open Go.RowKit Go.Dol
set_option linter.unusedVariables false
open Go.RowKit Go.Dol
set_option linter.unusedVariables false

open Go.RowKit Go.Dol
set_option linter.unusedVariables false

open Go.RowKit Go.Dol
set_option linter.unusedVariables false

open Go.RowKit Go.Dol
set_option linter.unusedVariables false

end Go.Proofs.YtecpbcmpncgokaaGreat
namespace Go.Proofs.YtecpbcmpncgokaaGreat
open Go.RowKit Go.Dol
set_option linter.unusedVariables false

set_option maxRecDepth 100000 in
set_option maxHeartbeats 400000 in
theorem Hex_calls (s : ByteArray) (w : World) (hl : s.size ≤ 70368744177600) :
    Calls Tryz.prog 102 #[.string s] w fun e w' => ∃ l', Hid (l' = hexOf s.data.toList) ∧ e = .returned (.string ⟨l'.toArray⟩) ∧ Below w.heap.size w w' := by
  obtain ⟨l, hls⟩ : ∃ l, l = s.data.toList := ⟨_, rfl⟩
  have hsz : s.size = l.length := by rw [hls, str_len]
  have HSZ := Lib.hid hsz
  have HLS := Lib.hid hls
  clear hsz hls
  go_enter Tryz.func102, Tryz.ntmps102
  go_wp2_with (refine wpList_conv_sb rfl (.tmp 6) _ _ _ rfl Tryz.underlying9 Tryz.underlying36 Tryz.underlying5 s rfl (by omega) ?_)
  intro A c w1 hr hb1 i1 i2
  rw [← HLS.out] at hr
  go_wp2_with fail
  go_loopw [3, 5, 9] (fun out _ i wr => HexRel l w1 out i wr) (fun _ _ i _ => l.length - (intOf i).toNat)
  case atStart => exact ⟨0, [], none, 0, rfl, rfl, Nat.zero_le _, rfl, ⟨by simp [bc], .inl ⟨rfl, rfl⟩⟩, Below.refl _ _, Nat.le_refl _, by unfold maxLen; omega⟩
  case round =>
    obtain ⟨k, l1, A1, c1, rfl, rfl, hk, e1, ho, hbl, j1, j2⟩ := hrel
    have hs1 := hbl.size
    have e1l : l1.length = 2 * k := by rw [e1.out, hexOf_length, List.length_take]; omega
    by_cases hlt : k < l.length
    · have hkl : k < s.size := by rw [HSZ.out]; exact hlt
      obtain ⟨b, off, rfl, hb, hcell⟩ := (hr.below hbl).at_ (by omega)
      have hcx := hcell k _ (bc_get l k hlt)
      obtain ⟨x, hx⟩ : ∃ x, x = (l[k]).toNat := ⟨_, rfl⟩
      have hx256 : x < 256 := by have := (l[k]).toNat_lt; omega
      rw [← hx] at hcx
      have HX := Lib.hid hx
      clear hx hcell
      obtain ⟨y, hy⟩ : ∃ y, y = x / 16 := ⟨_, rfl⟩
      obtain ⟨z, hz⟩ : ∃ z, z = x % 16 := ⟨_, rfl⟩
      have hy16 : y < 16 := by omega
      have hz16 : z < 16 := by omega
      have hd1 := digits_at y hy16
      have hd2 := digits_at z hz16
      have hq : IntKind.u8.wrap ((x : Int) / 16) = (y : Int) := by rw [IntKind.wrap_u8]; omega
      have hm : (x : Int) % 16 = (z : Int) := by omega
      have hm2 : (x : Int).tmod 16 = (z : Int) := by rw [Int.tmod_eq_emod_of_nonneg (by omega)]; omega
      have hyi : (y : Int) < 16 := by omega
      have hzi : (z : Int) < 16 := by omega
      have HY := Lib.hid hy
      have HZ := Lib.hid hz
      clear hy hz
      have hlen2 : l1.length ≤ 140737488355200 := by omega
      have E1L := Lib.hid e1l
      clear e1l
      go_wp2_with fail
      go_region_law ((refine app8r (by rfl) (.tmp 13) (.tmp 20) (by rfl) w1.heap.size _ l1.length l1 (by rfl) (World.ownsRow.alloc (w := World.drew wr) ho _) (wr.heap.size + 1) _ 2 2 [dig y, dig z] (by rfl) (Rd.two wr.drew _ _ _) (by omega) (by simp; omega) ?_; intro l' A' c' w' q1 q2 q3 q4 q5 q6))
      all_goals
        go_wp2_with fail
        refine ⟨⟨k + 1, l', A', c', rfl, by go_num, hlt, ?_, q2, hbl.trans (((Below.refl _ _).alloc hs1 _).drew.trans q3), q5, q6⟩, by simp [intOf]; omega⟩
        unfold Hid
        rw [q1.out, e1.out, List.take_succ_eq_append_getElem hlt, hexOf_snoc, HY.out, HZ.out, HX.out]
    · have hkk : k = l.length := by omega
      have HKK := Lib.hid hkk
      have E1L := Lib.hid e1l
      have hb : decide (k < s.size) = false := by simp [HSZ.out]; omega
      have hb2 : ¬ ((k : Int) < (s.size : Int)) := by rw [HSZ.out]; omega
      clear hkk e1l
      go_wp2_with (refine conv8 rfl (.tmp 23) rfl wr.heap.size A1 l1.length c1 l1 rfl (Rd.of_own ho) ?_)
      go_ret
      refine ⟨l1, ?_, rfl, hb1.trans (hbl.mono hb1.size)⟩
      unfold Hid
      rw [e1.out, HKK.out, List.take_length, HLS.out]

end Go.Proofs.YtecpbcmpncgokaaGreat
namespace Go.Dol
open Go.RowKit
def unhexL : List UInt8 → Option (List UInt8)
  | [] => some []
  | [_] => none
  | a :: b :: t => if digV a.toNat < 0 ∨ digV b.toNat < 0 then none else (unhexL t).map (UInt8.ofNat (16 * (digV a.toNat).toNat + (digV b.toNat).toNat) :: ·)
def RetHex (w : World) (r : Option (List UInt8)) (e : Ending) (w' : World) : Prop :=
  match r with
  | none => e = .returned (.tuple #[.string ⟨#[]⟩, .int .i64 1]) ∧ Below w.heap.size w w'
  | some q => ∃ q', Hid (q' = q) ∧ e = .returned (.tuple #[.string ⟨q'.toArray⟩, .int .i64 0]) ∧ Below w.heap.size w w'
theorem digV_lt (x : Nat) : digV x < 16 := by unfold digV; split <;> (try split) <;> omega
theorem drop_two {l : List UInt8} {k : Nat} (h : k + 1 < l.length) : l.drop k = l[k] :: l[k + 1] :: l.drop (k + 2) := by
  rw [List.drop_eq_getElem_cons (by omega), List.drop_eq_getElem_cons h]
def UnhexRel (l : List UInt8) (w1 : World) (T : TypeId) (out i : Value) (wr : World) : Prop :=
  ∃ (k : Nat) (l1 : List UInt8) (A : Option Addr) (c : Nat), out = .slice A l1.length c ∧ i = .int .i64 k ∧ k ≤ l.length ∧ k % 2 = 0 ∧ 2 * l1.length = k ∧ Hid (unhexL l = (unhexL (l.drop k)).map (l1 ++ ·)) ∧ wr.ownsRow w1.heap.size T 1 (.slice A l1.length c) l1.length (bc l1) ∧ Below w1.heap.size w1 wr ∧ l1.length ≤ c ∧ c ≤ maxLen
end Go.Dol
namespace Go.Proofs.YtecpbcmpncgokaaGreat
open Go.RowKit Go.Dol
set_option linter.unusedVariables false

end Go.Proofs.YtecpbcmpncgokaaGreat
namespace Go.Dol
set_option linter.unusedVariables false
theorem digV_cases : ∀ i : Fin 256, digV i.val < 0 ∨ ∃ j : Fin 16, digV i.val = j.val ∧ (dig j.val).toNat = i.val := by decide +kernel
theorem dig_digV (c : UInt8) (h : 0 ≤ digV c.toNat) : (digV c.toNat).toNat < 16 ∧ dig (digV c.toNat).toNat = c := by
  rcases digV_cases ⟨c.toNat, c.toNat_lt⟩ with h1 | ⟨j, h1, h2⟩
  · simp only at h1
    omega
  · simp only at h1 h2
    have : (digV c.toNat).toNat = j.val := by omega
    rw [this]
    exact ⟨j.isLt, UInt8.toNat_inj.1 h2⟩
theorem hexOf_cons (c : UInt8) (l : List UInt8) : hexOf (c :: l) = dig (c.toNat / 16) :: dig (c.toNat % 16) :: hexOf l := rfl
theorem unhex_hex : ∀ l : List UInt8, unhexL (hexOf l) = some l
  | [] => rfl
  | c :: l => by
    have h := c.toNat_lt
    have h1 := digV_dig (c.toNat / 16) (by omega)
    have h2 := digV_dig (c.toNat % 16) (by omega)
    rw [hexOf_cons, unhexL, h1, h2, if_neg (by omega), unhex_hex l]
    simp only [Option.map_some, Option.some.injEq, List.cons.injEq, and_true]
    have : 16 * ((c.toNat / 16 : Nat) : Int).toNat + ((c.toNat % 16 : Nat) : Int).toNat = c.toNat := by omega
    rw [this]
    simp
theorem hex_unhex : ∀ (l q : List UInt8), unhexL l = some q → hexOf q = l
  | [], q, h => by
    rw [unhexL] at h
    injection h with h
    subst h
    rfl
  | [_], q, h => by cases h
  | a :: b :: t, q, h => by
    rw [unhexL] at h
    split at h
    · cases h
    · rename_i hn
      obtain ⟨z, hz, rfl⟩ := Option.map_eq_some_iff.1 h
      have ha := dig_digV a (by omega)
      have hb := dig_digV b (by omega)
      have ih := hex_unhex t z hz
      rw [hexOf_cons, ih]
      have e : (UInt8.ofNat (16 * (digV a.toNat).toNat + (digV b.toNat).toNat)).toNat = 16 * (digV a.toNat).toNat + (digV b.toNat).toNat := by
        rw [UInt8.toNat_ofNat']
        omega
      rw [e]
      have e1 : (16 * (digV a.toNat).toNat + (digV b.toNat).toNat) / 16 = (digV a.toNat).toNat := by omega
      have e2 : (16 * (digV a.toNat).toNat + (digV b.toNat).toNat) % 16 = (digV b.toNat).toNat := by omega
      rw [e1, e2, ha.2, hb.2]
theorem dig_range (k : Nat) (hk : k < 16) : (48 ≤ (dig k).toNat ∧ (dig k).toNat ≤ 57) ∨ (97 ≤ (dig k).toNat ∧ (dig k).toNat ≤ 102) := by
  have h : ∀ i : Fin 16, (48 ≤ (dig i.val).toNat ∧ (dig i.val).toNat ≤ 57) ∨ (97 ≤ (dig i.val).toNat ∧ (dig i.val).toNat ≤ 102) := by decide
  exact h ⟨k, hk⟩
theorem hexOf_range : ∀ (l : List UInt8) (x : UInt8), x ∈ hexOf l → (48 ≤ x.toNat ∧ x.toNat ≤ 57) ∨ (97 ≤ x.toNat ∧ x.toNat ≤ 102)
  | [], x, h => by cases h
  | c :: l, x, h => by
    have hc := c.toNat_lt
    rw [hexOf_cons] at h
    rcases List.mem_cons.1 h with rfl | h
    · exact dig_range _ (by omega)
    · rcases List.mem_cons.1 h with rfl | h
      · exact dig_range _ (by omega)
      · exact hexOf_range l x h
theorem hexOf_inj {a b : List UInt8} (h : hexOf a = hexOf b) : a = b := by
  have h1 := unhex_hex a
  rw [h, unhex_hex b] at h1
  exact (Option.some.inj h1).symm
end Go.Dol
