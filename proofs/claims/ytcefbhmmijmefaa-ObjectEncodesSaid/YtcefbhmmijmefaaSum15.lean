/- The walks of the layer 'sum', its fifteenth part: the document's hash. Conditions: bytes that are made fit 2^47. -/
import Derived.Test.YtcefbhmmijmefaaSum14
import Derived.Test.YtcefbhmmijmefaaSumA
namespace Go.Proofs.Ytcefbhmmijmefaa
open Go.RowKit Go.Dol
set_option linter.unusedVariables false

def RsPad (l : List UInt8) (B : Nat) (w : World) (b : Value) (wr : World) : Prop :=
  ∃ (k : Nat) (l1 : List UInt8) (A : Option Addr) (c : Nat), b = .slice A l1.length c ∧ Hid (l1 = l ++ 1 :: List.replicate k 0) ∧ Hid (l1.length = l.length + 1 + k) ∧ k ≤ padN l.length ∧ wr.ownsRow B 5 1 (.slice A l1.length c) l1.length (bc l1) ∧ Below B w wr
def RsLen (l0 : List UInt8) (n B : Nat) (w : World) (b x i : Value) (wr : World) : Prop :=
  ∃ (k m : Nat) (l1 : List UInt8) (A : Option Addr) (c : Nat), b = .slice A l1.length c ∧ x = .int .u64 m ∧ i = .int .i64 k ∧ k ≤ 8 ∧ m ≤ n ∧ Hid (l1 = l0 ++ leB k n) ∧ Hid (l1.length = l0.length + k) ∧ Hid (m = n / 256 ^ k) ∧ wr.ownsRow B 5 1 (.slice A l1.length c) l1.length (bc l1) ∧ Below B w wr
def RsZero (l0 : List UInt8) (B : Nat) (w : World) (b i : Value) (wr : World) : Prop :=
  ∃ (k : Nat) (l1 : List UInt8) (A : Option Addr) (c : Nat), b = .slice A l1.length c ∧ i = .int .i64 k ∧ k ≤ 32 ∧ Hid (l1 = l0 ++ List.replicate k 0) ∧ Hid (l1.length = l0.length + k) ∧ wr.ownsRow B 5 1 (.slice A l1.length c) l1.length (bc l1) ∧ Below B w wr
def RsFirst (w : World) (s i : Value) (wr : World) : Prop :=
  ∃ (k : Nat) (A : Option Addr) (c : Nat), s = .slice A k c ∧ i = .int .i64 k ∧ k ≤ 8 ∧ k ≤ c ∧ wr.ownsRow w.heap.size 67 1 (.slice A k c) k (wc (first.take k)) ∧ Below w.heap.size w wr
def RsTake (all : List UInt8) (tail : List Value) (g : Nat) (w : World) (i : Value) (wr : World) : Prop :=
  ∃ (k : Nat) (S : List Int), i = .int .i64 k ∧ k ≤ all.length ∧ k % 32 = 0 ∧ Words S ∧ Hid (absorb S (all.drop k) = absorb first all) ∧ Blk wr g 67 (wc S ++ tail) ∧ w.grownBy wr (some g)
def RsOut (S : List Int) (w : World) (out i : Value) (wr : World) : Prop :=
  ∃ (k : Nat) (l : List UInt8) (A : Option Addr) (c : Nat), out = .slice A l.length c ∧ i = .int .i64 k ∧ k ≤ 8 ∧ Hid (l = outOf (S.take k)) ∧ wr.ownsRow w.heap.size 5 1 (.slice A l.length c) l.length (bc l) ∧ Below w.heap.size w wr

theorem _root_.Go.Dol.Rd.newN (w : World) (T : TypeId) (cs : List Value) : Rd (w.alloc (.cells cs.toArray T)) (w.heap.size + 1) 1 (some ⟨w.heap.size, 0, none⟩) cs.length cs := by
  refine ⟨by simp, fun _ => ⟨w.heap.size, 0, rfl, by omega, fun j u hu => ?_⟩⟩
  have hc := (Blk.new w T cs).cell (0 + j)
  rw [hc, Nat.zero_add]
  exact hu
theorem leB_four (x : Nat) (h : x < 4294967296) : bc (leB 4 x) = [.int .u8 (x % 256 : Nat), .int .u8 (x / 256 % 256 : Nat), .int .u8 (x / 65536 % 256 : Nat), .int .u8 (x / 16777216 : Nat)] := by
  simp only [leB, bc, List.map_cons, List.map_nil, UInt8.toNat_ofNat', Nat.div_div_eq_div_mul]
  have h1 : x / (256 * (256 * 256)) % 256 = x / 16777216 := by omega
  simp
  omega
theorem first_get (k : Nat) (hk : k < 8) : getI first k = ((k : Int) + 1) * 2654435769 % 4294967296 := by
  have h : ∀ i : Fin 8, getI first i.val = ((i.val : Int) + 1) * 2654435769 % 4294967296 := by decide
  exact h ⟨k, hk⟩
theorem first_take_succ (k : Nat) (hk : k < 8) : first.take (k + 1) = first.take k ++ [getI first k] := by
  have hl : k < first.length := by rw [first_words.1]; exact hk
  rw [List.take_succ_eq_append_getElem hl]
  simp [getI, List.getElem?_eq_getElem hl]

set_option maxRecDepth 100000 in
set_option maxHeartbeats 2000000 in
theorem refSum_calls (A : Option Addr) (l : List UInt8) (c : Nat) (w : World) (hr : Rd w w.heap.size 1 A l.length (bc l)) (hl : l.length ≤ 140737488355200) :
    Calls Try.prog 30 #[.slice A l.length c] w fun e w' => ∃ l', Hid (l' = sumOf l) ∧ e = .returned (.string ⟨l'.toArray⟩) ∧ Below w.heap.size w w' := by
  go_enter Try.func30, Try.ntmps30
  go_wp2_with (at_builtin; refine app8 rfl (.tmp 12) (.tmp 13) rfl w.heap.size _ 0 [] rfl ⟨by simp [bc], .inl ⟨rfl, rfl⟩⟩ w.heap.size A l.length c l rfl hr (by omega) (Nat.le_refl _) ?_)
  intro l1 A1 c1 w1 e1 ho1 hb1 _ _ i1 i2
  have h1l : l1.length = l.length := by simp [e1.out]
  have H1 := Lib.hid h1l
  have hs1 := hb1.size
  go_wp2_with (at_builtin; refine push8 rfl (.tmp 15) (.tmp 16) rfl w.heap.size _ l1.length l1 rfl ho1 rfl (by decide) (by decide) (by omega) (by omega) ?_)
  intro d l2 A2 c2 w2 ed e2 ho2 hb2 _ _ i3 i4
  have e2' : Hid (l2 = l ++ 1 :: List.replicate 0 0) := by
    unfold Hid
    have := e2.out
    have h1 : d = 1 := byte_of (n := 1) ed rfl
    rw [this, h1, e1.out]
    rfl
  have h2l : Hid (l2.length = l.length + 1 + 0) := by
    unfold Hid
    rw [e2'.out]
    simp
  have hb02 : Below w.heap.size w w2 := hb1.trans hb2
  clear h1l ho1 hb1 hb2 e1 e2 ed
  go_wp2_with fail
  go_loopw [3] (fun b wr => RsPad l w.heap.size w b wr) (fun b _ => l.length + 1 + padN l.length - lenV b)
  case atStart => exact ⟨0, l2, A2, c2, rfl, e2', h2l, Nat.zero_le _, ho2, hb02⟩
  case round =>
    clear ho2 hb02
    obtain ⟨k, l3, A3, c3, rfl, e3, h3l, hk, ho, hbl⟩ := hrel
    have hs := hbl.size
    have hpn : Hid (padN l.length = (24 + 64 - (l.length % 32 + 1)) % 32) := rfl
    obtain ⟨q, hq⟩ : ∃ q, q = l3.length % 32 := ⟨_, rfl⟩
    have hrem : (l3.length : Int) % 32 = (q : Int) := by omega
    have hrem2 : (l3.length : Int).tmod 32 = (q : Int) := by rw [Int.tmod_eq_emod_of_nonneg (by omega)]; exact hrem
    have h3b : l3.length ≤ 140737488355240 := by
      have := h3l.out
      have := hpn.out
      omega
    have HQ := Lib.hid hq
    clear hq
    by_cases hq24 : q = 24
    · have HQ24 := Lib.hid hq24
      have hb24 : ((q : Int) != 24) = false := by rw [hq24]; rfl
      have hkl : Hid (k = padN l.length) := by
        unfold Hid
        have := HQ.out
        have := HQ24.out
        have := hpn.out
        have := h3l.out
        omega
      have hu64 : IntKind.u64.wrap (l.length : Int) = (l.length : Int) := by rw [IntKind.wrap_u64]; omega
      clear hq24
      go_wp2_with fail
      go_loopw [3, 4, 5] (fun b x i wr => RsLen l3 l.length w.heap.size w b x i wr) (fun _ _ i _ => 8 - (intOf i).toNat)
      case atStart => exact ⟨0, l.length, l3, A3, c3, rfl, rfl, rfl, by omega, Nat.le_refl _, by simp [Hid, leB], by simp [Hid], by simp [Hid], ho, hbl⟩
      case round =>
        clear ho hbl hs
        obtain ⟨k4, m, l4, A4, c4, rfl, rfl, rfl, hk4, hmn, e4, h4l, hm, ho, hbl⟩ := hrel
        have hs := hbl.size
        have h4b : l4.length ≤ 140737488355248 := by
          have := h4l.out
          omega
        by_cases hlt4 : k4 < 8
        · have hki : (k4 : Int) < 8 := by omega
          have hmr : (m : Int) % 256 < 256 := by omega
          have hmq : IntKind.u64.wrap ((m : Int) / 256) = (m : Int) / 256 := by rw [IntKind.wrap_u64]; omega
          go_wp2_with (at_builtin; refine push8 rfl (.tmp 32) (.tmp 36) rfl w.heap.size _ l4.length l4 rfl ho rfl (by omega) (by omega) (by omega) (by omega) ?_)
          intro d l5 A5 c5 w5 ed e5 ho5 hb5 _ _ j3 j4
          go_wp2_with fail
          refine ⟨⟨k4 + 1, m / 256, l5, A5, c5, rfl, by go_num, by go_num, by omega, by omega, ?_, ?_, ?_, ho5, hbl.trans hb5⟩, by simp [intOf]; omega⟩
          · have hd' := byte_of (n := m % 256) ed (by omega)
            unfold Hid
            rw [e5.out, e4.out, hd', hm.out, leB_snoc, List.append_assoc]
          · unfold Hid
            rw [e5.out, List.length_append, h4l.out]
            rfl
          · unfold Hid
            rw [hm.out, Nat.div_div_eq_div_mul, Nat.pow_succ]
        · have hki : ¬ (k4 : Int) < 8 := by omega
          have hk48 : Hid (k4 = 8) := by unfold Hid; omega
          go_wp2_with fail
          go_loopw [3, 6] (fun b i wr => RsZero l4 w.heap.size w b i wr) (fun _ i _ => 32 - (intOf i).toNat)
          case atStart => exact ⟨0, l4, A4, c4, rfl, rfl, by omega, by simp [Hid], by simp [Hid], ho, hbl⟩
          case round =>
            clear ho hbl hs
            obtain ⟨k6, l6, A6, c6, rfl, rfl, hk6, e6, h6l, ho, hbl⟩ := hrel
            have hs := hbl.size
            have h6b : l6.length ≤ 140737488355288 := by
              have := h6l.out
              omega
            by_cases hlt6 : k6 < 32
            · have hki6 : (k6 : Int) < 32 := by omega
              go_wp2_with (at_builtin; refine push8 rfl (.tmp 44) (.tmp 45) rfl w.heap.size _ l6.length l6 rfl ho rfl (by decide) (by decide) (by omega) (by omega) ?_)
              intro d l7 A7 c7 w7 ed e7 ho7 hb7 _ _ j5 j6
              go_wp2_with fail
              refine ⟨⟨k6 + 1, l7, A7, c7, rfl, by go_num, by omega, ?_, ?_, ho7, hbl.trans hb7⟩, by simp [intOf]; omega⟩
              · have hd0 : d = 0 := by
                  have := ed.out
                  exact UInt8.toNat_inj.1 (by simpa using this)
                unfold Hid
                rw [e7.out, e6.out, hd0, List.append_assoc, List.replicate_succ']
              · unfold Hid
                rw [e7.out, List.length_append, h6l.out]
                rfl
            · have hki6 : ¬ (k6 : Int) < 32 := by omega
              have hk632 : k6 = 32 := by omega
              have hall : Hid (l6 = l ++ padding l.length l.length) := by
                unfold Hid padding
                rw [e6.out, e4.out, e3.out, hkl.out, hk48.out, hk632]
                simp
              have hmod : Hid (l6.length % 32 = 0) := by
                unfold Hid
                rw [hall.out, List.length_append]
                exact padding_length _ _
              have hrd := Rd.of_own ho
              have hlc6 : l6.length ≤ c6 := by obtain ⟨_, _, h, hle, _⟩ := own_form ho; injection h with _ _ h; omega
              clear hk632 ho
              have hdone : ∀ out : List UInt8, out = outOf (absorb first l6).1 → Hid (out = sumOf l) := fun out h => by
                unfold Hid
                rw [h, sumOf_whole, hall.out]
              have HD := Lib.hid hdone
              clear hdone hall
              go_wp2_with fail
              obtain ⟨w6, hw6⟩ : ∃ w6, w6 = wr := ⟨_, rfl⟩
              rw [← hw6] at hrd hbl hs
              rw [← hw6]
              clear hw6
              go_loopw [7, 8] (fun s i wr => RsFirst w6 s i wr) (fun _ i _ => 8 - (intOf i).toNat)
              case atStart => exact ⟨0, none, 0, rfl, rfl, by omega, by omega, ⟨by simp [wc], .inl ⟨rfl, by simp⟩⟩, Below.refl _ _⟩
              case round =>
                obtain ⟨k8, A8, c8, rfl, rfl, hk8, hk8c, ho8, hb8⟩ := hrel
                have hs8 := hb8.size
                by_cases hlt8 : k8 < 8
                · have hki8 : (k8 : Int) < 8 := by omega
                  have hu1 : IntKind.u32.wrap ((k8 : Int) + 1) = (k8 : Int) + 1 := by rw [IntKind.wrap_u32]; omega
                  go_wp2_with (at_builtin; refine appVl rfl (.tmp 51) (.tmp 56) 66 67 _ 4 rfl Try.underlying66 info_u32 rfl w6.heap.size _ k8 (wc (first.take k8)) rfl (ho8.alloc _) (wr.heap.size + 1) _ 1 1 [.int .u32 (getI first k8)] rfl (by rw [first_get k8 hlt8]; exact Rd.new1 wr _ _) (by simp [Value.oneCell']) (by unfold maxLen; omega) (by omega) (by simp; omega) ?_)
                  intro A9 c9 w9 ho9 hb9 _ j7 j8
                  go_wp2_with fail
                  refine ⟨⟨k8 + 1, A9, c9, rfl, by go_num, by omega, j7, ?_, hb8.trans (((Below.refl _ _).alloc hs8 _).trans hb9)⟩, by simp [intOf]; omega⟩
                  rw [first_take_succ k8 hlt8]
                  have : wc (first.take k8 ++ [getI first k8]) = wc (first.take k8) ++ [.int .u32 (getI first k8)] := by simp [wc]
                  rw [this]
                  exact ho9
                · have hki8 : ¬ (k8 : Int) < 8 := by omega
                  have hk88 : k8 = 8 := by omega
                  have HK8 := Lib.hid hk88
                  have ho8' : wr.ownsRow w6.heap.size 67 1 (.slice A8 k8 c8) k8 (wc first) := by
                    have e : first.take k8 = first := List.take_of_length_le (by rw [hk88, first_words.1]; exact Nat.le_refl _)
                    rwa [e] at ho8
                  obtain ⟨g, tail, rfl, hg6, hbk⟩ := blk_of_own ho8' (by omega)
                  obtain ⟨w8, hw8⟩ : ∃ w8, w8 = wr := ⟨_, rfl⟩
                  rw [← hw8] at hbk hb8 hs8
                  clear hk88 ho8 ho8'
                  go_wp2_with fail
                  rw [← hw8]
                  clear hw8
                  go_loopw [9] (fun i wr => RsTake l6 tail g w8 i wr) (fun i _ => l6.length - (intOf i).toNat)
                  case atStart => exact ⟨0, first, rfl, Nat.zero_le _, rfl, first_words, by simp [Hid], hbk, World.grownBy.refl _ _⟩
                  case round =>
                    clear hbk
                    obtain ⟨k9, S, rfl, hk9, hk932, hS, habs, hbk, hgr⟩ := hrel
                    have hsz := hgr.size
                    by_cases hlt9 : k9 < l6.length
                    · have hm := hmod.out
                      have hk32 : k9 + 32 ≤ l6.length := by omega
                      have hbw : Below w6.heap.size w6 wr := hb8.trans (below_of_grown hgr hg6 hs8)
                      have hr6 := hrd.below hbw
                      have hcut := (hr6.more (B' := wr.heap.size) hbw.size).cut (lo := k9) (hi := k9 + 32) (cap := c6) (by omega) hk32 (by omega)
                      rw [if_neg (by omega), Nat.mul_one, Nat.mul_one, bc_drop, bc_take, Nat.add_sub_cancel_left] at hcut
                      have hci : (k9 : Int) + 32 ≤ (c6 : Int) := by omega
                      have hc60 : ¬ c6 = k9 := by omega
                      have f1 : IntKind.i64.wrap ((k9 : Int) + 32) = (k9 : Int) + 32 := IntWalk.i64_in _ (by omega)
                      have hki9 : (k9 : Int) < (l6.length : Int) := by omega
                      have HM9 := Lib.hid hk932
                      clear hm hk932
                      go_wp2_with fail
                      ((with_reducible refine (reftake_calls g k8 S tail c8 _ ((l6.drop k9).take 32) 32 _ wr hS hbk (by omega) hcut rfl HK8.out).mono ?_); rintro e w9 ⟨rfl, hb9, hg9⟩)
                      go_wp2_with fail
                      refine ⟨⟨k9 + 32, _, rfl, hk32, by have := HM9.out; omega, hS.sumB _, ?_, hb9, grown_step hgr hg9⟩, by simp [intOf]; omega⟩
                      unfold Hid
                      rw [← habs.out, absorb_ge (l := l6.drop k9) (by rw [List.length_drop]; omega), List.drop_drop]
                    · have hki9 : ¬ (k9 : Int) < (l6.length : Int) := by omega
                      have hfin : Hid (S = (absorb first l6).1) := by
                        unfold Hid
                        rw [← habs.out, List.drop_eq_nil_of_le (by omega), absorb_lt (by simp)]
                      have hball : Below w.heap.size w wr := hbl.trans ((hb8.trans (below_of_grown hgr hg6 hs8)).mono hs)
                      clear hk932 habs hgr hb8
                      go_wp2_with fail
                      obtain ⟨w9, hw9⟩ : ∃ w9, w9 = wr := ⟨_, rfl⟩
                      rw [← hw9] at hbk hball hsz
                      rw [← hw9]
                      clear hw9
                      have hlg := hbk.lt
                      go_loopw [10, 11] (fun out i wr => RsOut S w9 out i wr) (fun _ i _ => 8 - (intOf i).toNat)
                      case atStart => exact ⟨0, [], none, 0, rfl, rfl, by omega, rfl, ⟨by simp [bc], .inl ⟨rfl, rfl⟩⟩, Below.refl _ _⟩
                      case round =>
                        obtain ⟨ka, la, Aa, ca, rfl, rfl, hka, ea, hoa, hba⟩ := hrel
                        have hsa := hba.size
                        by_cases hlta : ka < 8
                        · have hkia : (ka : Int) < 8 := by omega
                          have hcell : wr.cell? ⟨g, ka, none⟩ = some (.int .u32 (getI S ka)) := by rw [(hbk.below hba hlg).cell]; exact wc_get hS tail hlta
                          have hrg := hS.get hlta
                          obtain ⟨x, hx⟩ : ∃ x : Nat, x = (getI S ka).toNat := ⟨_, rfl⟩
                          have hxe : getI S ka = (x : Int) := by omega
                          have hx32 : x < 4294967296 := by omega
                          rw [hxe] at hcell
                          have HX := Lib.hid hx
                          have hll : la.length = 4 * ka := by rw [ea.out]; exact outOf_take_length hS.1 (by omega)
                          have HLL := Lib.hid hll
                          have hlb : la.length ≤ 32 := by omega
                          obtain ⟨v0, hv0⟩ : ∃ v : Nat, v = x % 256 := ⟨_, rfl⟩
                          obtain ⟨v1, hv1⟩ : ∃ v : Nat, v = x / 256 % 256 := ⟨_, rfl⟩
                          obtain ⟨v2, hv2⟩ : ∃ v : Nat, v = x / 65536 % 256 := ⟨_, rfl⟩
                          obtain ⟨v3, hv3⟩ : ∃ v : Nat, v = x / 16777216 := ⟨_, rfl⟩
                          have hbytes : Hid (bc (leB 4 x) = [.int .u8 v0, .int .u8 v1, .int .u8 v2, .int .u8 v3]) := by
                            unfold Hid
                            rw [leB_four x hx32, hv0, hv1, hv2, hv3]
                          have f0 : (x : Int) % 256 = (v0 : Int) := by omega
                          have f1 : (x : Int) / 256 % 256 = (v1 : Int) := by omega
                          have f2 : (x : Int) / 65536 % 256 = (v2 : Int) := by omega
                          have f3 : (x : Int) / 16777216 = (v3 : Int) := by omega
                          have t0 : (x : Int).tmod 256 = (v0 : Int) := by rw [Int.tmod_eq_emod_of_nonneg (by omega)]; exact f0
                          have t1 : ((x : Int) / 256).tmod 256 = (v1 : Int) := by rw [Int.tmod_eq_emod_of_nonneg (by omega)]; exact f1
                          have t2 : ((x : Int) / 65536).tmod 256 = (v2 : Int) := by rw [Int.tmod_eq_emod_of_nonneg (by omega)]; exact f2
                          have w1 : IntKind.u32.wrap ((x : Int) / 256) = (x : Int) / 256 := by rw [IntKind.wrap_u32]; omega
                          have w2 : IntKind.u32.wrap ((x : Int) / 65536) = (x : Int) / 65536 := by rw [IntKind.wrap_u32]; omega
                          have w3 : IntKind.u32.wrap (v3 : Int) = (v3 : Int) := by rw [IntKind.wrap_u32]; omega
                          have hk8x : (ka : Int) < (k8 : Int) := by have := HK8.out; omega
                          have b0 : IntKind.u8.wrap (v0 : Int) = (v0 : Int) := by rw [IntKind.wrap_u8]; omega
                          have b1 : IntKind.u8.wrap (v1 : Int) = (v1 : Int) := by rw [IntKind.wrap_u8]; omega
                          have b2 : IntKind.u8.wrap (v2 : Int) = (v2 : Int) := by rw [IntKind.wrap_u8]; omega
                          have b3 : IntKind.u8.wrap (v3 : Int) = (v3 : Int) := by rw [IntKind.wrap_u8]; omega
                          clear hx hxe hll hv0 hv1 hv2 hv3 hrg
                          go_wp2_with fail
                          go_region_held3 (fun w' => w'.cell? ⟨g, ka, none⟩ = some (.int .u32 x)) (first | go_keep | (rw [z2.cell (p := ⟨g, _, none⟩) hlg]; assumption))
                            ((refine app8r (by rfl) (.tmp 75) (.tmp 102) (by rfl) w9.heap.size _ la.length la (by rfl) (World.ownsRow.alloc (w := World.drew wr) hoa _) (wr.heap.size + 1) _ 4 4 (leB 4 x) (by rfl) (by rw [hbytes.out]; exact (Rd.newN wr _ [.int .u8 v0, .int .u8 v1, .int .u8 v2, .int .u8 v3]).drew) (by omega) (by simp; omega) ?_; intro l' A' c' w' z1 z3 z2 z4 z5 z6))
                          go_wp2_with fail
                          refine ⟨⟨ka + 1, l', A', c', rfl, by go_num, by omega, ?_, z3, hba.trans (((Below.refl _ _).alloc hsa _).drew.trans z2)⟩, by simp [intOf]; omega⟩
                          unfold Hid
                          rw [z1.out, ea.out, outOf_take_succ (by rw [hS.1]; exact hlta), ← HX.out]
                        · have hkia : ¬ (ka : Int) < 8 := by omega
                          have hka8 : ka = 8 := by omega
                          have hout : Hid (la = sumOf l) := by
                            refine HD.out la ?_
                            rw [ea.out, hka8, List.take_of_length_le (by rw [hS.1]; exact Nat.le_refl _), hfin.out]
                          have HKA := Lib.hid hka8
                          clear hka8
                          go_wp2_with (refine conv8 rfl (.tmp 104) rfl wr.heap.size Aa la.length ca la rfl (Rd.of_own hoa) ?_)
                          go_ret
                          exact ⟨la, hout, rfl, hball.trans (hba.mono hball.size)⟩
    · have hb24 : ((q : Int) != 24) = true := by simp; omega
      have hkl : k < padN l.length := by
        have := HQ.out
        have := hpn.out
        have := h3l.out
        omega
      go_wp2_with (at_builtin; refine push8 rfl (.tmp 22) (.tmp 23) rfl w.heap.size _ l3.length l3 rfl ho rfl (by decide) (by decide) (by omega) (by omega) ?_)
      intro d l5 A5 c5 w5 ed e5 ho5 hb5 _ _ j3 j4
      go_wp2_with fail
      have h5l : l5.length = l.length + 1 + (k + 1) := by rw [e5.out, List.length_append, h3l.out]; rfl
      have hd0 : d = 0 := by
        have := ed.out
        exact UInt8.toNat_inj.1 (by simpa using this)
      refine ⟨⟨k + 1, l5, A5, c5, rfl, ?_, h5l, hkl, ho5, hbl.trans hb5⟩, ?_⟩
      · unfold Hid
        rw [e5.out, hd0, e3.out, List.replicate_succ']
        simp
      · show l.length + 1 + padN l.length - l5.length < l.length + 1 + padN l.length - l3.length
        rw [h5l, h3l.out]
        omega
end Go.Proofs.Ytcefbhmmijmefaa
