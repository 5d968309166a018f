/- The walks of the law's name and forward. Conditions: none beyond what each law names. -/
import Derived.Test.YteeajmgiamdfdaaFwdLaw
import Derived.Test.YteeajmgiamdfdaaClo
import Derived.Test.YteeajmgiamdfdaaRegLast
import Derived.Test.YteeajmgiamdfdaaAppS
import Derived.Test.YteeajmgiamdfdaaRSort
namespace Go.Dol
open Go.RowKit
set_option linter.unusedVariables false
/-- The last bits of a number. -/
theorem mask_nat (x : Int) : ∃ q : Nat, bits .and .i64 x 65535 = (q : Int) ∧ q ≤ 65535 := by
  have hb : (BitVec.ofInt 64 ((65535 : Nat) : Int)).toNat = 65535 := by
    rw [BitVec.ofInt_natCast, BitVec.toNat_ofNat]
  obtain ⟨r, hr⟩ : ∃ r, r = (BitVec.ofInt 64 x &&& BitVec.ofInt 64 ((65535 : Nat) : Int)).toNat := ⟨_, rfl⟩
  have ha : r ≤ 65535 := by
    rw [hr, BitVec.toNat_and, hb]
    exact Nat.and_le_right
  have e : bits .and .i64 x ((65535 : Nat) : Int) = IntKind.i64.wrap (r : Int) := by rw [hr]; rfl
  refine ⟨r, ?_, ha⟩
  show bits .and .i64 x ((65535 : Nat) : Int) = _
  rw [e, IntWalk.i64_in _ (by omega)]
/-- Two rows of the call's own, of elements of two types, lie apart. -/
theorem own_apart {w : World} {b1 b2 : Nat} {e1 e2 : TypeId} {s1 s2 : Nat} {v1 v2 : Value} {n1 n2 : Nat} {x1 x2 : List Value} (h1 : w.ownsRow b1 e1 s1 v1 n1 x1) (h2 : w.ownsRow b2 e2 s2 v2 n2 x2) (he : e1 ≠ e2) : v1.ownBlock = none ∨ v1.ownBlock ≠ v2.ownBlock := by
  rcases h1.2 with ⟨rfl, _⟩ | ⟨g, cap, cur, rfl, _, hh, _⟩
  · exact .inl rfl
  · refine .inr fun e => ?_
    rcases h2.2 with ⟨rfl, _⟩ | ⟨g2, cap2, cur2, rfl, _, hh2, _⟩
    · cases e
    · have : g = g2 := by simpa [Value.ownBlock] using e
      rw [this, hh2] at hh
      injection hh with hh
      injection hh with _ hh
      exact he hh.symm
/-- A row of numbers, and the slice that it is. -/
structure RowA where
  zs : List Int
  A : Option Addr
  c : Nat
def uc (l : List RowA) : List Value := l.map fun x => .slice x.A x.zs.length x.c
def ic (l : List Int) : List Value := l.map (Value.int .i64)
theorem uc_length (l : List RowA) : (uc l).length = l.length := by simp [uc]
theorem ic_length (l : List Int) : (ic l).length = l.length := by simp [ic]
/-- Rows that read. -/
def Rws (w : World) (B : Nat) (l : List RowA) : Prop := ∀ x ∈ l, Rd w B 1 x.A x.zs.length (ic x.zs) ∧ x.zs.length ≤ maxLen
end Go.Dol
namespace Go.Proofs.Yteeajmgiamdfdaa
open Go.RowKit Go.Dol
set_option linter.unusedVariables false
set_option maxRecDepth 100000 in
set_option maxHeartbeats 800000 in
theorem name_calls (i : Nat) (w : World) (hi : i < 60) : Calls Try.prog 21 #[.int .i64 (i : Int)] w fun e w' => e = .returned (.string (idB i)) ∧ Below w.heap.size w w' := by
  have hi0 : (0 : Int) ≤ (i : Int) := by omega
  have hi1 : (i : Int) < 60 := by omega
  obtain ⟨a, ha⟩ : ∃ a : Nat, (i : Int) % 8 = (a : Int) := ⟨i % 8, by omega⟩
  obtain ⟨b, hb⟩ : ∃ b : Nat, (i : Int) / 8 = (b : Int) := ⟨i / 8, by omega⟩
  have ha' : (i : Int).tmod 8 = (a : Int) := by rw [Int.tmod_eq_emod_of_nonneg hi0]; exact ha
  have hb' : (i : Int).tdiv 8 = (b : Int) := by rw [Int.tdiv_eq_ediv_of_nonneg hi0]; exact hb
  have hal : a < 8 := by omega
  have hbl : b < 8 := by omega
  obtain ⟨x, hx⟩ : ∃ x : UInt8, x = UInt8.ofNat (97 + a) := ⟨_, rfl⟩
  obtain ⟨y, hy⟩ : ∃ y : UInt8, y = UInt8.ofNat (48 + b) := ⟨_, rfl⟩
  have e1 : idB i = ⟨#[x, y]⟩ := by
    have h1 : i % 8 = a := by omega
    have h2 : i / 8 = b := by omega
    unfold idB
    rw [h1, h2, hx, hy]
  have hx1 : (x.toNat : Int) = 97 + (a : Int) := by rw [hx, UInt8.toNat_ofNat']; omega
  have hy1 : (y.toNat : Int) = 48 + (b : Int) := by rw [hy, UInt8.toNat_ofNat']; omega
  have hrd : Rd (w.alloc (.cells #[.int .u8 (97 + (a : Int)), .int .u8 (48 + (b : Int))] 5)) (w.heap.size + 1) 1 (some ⟨w.heap.size, 0, none⟩) 2 (bc [x, y]) := by
    have hB := Blk.new w 5 [.int .u8 (97 + (a : Int)), .int .u8 (48 + (b : Int))]
    refine ⟨rfl, fun _ => ⟨w.heap.size, 0, rfl, by omega, fun j u hu => ?_⟩⟩
    rw [Nat.zero_add]
    refine (hB.cell j).trans ?_
    rw [← hu]
    simp only [bc, List.map_cons, List.map_nil, hx1, hy1]
  have hcv := run_conv_bs (P := Try.prog) (w.alloc (.cells #[.int .u8 (97 + (a : Int)), .int .u8 (48 + (b : Int))] 5)) 66 9 5 Try.underlying66 Try.underlying5 Try.underlying9 _ (some ⟨w.heap.size, 0, none⟩) 2 2 _ hrd
  have hb0 : Below w.heap.size w (w.alloc (.cells #[.int .u8 (97 + (a : Int)), .int .u8 (48 + (b : Int))] 5)) := (Below.refl _ _).alloc (Nat.le_refl _) _
  have w1 : IntKind.u8.wrap (97 + (a : Int)) = 97 + (a : Int) := by unfold IntKind.wrap; simp [IntKind.bits, IntKind.signed]; omega
  have w2 : IntKind.u8.wrap (48 + (b : Int)) = 48 + (b : Int) := by unfold IntKind.wrap; simp [IntKind.bits, IntKind.signed]; omega
  have E1 := Lib.hid e1
  clear hrd e1 hx hy hx1 hy1
  go_enter Try.func21, Try.ntmps21
  go_wp2_with fail
  go_ret
  exact ⟨by rw [E1.out]; rfl, hb0⟩
/-- Nodes so far: each is the program's, with parents of its own. -/
def FwdN (w : World) (base : Nat) (ys : List NdA) : Prop := ∀ x ∈ ys, w.ownsRow base 9 1 (.slice x.A x.ps.length x.c) x.ps.length (pc x.ps)
/-- The rounds of forward. -/
def FwdRel (n : Nat) (w : World) (q i : Value) (wr : World) : Prop :=
  ∃ (ys : List NdA) (A : Option Addr) (c : Nat), q = .slice A ys.length c ∧ i = .int .i64 ys.length ∧ ys.length ≤ n ∧ ys.length ≤ 60 ∧ Hid (Fwd (ys.map NdA.f)) ∧ FwdN wr w.heap.size ys ∧ wr.ownsRow w.heap.size 28 2 (.slice A ys.length c) ys.length (nc ys) ∧ Below w.heap.size w wr
/-- The rounds over one's parents. -/
def ParRel (i n : Nat) (v0 : World) (k : Value) (wr : World) : Prop :=
  ∃ (ps : List ByteArray) (A : Option Addr) (c : Nat), k = .int .i64 ps.length ∧ ps.length ≤ 4 ∧ ps.length ≤ n ∧ Hid (∀ p ∈ ps, ∃ j, j < i ∧ p = idB j) ∧ Blk wr v0.heap.size 28 [.string (idB i), .slice A ps.length c] ∧ wr.ownsRow v0.heap.size 9 1 (.slice A ps.length c) ps.length (pc ps) ∧ Below v0.heap.size v0 wr
/-- What forward hands back. -/
def RetFwd (w : World) (e : Ending) (w' : World) : Prop := ∃ (ys : List NdA) (A' : Option Addr) (c' : Nat), e = .returned (.slice A' ys.length c') ∧ Hid (Fwd (ys.map NdA.f)) ∧ NdsOk w' A' ys ∧ Below w.heap.size w w'
theorem Fwd.nil : Fwd [] := ⟨Nat.zero_le _, fun i nd h => by simp at h⟩
theorem Fwd.snoc {l : List Nd} (F : Fwd l) (hl : l.length < 60) {ps : List ByteArray} (h4 : ps.length ≤ 4) (hp : ∀ p ∈ ps, ∃ j, j < l.length ∧ p = idB j) : Fwd (l ++ [(idB l.length, ps)]) := by
  refine ⟨by rw [List.length_append]; simp; omega, fun i nd h => ?_⟩
  rcases Nat.lt_or_ge i l.length with hi | hi
  · rw [List.getElem?_append_left hi] at h
    exact F.at_ i nd h
  · have hi2 : i = l.length := by
      have := (List.getElem?_eq_some_iff.1 h).1
      rw [List.length_append] at this
      simp at this
      omega
    rw [hi2, List.getElem?_append_right (Nat.le_refl _), Nat.sub_self] at h
    have : (idB l.length, ps) = nd := by simpa using h
    rw [← this, hi2]
    exact ⟨rfl, h4, hp⟩
set_option maxRecDepth 100000 in
set_option maxHeartbeats 6400000 in
theorem forward_calls (A : Option Addr) (l : List RowA) (c : Nat) (w : World) (hr : Rd w w.heap.size 1 A l.length (uc l)) (hw : Rws w w.heap.size l) (hl : l.length ≤ 140737488355328) :
    Calls Try.prog 9 #[.slice A l.length c] w (RetFwd w) := by
  go_enter Try.func9, Try.ntmps9
  go_wp2_with fail
  go_loopw [3, 4] (fun q i wr => FwdRel l.length w q i wr) (fun _ i _ => l.length - (intOf i).toNat)
  case atStart => exact ⟨[], none, 0, rfl, rfl, Nat.zero_le _, Nat.zero_le _, Fwd.nil, (fun x hx => (List.not_mem_nil hx).elim), World.ownsRow_nil _ _ _ _, Below.refl _ _⟩
  case round =>
    obtain ⟨ys, A5, c5, rfl, rfl, hk, hk60, hF, hN, ho, hb⟩ := hrel
    have hs := hb.size
    have f1 : IntKind.i64.wrap ((ys.length : Int) + 1) = (ys.length : Int) + 1 := IntWalk.i64_in _ (by omega)
    obtain ⟨i, hi⟩ : ∃ i, i = ys.length := ⟨_, rfl⟩
    have HI := Lib.hid hi
    by_cases hlt : ys.length < l.length ∧ ys.length < 60
    · obtain ⟨h1, h2⟩ := hlt
      have hd1 : decide ((i : Int) < (l.length : Int)) = true := decide_eq_true (by omega)
      have hd1' : (i : Int) < (l.length : Int) := by omega
      have hd2 : decide ((i : Int) < 60) = true := decide_eq_true (by omega)
      have hd2' : (i : Int) < 60 := by omega
      have hi0 : (0 : Int) ≤ (i : Int) := by omega
      have hi60 : i < 60 := by omega
      have hil : i < l.length := by omega
      have hNm := Lib.hid (name_calls i wr hi60)
      rw [← hi] at f1 ho hk hk60 ⊢
      clear hi h1 h2
      go_wp2_with fail
      refine hNm.out.mono ?_
      rintro e v0 ⟨rfl, hb1⟩
      have hbv := hb.next hb1
      have hov := own_belowW ho hb1
      have hNv : FwdN v0 w.heap.size ys := fun x hx => own_belowW (hN x hx) hb1
      have hB0 := Blk.new v0 28 [.string (idB i), .slice none 0 0]
      have hb0 : Below v0.heap.size v0 (v0.alloc (.cells #[.string (idB i), .slice none 0 0] 28)) := (Below.refl _ _).alloc (Nat.le_refl _) _
      obtain ⟨x, hx⟩ : ∃ x, l[i]? = some x := ⟨l[i], List.getElem?_eq_getElem hil⟩
      obtain ⟨ub, uo, rfl, hub, hucell⟩ := hr.at_ (by omega)
      have cu : w.cell? ⟨ub, uo + i, none⟩ = some (.slice x.A x.zs.length x.c) := hucell i _ (by simp [uc, hx])
      obtain ⟨hxr, hxl⟩ := hw x (List.mem_of_getElem? hx)
      have hsv := hbv.size
      have hst : ParRel i x.zs.length v0 (.int .i64 0) (v0.alloc (.cells #[.string (idB i), .slice none 0 0] 28)) :=
        ⟨[], none, 0, rfl, Nat.zero_le _, Nat.zero_le _, (fun p hp => (List.not_mem_nil hp).elim), hB0, World.ownsRow_nil _ _ _ _, hb0⟩
      have HST := Lib.hid hst
      unfold maxLen at hxl
      clear hst hucell hx hB0 hb0 hb hb1 ho hN hNm
      go_wp2_with fail
      go_loopw [6] (fun k wr => ParRel i x.zs.length v0 k wr) (fun k _ => x.zs.length - (intOf k).toNat)
      case atStart => exact HST.out
      case round =>
        clear HST
        obtain ⟨ps, A7, c7, rfl, h4, hn, hps, hB, ho7, hbr⟩ := hrel
        have hsr := hbr.size
        have hbw := hbv.next hbr
        have cu1 : wr.cell? ⟨ub, uo + i, none⟩ = some (.slice x.A x.zs.length x.c) := (hbw.cell (p := ⟨ub, uo + i, none⟩) hub).trans cu
        obtain ⟨k, hkk⟩ : ∃ k, k = ps.length := ⟨_, rfl⟩
        have HK := Lib.hid hkk
        have g1 : IntKind.i64.wrap ((k : Int) + 1) = (k : Int) + 1 := IntWalk.i64_in _ (by omega)
        have cB1 := hB.cell 1
        by_cases hgo : k < x.zs.length ∧ k < 4 ∧ 0 < i
        · obtain ⟨h5, h6, h7⟩ := hgo
          have e1 : decide ((k : Int) < (x.zs.length : Int)) = true := decide_eq_true (by omega)
          have e1n : decide (k < x.zs.length) = true := decide_eq_true (by omega)
          have e1' : (k : Int) < (x.zs.length : Int) := by omega
          have e2 : decide ((k : Int) < 4) = true := decide_eq_true (by omega)
          have e2' : (k : Int) < 4 := by omega
          have e3 : decide ((0 : Int) < (i : Int)) = true := decide_eq_true (by omega)
          have e3n : decide (0 < i) = true := decide_eq_true (by omega)
          have e3' : (0 : Int) < (i : Int) := by omega
          have hk0 : (0 : Int) ≤ (k : Int) := by omega
          obtain ⟨v, hv⟩ : ∃ v, x.zs[k]? = some v := ⟨x.zs[k], List.getElem?_eq_getElem h5⟩
          obtain ⟨rb, ro, hxA, hrb, hrcell⟩ := hxr.at_ (by omega)
          have cv : w.cell? ⟨rb, ro + k, none⟩ = some (.int .i64 v) := hrcell k _ (by simp [ic, hv])
          rw [hxA] at cu1 cu
          have HSS : Hid (∀ W, Below v0.heap.size v0 W → W.cell? ⟨ub, uo + i, none⟩ = some (.slice (some ⟨rb, ro, none⟩) x.zs.length x.c) ∧ W.cell? ⟨rb, ro + k, none⟩ = some (.int .i64 v)) := fun W hW =>
            ⟨((hbv.next hW).cell (p := ⟨ub, uo + i, none⟩) hub).trans cu, ((hbv.next hW).cell (p := ⟨rb, ro + k, none⟩) hrb).trans cv⟩
          obtain ⟨q, hq, hq5⟩ := mask_nat v
          obtain ⟨m, hm⟩ : ∃ m : Nat, (q : Int) % (i : Int) = (m : Int) := ⟨q % i, by omega⟩
          have hm' : (q : Int).tmod (i : Int) = (m : Int) := by rw [Int.tmod_eq_emod_of_nonneg (by omega)]; exact hm
          have hmi : m < i := by
            have : (q : Int) % (i : Int) < (i : Int) := Int.emod_lt_of_pos _ e3'
            omega
          have hq0 : (0 : Int) ≤ (q : Int) := by omega
          have hin : ¬ i = 0 := by omega
          have hi1 : (1 : Int) ≤ (i : Int) := by omega
          have hNm := Lib.hid (fun W => name_calls m W (by omega))
          have hBd := hB.drew
          have hbd := hbr.drew
          have hod : wr.drew.ownsRow v0.heap.size 9 1 (.slice A7 ps.length c7) ps.length (pc ps) := own_belowW ho7 ((Below.refl _ wr).drew)
          have cu0 := (HSS.out _ hbd).1
          have cv0 := (HSS.out _ hbd).2
          have cB0 := hBd.cell 1
          rw [← hkk] at hod cB1 cB0 hBd ⊢
          clear hkk hv hrcell cu cv hB ho7 h5 h6 h7
          go_wp2_with fail
          refine wp_region_last (S := fun W => W.cell? ⟨v0.heap.size, 1, none⟩ = some (.slice A7 k c7) ∧ W.cell? ⟨ub, uo + i, none⟩ = some (.slice (some ⟨rb, ro, none⟩) x.zs.length x.c) ∧ W.cell? ⟨rb, ro + k, none⟩ = some (.int .i64 v)) 16 _ (by kernel_rfl) rfl (by kernel_rfl) rfl rfl ⟨cB0, cu0, cv0⟩ (fun hHeld => ?_)
          simp only [List.setIfInBounds_toArray, List.set_cons_zero, List.set_cons_succ, idle, List.getElem_toArray, List.getElem_cons_succ, List.getElem_cons_zero]
          refine wpAnyH_take (i := 0) (oi := _) (v := .pointer (some ⟨v0.heap.size, 1, none⟩)) rfl (by kernel_rfl) (by kernel_rfl) (by kernel_rfl) (fun _ _ _ h => h) (Or.inl ⟨by rfl, fun w9 hS => ?_⟩) hHeld ?_
          · obtain ⟨s0, s1, s2⟩ := hS
            go_simp
          try simp only [Act.put, List.setIfInBounds_toArray, List.set_cons_zero, List.set_cons_succ, List.getElem_toArray, List.getElem_cons_zero]
          refine wpAnyH_take (i := 1) (oi := _) (v := .slice A7 k c7) rfl (by kernel_rfl) (by kernel_rfl) (by kernel_rfl) (fun _ _ _ h => h) (Or.inl ⟨by rfl, fun w9 hS => ?_⟩) hHeld ?_
          · obtain ⟨s0, s1, s2⟩ := hS
            go_simp
          try simp only [Act.put, List.setIfInBounds_toArray, List.set_cons_zero, List.set_cons_succ, List.getElem_toArray, List.getElem_cons_succ, List.getElem_cons_zero]
          refine wpAnyH_take (i := 2) (oi := _) (v := .slice (some ⟨ub, uo, none⟩) l.length c) rfl (by kernel_rfl) (by kernel_rfl) (by kernel_rfl) (fun _ _ _ h => h) (Or.inl ⟨by rfl, fun w9 hS => ?_⟩) hHeld ?_
          · obtain ⟨s0, s1, s2⟩ := hS
            go_simp
          try simp only [Act.put, List.setIfInBounds_toArray, List.set_cons_zero, List.set_cons_succ, List.getElem_toArray, List.getElem_cons_succ, List.getElem_cons_zero]
          refine wpAnyH_take (i := 3) (oi := _) (v := .int .i64 (i : Int)) rfl (by kernel_rfl) (by kernel_rfl) (by kernel_rfl) (fun _ _ _ h => h) (Or.inl ⟨by rfl, fun w9 hS => ?_⟩) hHeld ?_
          · obtain ⟨s0, s1, s2⟩ := hS
            go_simp
          try simp only [Act.put, List.setIfInBounds_toArray, List.set_cons_zero, List.set_cons_succ, List.getElem_toArray, List.getElem_cons_succ, List.getElem_cons_zero]
          refine wpAnyH_take (i := 4) (oi := _) (v := .pointer (some ⟨ub, uo + i, none⟩)) rfl (by kernel_rfl) (by kernel_rfl) (by kernel_rfl) (fun _ _ _ h => h) (Or.inl ⟨by rfl, fun w9 hS => ?_⟩) hHeld ?_
          · obtain ⟨s0, s1, s2⟩ := hS
            go_simp
          try simp only [Act.put, List.setIfInBounds_toArray, List.set_cons_zero, List.set_cons_succ, List.getElem_toArray, List.getElem_cons_succ, List.getElem_cons_zero]
          refine wpAnyH_take (i := 5) (oi := _) (v := .slice (some ⟨rb, ro, none⟩) x.zs.length x.c) rfl (by kernel_rfl) (by kernel_rfl) (by kernel_rfl) (fun _ _ _ h => h) (Or.inl ⟨by rfl, fun w9 hS => ?_⟩) hHeld ?_
          · obtain ⟨s0, s1, s2⟩ := hS
            go_simp
          try simp only [Act.put, List.setIfInBounds_toArray, List.set_cons_zero, List.set_cons_succ, List.getElem_toArray, List.getElem_cons_succ, List.getElem_cons_zero]
          refine wpAnyH_take (i := 6) (oi := _) (v := .int .i64 (k : Int)) rfl (by kernel_rfl) (by kernel_rfl) (by kernel_rfl) (fun _ _ _ h => h) (Or.inl ⟨by rfl, fun w9 hS => ?_⟩) hHeld ?_
          · obtain ⟨s0, s1, s2⟩ := hS
            go_simp
          try simp only [Act.put, List.setIfInBounds_toArray, List.set_cons_zero, List.set_cons_succ, List.getElem_toArray, List.getElem_cons_succ, List.getElem_cons_zero]
          refine wpAnyH_take (i := 7) (oi := _) (v := .pointer (some ⟨rb, ro + k, none⟩)) rfl (by kernel_rfl) (by kernel_rfl) (by kernel_rfl) (fun _ _ _ h => h) (Or.inl ⟨by rfl, fun w9 hS => ?_⟩) hHeld ?_
          · obtain ⟨s0, s1, s2⟩ := hS
            go_simp
          try simp only [Act.put, List.setIfInBounds_toArray, List.set_cons_zero, List.set_cons_succ, List.getElem_toArray, List.getElem_cons_succ, List.getElem_cons_zero]
          refine wpAnyH_take (i := 8) (oi := _) (v := .int .i64 v) rfl (by kernel_rfl) (by kernel_rfl) (by kernel_rfl) (fun _ _ _ h => h) (Or.inl ⟨by rfl, fun w9 hS => ?_⟩) hHeld ?_
          · obtain ⟨s0, s1, s2⟩ := hS
            go_simp
          try simp only [Act.put, List.setIfInBounds_toArray, List.set_cons_zero, List.set_cons_succ, List.getElem_toArray, List.getElem_cons_succ, List.getElem_cons_zero]
          refine wpAnyH_take (i := 9) (oi := _) (v := .int .i64 (q : Int)) rfl (by kernel_rfl) (by kernel_rfl) (by kernel_rfl) (fun _ _ _ h => h) (Or.inl ⟨by rfl, fun w9 hS => ?_⟩) hHeld ?_
          · obtain ⟨s0, s1, s2⟩ := hS
            go_simp
          try simp only [Act.put, List.setIfInBounds_toArray, List.set_cons_zero, List.set_cons_succ, List.getElem_toArray, List.getElem_cons_succ, List.getElem_cons_zero]
          refine wpAnyH_take (i := 10) (oi := _) (v := .int .i64 (i : Int)) rfl (by kernel_rfl) (by kernel_rfl) (by kernel_rfl) (fun _ _ _ h => h) (Or.inl ⟨by rfl, fun w9 hS => ?_⟩) hHeld ?_
          · obtain ⟨s0, s1, s2⟩ := hS
            go_simp
          try simp only [Act.put, List.setIfInBounds_toArray, List.set_cons_zero, List.set_cons_succ, List.getElem_toArray, List.getElem_cons_succ, List.getElem_cons_zero]
          refine wpAnyH_take (i := 11) (oi := _) (v := .int .i64 (m : Int)) rfl (by kernel_rfl) (by kernel_rfl) (by kernel_rfl) (fun _ _ _ h => h) (Or.inl ⟨by rfl, fun w9 hS => ?_⟩) hHeld ?_
          · obtain ⟨s0, s1, s2⟩ := hS
            go_simp
          try simp only [Act.put, List.setIfInBounds_toArray, List.set_cons_zero, List.set_cons_succ, List.getElem_toArray, List.getElem_cons_succ, List.getElem_cons_zero]
          refine wpAnyH_ready (rs := [12]) (by kernel_rfl) (by simp) (AllReadyH.cons (o := _) rfl (fun K hK => ?_) AllReadyH.nil)
          go_simp
          refine (hNm.out _).mono ?_
          rintro e z1 ⟨rfl, hz1⟩
          have hbz := hbd.next hz1
          have hBz := hBd.below hz1 hBd.lt
          have hoz := own_belowW hod hz1
          have cBz := hBz.cell 1
          have hsz := hbz.size
          refine hK.out _ _ ⟨cBz, HSS.out _ hbz⟩ (fun hHeld => ?_)
          clear hK K
          try simp only [Act.put, List.setIfInBounds_toArray, List.set_cons_zero, List.set_cons_succ, List.getElem_toArray, List.getElem_cons_succ, List.getElem_cons_zero]
          have hb1 : Below z1.heap.size z1 (z1.alloc (.cells #[.string (idB m)] 9)) := (Below.refl _ _).alloc (Nat.le_refl _) _
          have hbz1 := hbz.next hb1
          have hBz1 := hBz.below hb1 hBz.lt
          have hoz1 := own_belowW hoz hb1
          have hn1 := Rd.new1 z1 9 (.string (idB m))
          have hsz1 := hbz1.size
          refine wpAnyH_ready (rs := [13]) (by kernel_rfl) (by simp) (AllReadyH.cons (o := _) rfl (fun K hK => ?_) AllReadyH.nil)
          go_simp
          refine hK.out _ _ ⟨hBz1.cell 1, HSS.out _ hbz1⟩ (fun hHeld => ?_)
          clear hK K
          try simp only [Act.put, List.setIfInBounds_toArray, List.set_cons_zero, List.set_cons_succ, List.getElem_toArray, List.getElem_cons_succ, List.getElem_cons_zero]
          refine wpAnyH_ready (rs := [14]) (by kernel_rfl) (by simp) (AllReadyH.cons (o := _) rfl (fun K hK => ?_) AllReadyH.nil)
          refine appVr rfl (.tmp 38) (.tmp 50) 26 9 _ 16 rfl Try.underlying26 info_string rfl v0.heap.size _ k (pc ps) rfl hoz1 (z1.heap.size + 1) _ 1 1 [Value.string (idB m)] rfl hn1 (by simp [Value.oneCell']) (by unfold maxLen; omega) (by omega) hsz1 ?_
          intro A11 c11 w11 y1 y2 y3 y4 y5
          have hb11 := hbz1.trans y2
          have hB11 : Blk w11 v0.heap.size 28 [.string (idB i), .slice A7 k c7] := hBz1.grown y3 (fun e => own_ne hoz1 hBz1 (by decide) e.symm)
          refine hK.out _ _ ⟨hB11.cell 1, HSS.out _ hb11⟩ (fun hHeld => ?_)
          clear hK K
          try simp only [Act.put, List.setIfInBounds_toArray, List.set_cons_zero, List.set_cons_succ, List.getElem_toArray, List.getElem_cons_succ, List.getElem_cons_zero]
          refine wpAnyH_take (i := 15) (oi := _) (v := .pointer (some ⟨v0.heap.size, 1, none⟩)) rfl (by kernel_rfl) (by kernel_rfl) (by kernel_rfl) (fun _ _ _ h => h) (Or.inl ⟨by rfl, fun w9 hS => ?_⟩) hHeld ?_
          · obtain ⟨s0, s1, s2⟩ := hS
            go_simp
          try simp only [Act.put, List.setIfInBounds_toArray, List.set_cons_zero, List.set_cons_succ, List.getElem_toArray, List.getElem_cons_succ, List.getElem_cons_zero]
          refine wpAnyH_take (i := 16) (oi := _) (v := undef) rfl (by kernel_rfl) (by kernel_rfl) (by kernel_rfl) (fun _ _ _ h => h) (Or.inl ⟨by rfl, fun w9 hS => ?_⟩) hHeld ?_
          · obtain ⟨s0, s1, s2⟩ := hS
            go_simp
          try simp only [Act.put, List.getElem_toArray, List.getElem_cons_succ, List.getElem_cons_zero]
          refine wpAnyH_done (by kernel_rfl) ?_ _
          have hfr := hB11.free 1
          have hc11 := hB11.cell 1
          simp only [lastQ]
          go_simp
          have hB12 := hB11.set 1 (.slice A11 (k + 1) c11)
          have g12 : w11.grownBy (w11.setCell ⟨v0.heap.size, 1, none⟩ (.slice A11 (k + 1) c11)) (some v0.heap.size) := grown_setCell (World.grownBy.refl w11 _) 1 _
          have ho12 := own_other y1 hB11 (by decide) g12
          have hb12 := hb11.setCell (p := ⟨v0.heap.size, 1, none⟩) (Nat.le_refl _) (.slice A11 (k + 1) c11)
          go_wp2_with fail
          have e1 : (ps ++ [idB m]).length = k + 1 := by rw [List.length_append, HK.out]; rfl
          have hps2 : Hid (∀ p ∈ ps ++ [idB m], ∃ j, j < i ∧ p = idB j) := fun p hp => by
            rcases List.mem_append.1 hp with hp | hp
            · exact hps.out p hp
            · exact ⟨m, hmi, List.mem_singleton.1 hp⟩
          refine ⟨⟨ps ++ [idB m], A11, c11, by rw [e1]; go_num, by rw [e1]; omega, by rw [e1]; omega, hps2, by rw [e1]; exact hB12, ?_, hb12⟩, by have := HK.out; simp [intOf]; omega⟩
          rw [e1, pc_append]
          exact ho12
        · have hyl := HI.out
          have hF2 : Hid (Fwd ((ys ++ [(⟨idB i, ps, A7, c7⟩ : NdA)]).map NdA.f)) := by
            unfold Hid
            rw [List.map_append, List.map_cons, List.map_nil, HI.out]
            have e : (ys.map NdA.f).length = ys.length := List.length_map ..
            have := Fwd.snoc hF.out (ps := ps) (by rw [e]; omega) h4 (by rw [e, ← HI.out]; exact hps.out)
            rw [e] at this
            exact this
          have hN2 : FwdN wr w.heap.size (ys ++ [(⟨idB i, ps, A7, c7⟩ : NdA)]) := fun y hy => by
            rcases List.mem_append.1 hy with hy | hy
            · exact own_belowW (hNv y hy) hbr
            · rw [List.mem_singleton.1 hy]
              exact ho7.mono hsv
          have hor := own_belowW hov hbr
          have cB0 := hB.cell 0
          have hsw := hbw.size
          have hnd := (Rd.nodeT wr 28 ⟨idB i, ps, A7, c7⟩)
          have hone := nc_one [⟨idB i, ps, A7, c7⟩]
          have hgo1 : ¬ ((k : Int) < (x.zs.length : Int) ∧ (k : Int) < 4 ∧ (0 : Int) < (i : Int)) := fun h => hgo ⟨by omega, by omega, by omega⟩
          rw [← hkk]
          simp only [← hkk] at hnd cB1 hone
          have hcut : (decide ((k : Int) < (x.zs.length : Int)) = false ∧ ¬ (k : Int) < (x.zs.length : Int)) ∨ ((decide ((k : Int) < (x.zs.length : Int)) = true ∧ (k : Int) < (x.zs.length : Int)) ∧ (decide ((k : Int) < 4) = false ∧ ¬ (k : Int) < 4)) ∨ ((decide ((k : Int) < (x.zs.length : Int)) = true ∧ (k : Int) < (x.zs.length : Int)) ∧ (decide ((k : Int) < 4) = true ∧ (k : Int) < 4) ∧ (decide ((0 : Int) < (i : Int)) = false ∧ ¬ (0 : Int) < (i : Int))) := by
            by_cases h5 : (k : Int) < (x.zs.length : Int)
            · by_cases h6 : (k : Int) < 4
              · have h7 : ¬ (0 : Int) < (i : Int) := fun h => hgo1 ⟨h5, h6, h⟩
                exact .inr (.inr ⟨⟨decide_eq_true h5, h5⟩, ⟨decide_eq_true h6, h6⟩, decide_eq_false h7, h7⟩)
              · exact .inr (.inl ⟨⟨decide_eq_true h5, h5⟩, decide_eq_false h6, h6⟩)
            · exact .inl ⟨decide_eq_false h5, h5⟩
          clear hgo hgo1 hkk hyl hB ho7 hov hNv hps
          rcases hcut with ⟨c1, c1'⟩ | ⟨⟨c1, c1'⟩, c2, c2'⟩ | ⟨⟨c1, c1'⟩, ⟨c2, c2'⟩, c3, c3'⟩
          all_goals
            go_wp2_with (at_builtin; refine appNl (by rfl) (.tmp 53) (.tmp 55) 24 28 _ 2 40 (by rfl) Try.underlying24 info_mine rfl (by decide) w.heap.size _ i (nc ys) (by rfl) (hor.alloc _) (wr.heap.size + 1) _ 1 1 (nc [⟨idB i, ps, A7, c7⟩]) (by rfl) hnd hone (by unfold maxLen; omega) (by omega) (by simp; omega) ?_; intro A' c' w' z1 z2 z3 z4 z5)
          all_goals
            have hN3 : FwdN w' w.heap.size (ys ++ [(⟨idB i, ps, A7, c7⟩ : NdA)]) := fun y hy => ((hN2 y hy).alloc (.cells #[.string (idB i), .slice A7 k c7] 28)).kept z3 (own_apart ((hN2 y hy).alloc (.cells #[.string (idB i), .slice A7 k c7] 28)) (hor.alloc (.cells #[.string (idB i), .slice A7 k c7] 28)) (by decide))
            have hyl2 : (ys ++ [(⟨idB i, ps, A7, c7⟩ : NdA)]).length = i + 1 := by rw [List.length_append, HI.out]; rfl
            refine ⟨⟨ys ++ [⟨idB i, ps, A7, c7⟩], A', c', by rw [hyl2], by rw [hyl2]; go_num, by omega, by omega, hF2, hN3, ?_, hbw.trans (((Below.refl _ _).alloc hsw _).trans z2)⟩, by simp [intOf]; omega⟩
            rw [hyl2, nc_append]
            exact z1
    · have hcut : (decide ((i : Int) < (l.length : Int)) = false ∧ ¬ (i : Int) < (l.length : Int)) ∨ ((decide ((i : Int) < (l.length : Int)) = true ∧ (i : Int) < (l.length : Int)) ∧ (decide ((i : Int) < 60) = false ∧ ¬ (i : Int) < 60)) := by
        by_cases h5 : (i : Int) < (l.length : Int)
        · have h6 : ¬ (i : Int) < 60 := fun h => hlt ⟨by omega, by omega⟩
          exact .inr ⟨⟨decide_eq_true h5, h5⟩, decide_eq_false h6, h6⟩
        · exact .inl ⟨decide_eq_false h5, h5⟩
      have hok : NdsOk wr A5 ys := by
        have hsz : ∀ j, (idB j).size ≤ maxLen := fun j => by show 2 ≤ maxLen; unfold maxLen; omega
        refine ⟨Rd.of_own ho, fun x hx => ⟨Rd.of_own (hN x hx), own_le (hN x hx)⟩, by omega, fun x hx => ?_, fun x hx y hy => ?_⟩
        · obtain ⟨j, hj⟩ := List.getElem?_of_mem hx
          have := (hF.out.at_ j x.f (by rw [List.getElem?_map, hj]; rfl)).1
          show x.f.1.size ≤ _
          rw [this]
          exact hsz j
        · obtain ⟨j, hj⟩ := List.getElem?_of_mem hx
          obtain ⟨m, _, e⟩ := (hF.out.at_ j x.f (by rw [List.getElem?_map, hj]; rfl)).2.2 y hy
          rw [e]
          exact hsz m
      rw [← hi] at ho hk hk60 ⊢
      clear hlt hi hN ho hr hw
      rcases hcut with ⟨c1, c1'⟩ | ⟨⟨c1, c1'⟩, c2, c2'⟩
      all_goals
        go_wp2_with fail
        go_ret
        exact ⟨ys, A5, c5, by rw [← HI.out]; rfl, hF, hok, hb⟩
end Go.Proofs.Yteeajmgiamdfdaa
