/- The walk of the program's 'reached'. Conditions: fewer than 2^39 texts are to be looked at; ids that memory holds. -/
import Derived.Test.YteeajmgiamdfdaaKn
import Derived.Deep.LoopGhost
namespace Go.Proofs.Yteeajmgiamdfdaa
open Go.RowKit Go.Dol
set_option linter.unusedVariables false
theorem int_zero (w : World) : (zeroValue 3).run Try.prog w = .ok (.int .i64 0) w := by kernel_rfl
/-- What was met, as entries. -/
def mtE (mt : List ByteArray) : List (Value × Value) := mt.map fun x => (Value.string x, Value.int .i64 1)
/-- What 'pop' hands back. -/
def RetPop (w : World) (base sb : Nat) (A : Option Addr) (c : Nat) (td : List ByteArray) (e : Ending) (w' : World) : Prop :=
  (td = [] ∧ e = .returned (.tuple #[.string ⟨#[]⟩, .bool false]) ∧ w' = w) ∨
  ∃ l x, td = l ++ [x] ∧ e = .returned (.tuple #[.string x, .bool true]) ∧ Stk w' base sb A c l ∧ StkKeep w w' base sb (.slice A td.length c)
theorem popAny_calls (w : World) (base sb : Nat) (A : Option Addr) (c : Nat) (td : List ByteArray) (h : Stk w base sb A c td) (hl : td.length ≤ 1099511627776) (hbase : base ≤ w.heap.size) :
    Calls Try.prog 42 #[.pointer (some ⟨sb, 0, none⟩)] w (RetPop w base sb A c td) := by
  rcases List.eq_nil_or_concat td with rfl | ⟨l, x, rfl⟩
  · exact (pop_none w base sb A c h).mono fun e w' ⟨h1, h2⟩ => .inl ⟨rfl, h1, h2⟩
  · have hlen : (l ++ [x]).length = l.length + 1 := by rw [List.length_append]; rfl
    refine (pop_calls w base sb A c l x (by rw [← List.concat_eq_append]; exact h) (by rw [List.length_concat] at hl; omega) hbase).mono fun e w' ⟨h1, h2, h3⟩ => .inr ⟨l, x, List.concat_eq_append, h1, h2, ?_⟩
    rw [List.length_concat]
    exact h3
theorem mapStk {P : Program} {k : TypeId} {w w' : World} {B base sb : Nat} {al : List (Value × Value)} {A : Option Addr} {c : Nat} {l : List ByteArray} (hM : MapL P k w B al) (hS : Stk w base sb A c l) (hk : StkKeep w w' base sb (.slice A l.length c)) (hne : B ≠ sb) : MapL P k w' B al :=
  hM.keepB (hk.block B hM.lt hne (hM.own_ne hS.2.2))
/-- The rounds of 'reached': at most so many are to come. -/
def RchRel (L : List Nd) (fr : List ByteArray) (w : World) (n : Nat) (id more : Value) (wr : World) : Prop :=
  ∃ (mt td : List ByteArray) (A : Option Addr) (c : Nat), ((more = .bool true ∧ ∃ x, id = .string x ∧ x.size ≤ maxLen ∧ Hid (Srch L fr mt (td ++ [x])) ∧ td.length + 1 + room L [] mt ≤ n) ∨ (more = .bool false ∧ td = [] ∧ Hid (Srch L fr mt []))) ∧
    Hid (∀ y ∈ td, y.size ≤ maxLen) ∧ MapL Try.prog 9 wr w.heap.size (mtE mt) ∧ Stk wr w.heap.size (w.heap.size + 1) A c td ∧ Below w.heap.size w wr ∧ n ≤ 549755813888 ∧ mt.length + room L [] mt ≤ room L [] []
set_option maxRecDepth 100000 in
set_option maxHeartbeats 3200000 in
theorem reached_calls (l : List NdA) (kb : Nat) (A2 : Option Addr) (fr : List ByteArray) (c2 : Nat) (w : World) (hK : Kn w kb l) (hN : Nds w w.heap.size l) (hr : Rd w w.heap.size 1 A2 fr.length (pc fr)) (hl : fr.length + room (l.map NdA.f) [] [] ≤ 549755813888)
    (hz1 : ∀ x ∈ fr, x.size ≤ maxLen) (hz2 : ∀ x ∈ l, ∀ y ∈ x.ps, y.size ≤ maxLen) :
    Calls Try.prog 23 #[.map (some kb), .slice A2 fr.length c2] w fun e w' => ∃ mt, e = .returned (.map (some w.heap.size)) ∧ MapL Try.prog 9 w' w.heap.size (mtE mt) ∧ (∀ x, x ∈ mt ↔ Rch (l.map NdA.f) fr x) ∧ Below w.heap.size w w' ∧ mt.length ≤ 549755813888 := by
  have hmm := @run_makeMap Try.prog
  go_enter Try.func23, Try.ntmps23
  go_wp2_with fail
  clear hmm
  have hM0 : MapL Try.prog 9 (w.alloc (.map #[] 0)) w.heap.size (mtE []) := MapL.new w
  have hB0 := Blk.new (w.alloc (.map #[] 0)) 70 [.slice none 0 0]
  have hb0 : Below w.heap.size w ((w.alloc (.map #[] 0)).alloc (.cells #[.slice none 0 0] 70)) := ((Below.refl _ w).alloc (Nat.le_refl _) _).alloc (by simp) _
  have hM1 := hM0.alloc (.cells #[.slice none 0 0] 70)
  rw [World.size_alloc] at hB0
  obtain ⟨v0, hv0⟩ : ∃ v, v = (w.alloc (.map #[] 0)).alloc (.cells #[.slice none 0 0] 70) := ⟨_, rfl⟩
  have hB1 : Blk v0 (w.heap.size + 1) 70 [.slice none 0 0] := by rw [hv0]; exact hB0
  rw [← hv0] at hM1 hb0 ⊢
  clear hv0 hM0 hB0
  have hS0 : Stk v0 w.heap.size (w.heap.size + 1) none 0 [] := ⟨by omega, hB1, World.ownsRow_nil _ _ _ _⟩
  have hfl : fr.length ≤ 549755813888 := by omega
  refine (push_calls v0 w.heap.size (w.heap.size + 1) none 0 [] hS0 A2 fr c2 w.heap.size (hr.belowW hb0 (Nat.le_refl _)) (by simp; omega) hb0.size).mono ?_
  rintro e v1 ⟨rfl, ⟨A1, c1, hS1⟩, hk1⟩
  rw [List.nil_append] at hS1
  have hM2 := mapStk hM1 hS0 hk1 (by omega)
  have hb1 := hb0.trans hk1.below
  have HP := Lib.hid (popAny_calls v1 w.heap.size (w.heap.size + 1) A1 c1 fr hS1 (by omega) hb1.size)
  clear hM1 hB1 hS0 hb0 hk1
  go_wp2_with fail
  refine HP.out.mono ?_
  rintro e v2 (⟨hfr, rfl, rfl⟩ | ⟨td, x, hfr, rfl, hS2, hk2⟩)
  · go_wp2_with fail
    go_loopg [7, 8] 0 (fun k id more wr => more = .bool false ∧ wr = v2)
    case atStart => exact ⟨rfl, rfl⟩
    case round =>
      obtain ⟨rfl, rfl⟩ := hrel
      go_wp2_with fail
      go_ret
      exact ⟨[], rfl, hM2, fun x => Srch.done (by rw [hfr]; exact Srch.start _ _) x, hb1, Nat.zero_le _⟩
  · have hM3 := mapStk hM2 hS1 hk2 (by omega)
    have hb2 := hb1.trans hk2.below
    have hfl2 : fr.length = td.length + 1 := by rw [hfr, List.length_append]; rfl
    have hx0 := hz1 x (by rw [hfr]; simp)
    have hst : RchRel (l.map NdA.f) fr w (fr.length + room (l.map NdA.f) [] []) (.string x) (.bool true) v2 :=
      ⟨[], td, A1, c1, .inl ⟨rfl, x, rfl, hx0, by unfold Hid; rw [← hfr]; exact Srch.start _ _, by omega⟩, fun y hy => hz1 y (by rw [hfr]; simp [hy]), hM3, hS2, hb2, hl, by simp⟩
    have HST := Lib.hid hst
    clear hst hM3 hM2 hS2 hS1 hb2 hb1 hk2 HP hfr
    go_wp2_with fail
    go_loopg [7, 8] (fr.length + room (l.map NdA.f) [] []) (fun k id more wr => RchRel (l.map NdA.f) fr w k id more wr)
    case atStart => exact HST.out
    case round =>
      clear HST
      obtain ⟨mt, td, A, c, hst, htd, hM, hS, hb, hgk, hrm0⟩ := hrel
      have hs := hb.size
      rcases hst with ⟨rfl, x, rfl, hxs, hSr, hn⟩ | ⟨rfl, rfl, hSr⟩
      · obtain ⟨kl, hkey⟩ := str_key x hxs
        obtain ⟨al, hKM, hKL⟩ := hK
        have hKr := hKM.belowW hb
        rcases hKr.look str_law Try.underlying47 (strs_zero wr) hkey true with ⟨hno, hrun⟩ | ⟨v, hmem, hrun⟩
        · have hSr2 : Srch (l.map NdA.f) fr mt td := hSr.out.pass (x := x) (fun y => by simp [or_comm]) (.inl (hKL.none hno))
          have HS2 := Lib.hid hSr2
          have HPp := Lib.hid (popAny_calls wr w.heap.size (w.heap.size + 1) A c td hS (by omega) hb.size)
          clear hSr2 hSr hno
          go_wp2_with fail
          refine HPp.out.mono ?_
          rintro e w5 (⟨hte, rfl, rfl⟩ | ⟨td', y, hte, rfl, hS5, hk5⟩)
          · go_wp2_with fail
            go_roundg (gk - 1)
            case measure => omega
            case rel => exact ⟨mt, [], A, c, .inr ⟨rfl, rfl, by unfold Hid; have h := HS2.out; rw [hte] at h; exact h⟩, fun _ h => (List.not_mem_nil h).elim, hM, by rw [← hte]; exact hS, hb, by omega, by omega⟩
          · have hle : td.length = td'.length + 1 := by rw [hte, List.length_append]; rfl
            have HTE := Lib.hid hte
            have hM5 := mapStk hM hS hk5 (by omega)
            have hb5 := hb.trans hk5.below
            clear hte hk5
            go_wp2_with fail
            go_roundg (gk - 1)
            case measure => omega
            case rel => exact ⟨mt, td', A, c, .inl ⟨rfl, y, rfl, htd.out y (by rw [HTE.out]; simp), by unfold Hid; rw [← HTE.out]; exact HS2.out, by omega⟩, fun z hz => htd.out z (by rw [HTE.out]; simp [hz]), hM5, hS5, hb5, by omega, by omega⟩
        · obtain ⟨nd, hnd, hndn, rfl, hpar⟩ := hKL.look hmem
          rcases hM.look str_law Try.underlying49 (int_zero wr) hkey false with ⟨hno2, hrun2⟩ | ⟨v2, hmem2, hrun2⟩
          · have hxm : x ∉ mt := fun h => hno2 (.string x, .int .i64 1) (List.mem_map.2 ⟨x, h, rfl⟩) rfl
            obtain ⟨al', w6, hup, hM6, hput, hg6⟩ := hM.update str_law Try.underlying49 hkey (.int .i64 1)
            have hal : al' = mtE (mt ++ [x]) := by
              rcases hput with ⟨_, h⟩ | ⟨l1, r1, v0, h, _⟩
              · rw [h]; simp [mtE]
              · exact absurd rfl (hno2 (.string x, v0) (by rw [h]; simp))
            rw [hal] at hM6
            have hrm := room_meet (l.map NdA.f) [] mt (mt ++ [x]) x nd.ps hpar List.not_mem_nil hxm (fun y hy => by simp [hy]) (by simp)
            have hSr2 : Srch (l.map NdA.f) fr (mt ++ [x]) (td ++ nd.ps) := hSr.out.meet (x := x) hpar (fun y => by simp [or_comm]) (fun y hy => by simp at hy ⊢; rcases hy with h | h; exact .inr (.inl h); exact .inl h) (fun y hy => by simp at hy ⊢; rcases hy with h | h; exact .inl (.inl h); exact .inr h) (fun y hy => by simp [hy]) (by simp)
            have HS2 := Lib.hid hSr2
            have hS6 : Stk w6 w.heap.size (w.heap.size + 1) A c td := ⟨hS.1, hS.2.1.grown hg6 (fun e => by injection e with e; omega), hM.is.kept hS.2.2 hg6⟩
            have hb6 := hb.grown hg6 hs (fun j hj => by injection hj with hj; omega)
            obtain ⟨hnr, hnc1, hnc2⟩ := hN nd hnd
            have HPu := Lib.hid (push_calls w6 w.heap.size (w.heap.size + 1) A c td hS6 nd.A nd.ps nd.c w.heap.size (hnr.belowW hb6 (Nat.le_refl _)) (by omega) hb6.size)
            have htd2 : Hid (∀ y ∈ td ++ nd.ps, y.size ≤ maxLen) := fun y hy => by
              rcases List.mem_append.1 hy with h | h
              · exact htd.out y h
              · exact hz2 nd hnd y h
            have hml : (mt ++ [x]).length = mt.length + 1 := by rw [List.length_append]; rfl
            have hlp : (td ++ nd.ps).length = td.length + nd.ps.length := List.length_append
            clear hSr2 hSr hal hput hg6 hno2 hmem hpar hxm hnr hz2 hN hS
            go_wp2_with fail
            refine HPu.out.mono ?_
            rintro e w7 ⟨rfl, ⟨A7, c7, hS7⟩, hk7⟩
            have hM7 := mapStk hM6 hS6 hk7 (by omega)
            have hb7 := hb6.trans hk7.below
            have HPp := Lib.hid (popAny_calls w7 w.heap.size (w.heap.size + 1) A7 c7 (td ++ nd.ps) hS7 (by omega) hb7.size)
            clear hk7
            go_wp2_with fail
            refine HPp.out.mono ?_
            rintro e w5 (⟨hte, rfl, rfl⟩ | ⟨td', y, hte, rfl, hS5, hk5⟩)
            · have HTE := Lib.hid hte
              clear hte
              go_wp2_with fail
              go_roundg (gk - 1)
              case measure => omega
              case rel => exact ⟨mt ++ [x], [], A7, c7, .inr ⟨rfl, rfl, by unfold Hid; have h := HS2.out; rw [HTE.out] at h; exact h⟩, fun _ h => (List.not_mem_nil h).elim, hM7, by rw [← HTE.out]; exact hS7, hb7, by omega, by omega⟩
            · have hle : (td ++ nd.ps).length = td'.length + 1 := by rw [hte, List.length_append]; rfl
              have HTE := Lib.hid hte
              have hM5 := mapStk hM7 hS7 hk5 (by omega)
              have hb5 := hb7.trans hk5.below
              clear hte hk5
              go_wp2_with fail
              go_roundg (gk - 1)
              case measure => omega
              case rel => exact ⟨mt ++ [x], td', A7, c7, .inl ⟨rfl, y, rfl, htd2.out y (by rw [HTE.out]; simp), by unfold Hid; rw [← HTE.out]; exact HS2.out, by omega⟩, fun z hz => htd2.out z (by rw [HTE.out]; simp [hz]), hM5, hS5, hb5, by omega, by omega⟩
          · obtain ⟨rfl, hxm⟩ : v2 = .int .i64 1 ∧ x ∈ mt := by
              obtain ⟨y, hy, he⟩ := List.mem_map.1 hmem2
              injection he with h1 h2
              injection h1 with h1
              exact ⟨h2.symm, by rw [← h1]; exact hy⟩
            have hdum : True := trivial
            have hSr2 : Srch (l.map NdA.f) fr mt td := hSr.out.pass (x := x) (fun y => by simp [or_comm]) (.inr hxm)
            have HS2 := Lib.hid hSr2
            have HPp := Lib.hid (popAny_calls wr w.heap.size (w.heap.size + 1) A c td hS (by omega) hb.size)
            clear hSr2 hSr hmem hmem2
            go_wp2_with fail
            refine HPp.out.mono ?_
            rintro e w5 (⟨hte, rfl, rfl⟩ | ⟨td', y, hte, rfl, hS5, hk5⟩)
            · go_wp2_with fail
              go_roundg (gk - 1)
              case measure => omega
              case rel => exact ⟨mt, [], A, c, .inr ⟨rfl, rfl, by unfold Hid; have h := HS2.out; rw [hte] at h; exact h⟩, fun _ h => (List.not_mem_nil h).elim, hM, by rw [← hte]; exact hS, hb, by omega, by omega⟩
            · have hle : td.length = td'.length + 1 := by rw [hte, List.length_append]; rfl
              have HTE := Lib.hid hte
              have hM5 := mapStk hM hS hk5 (by omega)
              have hb5 := hb.trans hk5.below
              clear hte hk5
              go_wp2_with fail
              go_roundg (gk - 1)
              case measure => omega
              case rel => exact ⟨mt, td', A, c, .inl ⟨rfl, y, rfl, htd.out y (by rw [HTE.out]; simp), by unfold Hid; rw [← HTE.out]; exact HS2.out, by omega⟩, fun z hz => htd.out z (by rw [HTE.out]; simp [hz]), hM5, hS5, hb5, by omega, by omega⟩
      · go_wp2_with fail
        go_ret
        exact ⟨mt, rfl, hM, fun x => hSr.out.done x, hb, by omega⟩
end Go.Proofs.Yteeajmgiamdfdaa
