/- The walk of the program's Order. Conditions: fewer than 2^39 texts are to be looked at; ids that memory holds. -/
import Derived.Test.YteeajmgiamdfdaaBasF
import Derived.Test.YteeajmgiamdfdaaClo
import Derived.Test.YteeajmgiamdfdaaROrd
import Derived.Deep.RegionHeld3
namespace Go.Proofs.Yteeajmgiamdfdaa
open Go.RowKit Go.Dol
set_option linter.unusedVariables false
theorem mem_erase {l : List ByteArray} (hn : l.Nodup) {k : Nat} {x : ByteArray} (hx : l[k]? = some x) (y : ByteArray) : y ∈ l.eraseIdx k ↔ y ∈ l ∧ y ≠ x := by
  rw [List.mem_eraseIdx_iff_getElem?]
  constructor
  · rintro ⟨i, hi, e⟩
    refine ⟨List.mem_of_getElem? e, fun he => hi ?_⟩
    rw [he, ← hx] at e
    exact (List.getElem?_inj (by have := (List.getElem?_eq_some_iff.1 (e.trans hx)).1; exact this) hn).1 e
  · rintro ⟨h1, h2⟩
    obtain ⟨i, hi, e⟩ := List.mem_iff_getElem.1 h1
    refine ⟨i, fun he => h2 ?_, by rw [List.getElem?_eq_getElem hi, e]⟩
    rw [← he, List.getElem?_eq_getElem hi] at hx
    injection hx with hx
    rw [← e, hx]
theorem par_len {L : List Nd} {x : ByteArray} {ps : List ByteArray} (h : parF L x = some ps) : ps.length ≤ room L [] [] := by
  have := room_meet L [] [] [x] x ps h List.not_mem_nil List.not_mem_nil (fun y hy => (List.not_mem_nil hy).elim) (by simp)
  omega
theorem NdsOk.known' {w : World} {A : Option Addr} {l : List NdA} (h : NdsOk w A l) {x : ByteArray} (hx : (parF (l.map NdA.f) x).isSome = true) : x.size ≤ maxLen := by
  refine Decidable.byContradiction fun hn => ?_
  have : parF (l.map NdA.f) x = none := par_none.2 fun y hy e => hn (by rw [← e]; exact h.ids y hy)
  rw [this] at hx
  cases hx
set_option maxRecDepth 100000 in
set_option maxHeartbeats 800000 in
theorem order11_calls (ab BA : Nat) (mt : List ByteArray) (W : World) (hbox : W.cell? ⟨BA, 0, none⟩ = some (.map (some ab))) (hM : MapL Try.prog 9 W ab (mtE mt)) (s : ByteArray) (hs : s.size ≤ maxLen) :
    Calls Try.prog 38 #[.string s, .pointer (some ⟨BA, 0, none⟩)] W fun e w' => e = .returned (.bool (decide (s ∈ mt))) ∧ W = w' := by
  have hlook := mtE_look hM hs
  by_cases hm : s ∈ mt
  · rw [if_pos hm] at hlook
    have HM := Lib.hid hm
    clear hm hM
    go_enter Try.func38, Try.ntmps38
    go_wp2_with fail
    go_ret
    exact ⟨by simp [HM.out], rfl⟩
  · rw [if_neg hm] at hlook
    have HM := Lib.hid hm
    clear hm hM
    go_enter Try.func38, Try.ntmps38
    go_wp2_with fail
    go_ret
    exact ⟨by simp [HM.out], rfl⟩
set_option maxRecDepth 100000 in
set_option maxHeartbeats 1600000 in
theorem order1_calls (A : Option Addr) (l : List NdA) (kb ab BK BA : Nat) (mt : List ByteArray) (W : World) (h : NdsOk W A l) (hr0 : room (l.map NdA.f) [] [] ≤ 549755813888) (hK : Kn W kb l) (hbK : W.cell? ⟨BK, 0, none⟩ = some (.map (some kb))) (hbA : W.cell? ⟨BA, 0, none⟩ = some (.map (some ab))) (hM : MapL Try.prog 9 W ab (mtE mt))
    (x : ByteArray) (hx : (parF (l.map NdA.f) x).isSome = true) :
    Calls Try.prog 37 #[.string x, .pointer (some ⟨BK, 0, none⟩), .pointer (some ⟨BA, 0, none⟩)] W fun e w' => e = .returned (.bool ((parL (l.map NdA.f) x).all fun y => !decide (y ∈ mt))) ∧ Below W.heap.size W w' := by
  obtain ⟨kl, hkey⟩ := str_key x (h.known' hx)
  obtain ⟨al, hKM, hKL⟩ := hK
  rcases hKM.look str_law Try.underlying47 (strs_zero W) hkey false with ⟨hno, hrun⟩ | ⟨v, hmem, hrun⟩
  · rw [hKL.none hno] at hx
    cases hx
  · obtain ⟨nd, hnd, hndn, rfl, hpar⟩ := hKL.look hmem
    have hpl := Nat.le_trans (par_len hpar) hr0
    have eg := enters_of Try.func38 (by kernel_rfl) rfl
    have hS : Says 38 #[.pointer (some ⟨BA, 0, none⟩)] (fun y => decide (y ∈ mt)) nd.ps W := fun V hV y hy =>
      (order11_calls ab BA mt V ((hV.cell (p := ⟨BA, 0, none⟩) (World.block_lt_of_cell? W _ hbA)).trans hbA) (hM.belowW hV) y (h.par nd hnd y hy)).mono fun e w' ⟨h1, h2⟩ => ⟨h1, by rw [← h2]; exact Below.refl _ _⟩
    have HC := Lib.hid (containsFunc_calls 38 #[.pointer (some ⟨BA, 0, none⟩)] _ W nd.A nd.ps nd.c W (Below.refl _ _) (h.ps nd hnd).1 (by omega) eg hS)
    have HP : Hid (((parL (l.map NdA.f) x).all fun y => !decide (y ∈ mt)) = !(nd.ps.any fun y => decide (y ∈ mt))) := by
      unfold Hid parL
      rw [hpar, Option.getD_some, List.not_any_eq_all_not]
    clear hS eg hpar hmem hM hKM hKL hx
    go_enter Try.func37, Try.ntmps37
    go_wp2_with fail
    refine HC.out.mono ?_
    rintro e w2 ⟨rfl, hb2⟩
    go_wp2_with fail
    go_ret
    exact ⟨by rw [HP.out]; rfl, hb2⟩
/-- The program's order under way. -/
structure OrdW (l : List NdA) (all zs lf mt : List ByteArray) (w v0 wr : World) (BK BA kb ab : Nat) (A : Option Addr) (c : Nat) (A8 : Option Addr) (c8 : Nat) : Prop where
  bk : Blk wr BK 47 [.map (some kb)]
  ba : Blk wr BA 49 [.map (some ab)]
  kn : Kn wr kb l
  mp : MapL Try.prog 9 wr ab (mtE mt)
  mem : ∀ x, x ∈ mt ↔ x ∈ lf
  own : wr.ownsRow w.heap.size 9 1 (.slice A lf.length c) lf.length (pc lf)
  at_ : ∀ a, A = some a → a.block < v0.heap.size
  out : wr.ownsRow v0.heap.size 9 1 (.slice A8 zs.length c8) zs.length (pc zs)
  below : Below w.heap.size w wr
  size : v0.heap.size ≤ wr.heap.size
  wv : w.heap.size ≤ v0.heap.size
  aw : w.heap.size ≤ ab
  kab : kb ≠ ab
  bka : BK < v0.heap.size
  baa : BA < v0.heap.size
  kba : kb < v0.heap.size
  aba : ab < v0.heap.size
theorem OrdW.step {l : List NdA} {all zs lf mt : List ByteArray} {w v0 wr wr' : World} {BK BA kb ab : Nat} {A : Option Addr} {c : Nat} {A8 : Option Addr} {c8 : Nat} (h : OrdW l all zs lf mt w v0 wr BK BA kb ab A c A8 c8) (hb : Below wr.heap.size wr wr') : OrdW l all zs lf mt w v0 wr' BK BA kb ab A c A8 c8 :=
  ⟨h.bk.below hb h.bk.lt, h.ba.below hb h.ba.lt, by obtain ⟨al, hM, hL⟩ := h.kn; exact ⟨al, hM.belowW hb, hL⟩, h.mp.belowW hb, h.mem, own_belowW h.own hb, h.at_, own_belowW h.out hb, h.below.next hb, Nat.le_trans h.size hb.size, h.wv, h.aw, h.kab, h.bka, h.baa, h.kba, h.aba⟩
/-- Behind an append onto what is handed out. -/
theorem OrdW.app {l : List NdA} {all zs lf mt zs' : List ByteArray} {w v0 wr wr' : World} {BK BA kb ab : Nat} {A : Option Addr} {c : Nat} {A8 A9 : Option Addr} {c8 c9 : Nat} (h : OrdW l all zs lf mt w v0 wr BK BA kb ab A c A8 c8) (hb : Below v0.heap.size wr wr') (ho : wr'.ownsRow v0.heap.size 9 1 (.slice A9 zs'.length c9) zs'.length (pc zs')) : OrdW l all zs' lf mt w v0 wr' BK BA kb ab A c A9 c9 := by
  refine ⟨h.bk.below hb h.bka, h.ba.below hb h.baa, ?_, h.mp.below hb h.aba, h.mem, ?_, h.at_, ho, h.below.trans (hb.mono h.wv), Nat.le_trans h.size hb.size, h.wv, h.aw, h.kab, h.bka, h.baa, h.kba, h.aba⟩
  · obtain ⟨al, hM, hL⟩ := h.kn
    exact ⟨al, hM.below hb h.kba, hL⟩
  · refine ⟨h.own.1, ?_⟩
    rcases h.own.2 with h1 | ⟨g, cap, cur, h1, h2, h3, h4⟩
    · exact .inl h1
    · have h1' := h1
      injection h1' with hA _ _
      have := h.at_ _ hA
      exact .inr ⟨g, cap, cur, h1, h2, (hb.block g this).trans h3, h4⟩
/-- Behind a delete from the map of what is left. -/
theorem OrdW.del {l : List NdA} {all zs lf mt mt' : List ByteArray} {w v0 wr wr' : World} {BK BA kb ab : Nat} {A : Option Addr} {c : Nat} {A8 : Option Addr} {c8 : Nat} (h : OrdW l all zs lf mt w v0 wr BK BA kb ab A c A8 c8) (hg : wr.grownBy wr' (some ab)) (hM : MapL Try.prog 9 wr' ab (mtE mt')) :
    Blk wr' BK 47 [.map (some kb)] ∧ Blk wr' BA 49 [.map (some ab)] ∧ Kn wr' kb l ∧ wr'.ownsRow w.heap.size 9 1 (.slice A lf.length c) lf.length (pc lf) ∧ wr'.ownsRow v0.heap.size 9 1 (.slice A8 zs.length c8) zs.length (pc zs) ∧ Below w.heap.size w wr' ∧ v0.heap.size ≤ wr'.heap.size := by
  refine ⟨h.bk.grown hg (fun e => h.mp.blk_ne h.bk (by injection e)), h.ba.grown hg (fun e => h.mp.blk_ne h.ba (by injection e)), ?_, h.mp.is.kept h.own hg, h.mp.is.kept h.out hg, h.below.grown hg (Nat.le_trans h.wv h.size) (fun j hj => by injection hj with hj; have := h.aw; omega), Nat.le_trans h.size hg.size⟩
  obtain ⟨al, hK, hL⟩ := h.kn
  exact ⟨al, hK.grown hg (fun e => by injection e with e; exact h.kab e), hL⟩
/-- Behind the taking of one from the row of what is left. -/
theorem OrdW.cut {l : List NdA} {all zs lf lf' mt : List ByteArray} {w v0 wr wr' : World} {BK BA kb ab : Nat} {A : Option Addr} {c : Nat} {A8 : Option Addr} {c8 : Nat} (hbk : Blk wr BK 47 [.map (some kb)]) (hba : Blk wr BA 49 [.map (some ab)]) (hkn : Kn wr kb l) (hmp : MapL Try.prog 9 wr ab (mtE mt))
    (how : wr.ownsRow w.heap.size 9 1 (.slice A lf.length c) lf.length (pc lf)) (hA : ∀ a, A = some a → a.block < v0.heap.size) (hout : wr.ownsRow v0.heap.size 9 1 (.slice A8 zs.length c8) zs.length (pc zs)) (hb : Below w.heap.size w wr) (hs : v0.heap.size ≤ wr.heap.size)
    (hg : wr.grownBy wr' (Value.slice A lf.length c).ownBlock) (ho' : wr'.ownsRow w.heap.size 9 1 (.slice A lf'.length c) lf'.length (pc lf')) (hmem : ∀ x, x ∈ mt ↔ x ∈ lf') (wv : w.heap.size ≤ v0.heap.size) (aw : w.heap.size ≤ ab) (kab : kb ≠ ab) (bka : BK < v0.heap.size) (baa : BA < v0.heap.size) (kba : kb < v0.heap.size) (aba : ab < v0.heap.size) :
    OrdW l all zs lf' mt w v0 wr' BK BA kb ab A c A8 c8 := by
  have n1 := own_ne how hbk (by decide)
  have n2 := own_ne how hba (by decide)
  refine ⟨hbk.grown hg (fun e => n1 e.symm), hba.grown hg (fun e => n2 e.symm), ?_, hmp.grown hg (fun e => hmp.own_ne how e.symm), hmem, ho', hA, ?_, hb.grown hg (Nat.le_trans wv hs) (fun j hj => (how.lt j hj).1), Nat.le_trans hs hg.size, wv, aw, kab, bka, baa, kba, aba⟩
  · obtain ⟨al, hK, hL⟩ := hkn
    exact ⟨al, hK.grown hg (fun e => hK.own_ne how e.symm), hL⟩
  · refine hout.kept hg ?_
    have h5 := how.2
    rcases h5 with ⟨h1, _⟩ | ⟨g, cap, cur, h1, _⟩
    · rw [h1]
      cases hv : (Value.slice A8 zs.length c8).ownBlock <;> simp [Value.ownBlock]
    · injection h1 with hA1 _ _
      have hlt := hA _ hA1
      refine .inr fun e => ?_
      rw [hA1] at e
      have := (hout.lt g (by rw [e]; rfl)).1
      simp at hlt
      omega
/-- The rounds of the program's Order. -/
def OrpRel (l : List NdA) (all : List ByteArray) (w v0 : World) (BK BA kb ab : Nat) (lv ov : Value) (wr : World) : Prop :=
  ∃ (zs lf mt : List ByteArray) (A : Option Addr) (c : Nat) (A8 : Option Addr) (c8 : Nat), lv = .slice A lf.length c ∧ ov = .slice A8 zs.length c8 ∧ Hid (lf = leftO all zs) ∧ Hid (OrdOk all zs) ∧ Hid (goO (l.map NdA.f) all zs = orderO (l.map NdA.f) all) ∧ OrdW l all zs lf mt w v0 wr BK BA kb ab A c A8 c8
set_option maxRecDepth 100000 in
set_option maxHeartbeats 6400000 in
theorem Order_calls (A : Option Addr) (l : List NdA) (c : Nat) (A2 : Option Addr) (fr : List ByteArray) (c2 : Nat) (w : World) (h : NdsOk w A l) (hr2 : Rd w w.heap.size 1 A2 fr.length (pc fr)) (hz : ∀ x ∈ fr, x.size ≤ maxLen) (hl : fr.length + room (l.map NdA.f) [] [] ≤ 549755813888) :
    Calls Try.prog 18 #[.slice A l.length c, .slice A2 fr.length c2] w (RetOrd (l.map NdA.f) fr w) := by
  have HKn := Lib.hid (know_calls A l c w h.rd h.len h.ids)
  go_enter Try.func18, Try.ntmps18
  go_wp2_with fail
  refine HKn.out.mono ?_
  rintro e w1 ⟨kb, rfl, hK, hkb, hb1⟩
  have hkx : kb < w1.heap.size := by obtain ⟨al, hM, _⟩ := hK; exact hM.lt
  have hb2 : Below w1.heap.size w1 (w1.alloc (.cells #[.map (some kb)] 47)) := (Below.refl _ _).alloc (Nat.le_refl _) _
  have hBK := Blk.new w1 47 [.map (some kb)]
  obtain ⟨W2, hW2⟩ : ∃ W, W = w1.alloc (.cells #[.map (some kb)] 47) := ⟨_, rfl⟩
  have hz2 : W2.heap.size = w1.heap.size + 1 := by rw [hW2, World.size_alloc]
  rw [← hW2] at hb2 hBK
  have hb02 := hb1.next hb2
  have h2 := h.below hb02
  have hK2 : Kn W2 kb l := by obtain ⟨al, hM, hL⟩ := hK; exact ⟨al, hM.belowW hb2, hL⟩
  have HR := Lib.hid (reached_calls l kb A2 fr c2 W2 hK2 h2.ps (Rd.more' (hr2.belowW hb02 (Nat.le_refl _)) hb02.size) hl hz h2.par)
  rw [hW2] at HR
  have hs02 := hb02.size
  have hcBK : (w1.alloc (.cells #[.map (some kb)] 47)).cell? ⟨w1.heap.size, 0, none⟩ = some (.map (some kb)) := by have := hBK.cell 0; rw [hW2] at this; exact this
  clear hK hb1 HKn hr2 hb2
  go_wp2_with fail
  refine HR.out.mono ?_
  rw [← hW2]
  rintro e w3 ⟨mt, rfl, hM, hmt, hb3, hml⟩
  have hab : W2.heap.size < w3.heap.size := hM.lt
  rw [hz2] at hM hab
  have hb03 := hb02.next hb3
  have hBK3 := hBK.below hb3 hBK.lt
  have hK3 : Kn w3 kb l := by obtain ⟨al, hM, hL⟩ := hK2; exact ⟨al, hM.belowW hb3, hL⟩
  have hb4 : Below w3.heap.size w3 (w3.alloc (.cells #[.map (some (w1.heap.size + 1))] 49)) := (Below.refl _ _).alloc (Nat.le_refl _) _
  have hBA := Blk.new w3 49 [.map (some (w1.heap.size + 1))]
  have HMT := Lib.hid hmt
  clear hmt HR h2 hK2 hBK hcBK hb02 hb3
  obtain ⟨W4, hW4⟩ : ∃ W, W = w3.alloc (.cells #[.map (some (w1.heap.size + 1))] 49) := ⟨_, rfl⟩
  rw [← hW4] at hb4 hBA
  have hz4 : W4.heap.size = w3.heap.size + 1 := by rw [hW4, World.size_alloc]
  have hM4 := hM.belowW hb4
  have hBK4 := hBK3.below hb4 hBK3.lt
  have hK4 : Kn W4 kb l := by obtain ⟨al, hM, hL⟩ := hK3; exact ⟨al, hM.belowW hb4, hL⟩
  have hb04 := hb03.next hb4
  have HKs := Lib.hid (keysMet (some (w1.heap.size + 1)) W4)
  have HSo := Lib.hid (sortedMet hM4 hml)
  rw [hz2]
  rw [hW4] at HKs HSo
  simp only [World.size_alloc] at HSo
  have hs03 := hb03.size
  clear hM hBK3 hK3 hb03 hb4
  go_wp2_with fail
  refine HKs.out.mono ?_
  rintro e w4' ⟨rfl, rfl⟩
  go_wp2_with fail
  refine HSo.out.mono ?_
  rw [← hW4]
  rintro e v0 ⟨all, Aa, ca, rfl, hst, hmem, hal, ho, hb5⟩
  have hb05 := hb04.next hb5
  have hma : Hid (∀ x, x ∈ all ↔ Rch (l.map NdA.f) fr x) := fun x => (hmem.out x).trans (HMT.out x)
  have hz5 := hb5.size
  have hst0 : OrpRel l all w v0 w1.heap.size w3.heap.size kb (w1.heap.size + 1) (.slice Aa all.length ca) (.slice none 0 0) v0 := by
    refine ⟨[], all, mt, Aa, ca, none, 0, rfl, rfl, (leftO_nil all).symm, OrdOk.nil _, goO_start _ _, hBK4.below hb5 hBK4.lt, hBA.below hb5 hBA.lt, ?_, hM4.belowW hb5, fun x => (hmem.out x).symm, World.ownsRow.mono ho hb04.size, ?_, World.ownsRow_nil _ _ _ _, hb05, Nat.le_refl _, hb05.size, by omega, by omega, by omega, by omega, by omega, by omega⟩
    · obtain ⟨al, hM, hL⟩ := hK4
      exact ⟨al, hM.belowW hb5, hL⟩
    · intro a ha
      rcases ho.2 with ⟨h1, _⟩ | ⟨g, cap, cur, h1, _, h3, _⟩
      · injection h1 with h1 _ _
        rw [ha] at h1
        cases h1
      · injection h1 with h1 _ _
        rw [ha] at h1
        injection h1 with h1
        rw [h1]
        exact (Array.getElem?_eq_some_iff.1 h3).1
  have HST := Lib.hid hst0
  have HND := Lib.hid hst.out.nodup
  clear hst0 ho hb5 hBA hBK4 hK4 hM4 hmem HKs HSo HMT hb04
  go_wp2_with fail
  go_loopw [7, 8] (fun lv ov wr => OrpRel l all w v0 w1.heap.size w3.heap.size kb (w1.heap.size + 1) lv ov wr) (fun lv _ _ => lenO lv)
  case atStart => exact HST.out
  case round =>
    clear HST
    obtain ⟨zs, lf, mq, A7, c7, A8, c8, rfl, rfl, hlf, hok, hgo, hO⟩ := hrel
    have hll : lf.length ≤ 549755813888 := by rw [hlf.out]; exact Nat.le_trans (List.length_filter_le _ _) hal
    have hzl := hok.out.len
    have hwr := h.below hO.below
    have eg := enters_of Try.func37 (by kernel_rfl) rfl
    have hbK := hO.bk.cell 0
    have hbA := hO.ba.cell 0
    have hkn : Hid (∀ x ∈ lf, x ∈ all ∧ (parF (l.map NdA.f) x).isSome = true) := fun x hx => by
      rw [hlf.out] at hx
      have h1 := (leftO_mem.1 hx).1
      exact ⟨h1, ((hma.out x).1 h1).known⟩
    have hSy : Says 37 #[.pointer (some ⟨w1.heap.size, 0, none⟩), .pointer (some ⟨w3.heap.size, 0, none⟩)] (fun x => (parL (l.map NdA.f) x).all fun y => !decide (y ∈ mq)) lf wr := fun V hV x hx => by
      have hOV := hO.step hV
      exact order1_calls A l kb (w1.heap.size + 1) w1.heap.size w3.heap.size mq V (hwr.below hV) (by omega) hOV.kn (hOV.bk.cell 0) (hOV.ba.cell 0) hOV.mp x (hkn.out x hx).2
    have HI := Lib.hid (indexFunc_calls 37 #[.pointer (some ⟨w1.heap.size, 0, none⟩), .pointer (some ⟨w3.heap.size, 0, none⟩)] _ wr A7 lf c7 wr (Below.refl _ _) (Rd.of_own hO.own) (by omega) eg hSy)
    have hnl : Hid (nextO (l.map NdA.f) all zs = lf.find? fun x => (parL (l.map NdA.f) x).all fun y => !decide (y ∈ mq)) := by
      unfold Hid
      rw [nextO_left, ← hlf.out]
      refine find_congr fun x => List.all_congr rfl fun y => ?_
      have := hO.mem y
      by_cases h1 : y ∈ lf <;> simp [h1, this]
    clear hSy eg hbK hbA
    go_wp2_with fail
    refine HI.out.mono ?_
    rintro e w5 ⟨⟨rfl, hn⟩ | ⟨k, x, rfl, hk, hx, hpx, hn⟩, hb⟩
    · have hO5 := hO.step hb
      have HF : Hid (zs = orderO (l.map NdA.f) all) := by
        unfold Hid
        rw [← hgo.out]
        refine (goO_none ?_).symm
        rw [hnl.out, List.find?_eq_none]
        intro x hx e
        have h0 := hn.out x hx
        exact Bool.noConfusion (h0.symm.trans e)
      clear HI hO
      go_wp2_with fail
      go_ret
      exact ⟨all, zs, A8, c8, rfl, hst, hma, HF, by omega, World.ownsRow.mono hO5.out hO5.wv, hO5.below⟩
    · have hO5 := hO.step hb
      have hnx : nextO (l.map NdA.f) all zs = some x := by
        rw [hnl.out, List.find?_eq_some_iff_getElem]
        obtain ⟨hk1, e⟩ := List.getElem?_eq_some_iff.1 hx.out
        refine ⟨hpx.out, k, hk1, e, fun j hj => ?_⟩
        have h0 := hn.out j hj _ (List.getElem?_eq_getElem (by omega))
        exact congrArg (fun b => !b) h0
      have HNX := Lib.hid hnx
      have hk0 : (0 : Int) ≤ (k : Int) := by omega
      have hkl : (k : Int) < (lf.length : Int) := by omega
      have hkn1 : decide ((k : Int) < 0) = false := decide_eq_false (by omega)
      have hkn2 : ¬ (k : Int) < 0 := by omega
      obtain ⟨bl, ol, hA7, hbl, hcl⟩ := (Rd.of_own hO5.own).at_ (by omega)
      have cx : w5.cell? ⟨bl, ol + k, none⟩ = some (.string x) := hcl k _ (by simp [pc, hx.out])
      have hn1 := Rd.new1 w5 9 (.string x)
      have hout5 := hO5.out
      have hsz5 := hO5.size
      have hwv5 := hO5.wv
      have hbl0 : bl < v0.heap.size := hO5.at_ _ hA7
      obtain ⟨B7, hB7⟩ : ∃ B : Option Addr, B = A7 := ⟨_, rfl⟩
      rw [← hB7] at hA7
      subst hA7
      subst hB7
      clear HI hO hnx hcl
      go_wp2_with (at_builtin; refine appVl rfl (.tmp 24) (.tmp 29) 26 9 _ 16 rfl Try.underlying26 info_string rfl v0.heap.size _ zs.length (pc zs) rfl (hout5.alloc _) (w5.heap.size + 1) _ 1 1 [Value.string x] rfl hn1 (by simp [Value.oneCell']) (by unfold maxLen; omega) (by omega) (by simp; omega) ?_; intro A11 c11 w11 y1 y2 y3 y4 y5; have hb11 := ((Below.refl v0.heap.size w5).alloc hsz5 (.cells #[Value.string x] 9)).trans y2)

      have hyl2 : (zs ++ [x]).length = zs.length + 1 := by rw [List.length_append]; rfl
      have y1' : w11.ownsRow v0.heap.size 9 1 (.slice A11 (zs ++ [x]).length c11) (zs ++ [x]).length (pc (zs ++ [x])) := by rw [hyl2, pc_append]; exact y1
      have hO11 := ((hO5.app hb11 y1').step ((Below.refl _ w11).drew))
      have HYL := Lib.hid hyl2
      have hlfn : lf.Nodup := by rw [hlf.out]; exact List.Nodup.sublist List.filter_sublist HND.out
      obtain ⟨kl, hkey⟩ := str_key x (h.known' (hkn.out x (List.mem_of_getElem? hx.out)).2)
      obtain ⟨j, w12, hrun, hM12, ⟨v, hv⟩, hg12⟩ := hO11.mp.drop str_law Try.underlying49 hkey (v0 := .int .i64 1) (List.mem_map.2 ⟨x, (hO5.mem x).2 (List.mem_of_getElem? hx.out), rfl⟩)
      have hmj : mq[j]? = some x := by
        unfold mtE at hv
        rw [List.getElem?_map] at hv
        cases hj : mq[j]? with
        | none => rw [hj] at hv; cases hv
        | some y =>
          rw [hj] at hv
          injection hv with hv
          injection hv with hv _
          injection hv with hv
          rw [hv]
      have hmq : mq.Nodup := mtE_nodup hO5.mp
      have hM12' : MapL Try.prog 9 w12 (w1.heap.size + 1) (mtE (mq.eraseIdx j)) := by
        have e : (mtE mq).eraseIdx j = mtE (mq.eraseIdx j) := (erase_map _ mq j).symm
        rw [← e]
        exact hM12
      obtain ⟨b1, b2, b3, b4, b5, b6, b7⟩ := hO11.del hg12 hM12'
      have HDl := Lib.hid (deleteT_calls w.heap.size (some ⟨bl, ol, none⟩) lf c7 k w12 b4 hk (by omega) b6.size)
      have cA11 := hO11.ba.cell 0
      have cX11 : w11.drew.cell? ⟨bl, ol + k, none⟩ = some (.string x) := (hb11.cell (p := ⟨bl, ol + k, none⟩) hbl0).trans cx
      have cA12 := b2.cell 0
      have cX12 : w12.cell? ⟨bl, ol + k, none⟩ = some (.string x) := by
        obtain ⟨bl', ol', e1, _, hc1⟩ := (Rd.of_own b4).at_ (by omega)
        injection e1 with e1
        injection e1 with e1 e2 _
        rw [e1, e2]
        exact hc1 k _ (by simp [pc, hx.out])
      have HM2 : Hid (∀ y, y ∈ mq.eraseIdx j ↔ y ∈ lf.eraseIdx k) := fun y => by
        rw [mem_erase hmq hmj y, mem_erase hlfn hx.out y, hO5.mem y]
      have HLF : Hid (lf.eraseIdx k = leftO all (zs ++ [x])) := by
        unfold Hid
        rw [hlf.out]
        refine (leftO_step HND.out ?_).symm
        rw [← hlf.out]
        exact hx.out
      have HLL : Hid ((lf.eraseIdx k).length + 1 = lf.length) := by
        unfold Hid
        rw [List.length_eraseIdx, if_pos hk]
        omega
      have HOK := Lib.hid (hok.out.next HNX.out)
      have HGO : Hid (goO (l.map NdA.f) all (zs ++ [x]) = orderO (l.map NdA.f) all) := (goO_some hok.out HNX.out).trans hgo.out
      have f1 : IntKind.i64.wrap ((k : Int) + 1) = (k : Int) + 1 := IntWalk.i64_in _ (by omega)
      clear hmj hv hmq hM12 hlfn hyl2 y1 y1'
      refine wp_region_held_drew (S := fun W => W.cell? ⟨w3.heap.size, 0, none⟩ = some (.map (some (w1.heap.size + 1))) ∧ W.cell? ⟨bl, ol + k, none⟩ = some (.string x)) (by kernel_rfl) (⟨cA11, cX11⟩) (fun hHeld => ?_)
      refine wpAnyH_take (i := 0) (oi := _) (v := .map (some (w1.heap.size + 1))) rfl (by kernel_rfl) (by kernel_rfl) (by kernel_rfl) (fun _ _ _ h => h) (Or.inl ⟨by rfl, fun w9 hS => ?_⟩) hHeld ?_
      · obtain ⟨s0, s1⟩ := hS
        go_simp
      try simp only [Act.put, List.setIfInBounds_toArray, List.set_cons_zero, List.set_cons_succ, List.getElem_toArray, List.getElem_cons_zero]
      refine wpAnyH_take (i := 1) (oi := _) (v := .slice (some ⟨bl, ol, none⟩) lf.length c7) rfl (by kernel_rfl) (by kernel_rfl) (by kernel_rfl) (fun _ _ _ h => h) (Or.inl ⟨by rfl, fun w9 hS => ?_⟩) hHeld ?_
      · obtain ⟨s0, s1⟩ := hS
        go_simp
      try simp only [Act.put, List.setIfInBounds_toArray, List.set_cons_zero, List.set_cons_succ, List.getElem_toArray, List.getElem_cons_succ, List.getElem_cons_zero]
      refine wpAnyH_take (i := 2) (oi := _) (v := .int .i64 (k : Int)) rfl (by kernel_rfl) (by kernel_rfl) (by kernel_rfl) (fun _ _ _ h => h) (Or.inl ⟨by rfl, fun w9 hS => ?_⟩) hHeld ?_
      · obtain ⟨s0, s1⟩ := hS
        go_simp
      try simp only [Act.put, List.setIfInBounds_toArray, List.set_cons_zero, List.set_cons_succ, List.getElem_toArray, List.getElem_cons_succ, List.getElem_cons_zero]
      refine wpAnyH_take (i := 3) (oi := _) (v := .pointer (some ⟨bl, ol + k, none⟩)) rfl (by kernel_rfl) (by kernel_rfl) (by kernel_rfl) (fun _ _ _ h => h) (Or.inl ⟨by rfl, fun w9 hS => ?_⟩) hHeld ?_
      · obtain ⟨s0, s1⟩ := hS
        go_simp
      try simp only [Act.put, List.setIfInBounds_toArray, List.set_cons_zero, List.set_cons_succ, List.getElem_toArray, List.getElem_cons_succ, List.getElem_cons_zero]
      refine wpAnyH_take (i := 4) (oi := _) (v := .string x) rfl (by kernel_rfl) (by kernel_rfl) (by kernel_rfl) (fun _ _ _ h => h) (Or.inl ⟨by rfl, fun w9 hS => ?_⟩) hHeld ?_
      · obtain ⟨s0, s1⟩ := hS
        go_simp
      try simp only [Act.put, List.setIfInBounds_toArray, List.set_cons_zero, List.set_cons_succ, List.getElem_toArray, List.getElem_cons_succ, List.getElem_cons_zero]
      refine wpAnyH_ready (rs := [5]) (by kernel_rfl) (by simp) (AllReadyH.cons (o := _) rfl (fun K hK => ?_) AllReadyH.nil)
      go_simp
      refine hK.out _ _ ⟨cA12, cX12⟩ (fun hHeld => ?_)
      clear hK K
      try simp only [Act.put, List.setIfInBounds_toArray, List.set_cons_zero, List.set_cons_succ, List.getElem_toArray, List.getElem_cons_succ, List.getElem_cons_zero]
      refine wpAnyH_done (by kernel_rfl) ?_ _
      go_wp2_with fail
      refine HDl.out.mono ?_
      rintro e w13 ⟨m, hm, rfl, ho13, hb13, hg13⟩
      obtain rfl : m = lf.eraseIdx k := hm.out
      have hO13 : OrdW l all (zs ++ [x]) (lf.eraseIdx k) (mq.eraseIdx j) w v0 w13 w1.heap.size w3.heap.size kb (w1.heap.size + 1) (some ⟨bl, ol, none⟩) c7 A11 c11 :=
        OrdW.cut b1 b2 b3 hM12' b4 hO5.at_ b5 b6 b7 hg13 ho13 HM2.out hO5.wv hO5.aw hO5.kab hO5.bka hO5.baa hO5.kba hO5.aba
      go_wp2_with fail
      have e1 := HYL.out
      exact ⟨⟨zs ++ [x], lf.eraseIdx k, mq.eraseIdx j, some ⟨bl, ol, none⟩, c7, A11, c11, rfl, by rw [e1], HLF, HOK, HGO, hO13⟩, by have := HLL.out; simp [lenO]; omega⟩
end Go.Proofs.Yteeajmgiamdfdaa
