/- The walks of bytes.Equal, HasPrefix and CutPrefix. Conditions: bytes of at most 2^47. The walks of the layer 'loose': an object is kept; it is dropped. Conditions: a disk in good order, with room for one file more; an id of at most 2^46 bytes. A range over an iterator that makes new memory alone between two rounds. Conditions: none beyond what the law names. slices.Collect over an iterator that makes new memory alone. Conditions: at most 3518437208880 texts are told. The walks of the layer 'sum', its eleventh part: bytes of digits. Conditions: bytes that are made fit 2^47. The walks of the layer 'sum', its twelfth part: bytes of digits. Conditions: bytes that are made fit 2^47. -/
import Derived.Test.YtecpbcmpncgokaaGreatWordsA
import Derived.Test.YtecpbcmpncgokaaGreatObjA
import Derived.Deep.DeepCutAuto
import Derived.Lib.SlBytesConst
import Derived.Test.YtecpbcmpncgokaaGreatLoo2
import Derived.Test.YtecpbcmpncgokaaGreatSafeB
import Derived.Test.YtecpbcmpncgokaaGreatPressB
import Derived.Test.YtecpbcmpncgokaaGreatOkL
import Derived.Test.YtecpbcmpncgokaaGreatDiskLaw
import Derived.Test.YtecpbcmpncgokaaGreatHexLaw
import Derived.Test.YtecpbcmpncgokaaGreatShelfA
import Derived.Deep.QuietTactic
import Derived.BigQuiet
namespace Go.Proofs.YtecpbcmpncgokaaGreat
open Go.RowKit Go.Dol
set_option linter.unusedVariables false
theorem str_eqT (a b : List UInt8) : ((⟨a.toArray⟩ : ByteArray).toList == (⟨b.toArray⟩ : ByteArray).toList) = decide (a = b) := by
  by_cases h : a = b
  · subst h; simp
  · rw [decide_eq_false h]
    refine beq_eq_false_iff_ne.2 fun e => h ?_
    have := str_inj e
    simpa using this
set_option maxRecDepth 100000 in
set_option maxHeartbeats 800000 in
theorem bytesEqual_calls (A : Option Addr) (a : List UInt8) (n c : Nat) (A2 : Option Addr) (b : List UInt8) (n2 c2 : Nat) (w : World) (B B2 : Nat) (hr : Rd w B 1 A n (bc a)) (hr2 : Rd w B2 1 A2 n2 (bc b)) :
    Calls Tryz.prog 98 #[.slice A n c, .slice A2 n2 c2] w fun e w' => e = .returned (.bool (decide (a = b))) ∧ w' = w := by
  have h1 := conv8f (c := c) hr
  have h2 := conv8f (c := c2) hr2
  have h3 := str_eqT a b
  have hd : (a == b) = decide (a = b) := by by_cases h : a = b <;> simp [h]
  go_enter Tryz.func98, Tryz.ntmps98
  go_wp2_with fail
  go_ret
  exact ⟨rfl, rfl⟩
end Go.Proofs.YtecpbcmpncgokaaGreat
namespace Go.Proofs.YtecpbcmpncgokaaGreat
open Go.RowKit Go.Dol
set_option linter.unusedVariables false
/-- What keeping an object hands back. -/
def putR (r : Except Int ByteArray) : Value := match r with
  | .ok id => .tuple #[.string id, .int .i64 0]
  | .error k => .tuple #[.string ⟨#[]⟩, .int .i64 k]
def RetPut (w : World) (g m : Nat) (r : Except Int ByteArray × Dk) (e : Ending) (w' : World) : Prop := e = .returned (putR r.1) ∧ Dsk w' g m r.2 ∧ Tw w w' g m
theorem RetPut.ok {w w' : World} {g m : Nat} {id : ByteArray} {D : Dk} {e : Ending} (h : RetPut w g m (.ok id, D) e w') : e = .returned (.tuple #[.string id, .int .i64 0]) ∧ Dsk w' g m D ∧ Tw w w' g m := h
theorem RetPut.err {w w' : World} {g m : Nat} {k : Int} {D : Dk} {e : Ending} (h : RetPut w g m (.error k, D) e w') : e = .returned (.tuple #[.string ⟨#[]⟩, .int .i64 k]) ∧ Dsk w' g m D ∧ Tw w w' g m := h
section
variable {w : World} {g m : Nat} {D : Dk}
set_option maxRecDepth 100000 in
set_option maxHeartbeats 1600000 in
theorem DropO_calls (h : Dsk w g m D) (hK : OkW D) (id : ByteArray) (hid : id.size ≤ 70368744177600) :
    Calls Tryz.prog 47 #[.pointer (some ⟨g, 0, none⟩), .string id] w (RetOp w g m (dropO D id)) := by
  obtain ⟨r, hr⟩ : ∃ r, r = dropO D id := ⟨_, rfl⟩
  rw [← hr]
  have HR := Lib.hid hr
  clear hr
  have HRi := Lib.hid (right_calls h hK id)
  go_enter Tryz.func47, Tryz.ntmps47
  go_wp2_with fail
  refine HRi.out.mono ?_
  by_cases hs : id.size = 32
  · have h32 := Lib.hid hs
    obtain ⟨hnB, _, _, _⟩ := nameO_B hs
    have hsz : (nameO id).size ≤ maxLen := by rw [nameO_size, hs]; decide
    clear hs
    rw [decide_eq_true h32.out]
    rintro e w1 ⟨rfl, hb1⟩
    have h1 := h.below hb1
    have HN := Lib.hid (Name_calls id w1 hid)
    go_wp2_with fail
    refine HN.out.mono ?_
    rintro e w2 ⟨rfl, hb2⟩
    have h2 := h1.below hb2
    have hb02 := hb1.next hb2
    have HH := Lib.hid (DHas_calls h2 hK.ord (nameO id) hsz)
    go_wp2_with fail
    refine HH.out.mono ?_
    cases hl : (lookF D.l (nameO id)).isSome with
    | false =>
      have hr : Hid (r = (6, D)) := by
        unfold Hid
        rw [HR.out]
        unfold dropO
        rw [if_neg (by rw [h32.out]; simp), if_neg (by rw [hl]; decide)]
      rintro e w3 ⟨rfl, hw3⟩
      obtain rfl := hw3.symm
      clear hl
      go_wp2_with fail
      go_ret
      rw [hr.out]
      exact ⟨rfl, h2, Tw.below hb02⟩
    | true =>
      have hr : Hid (r = remD D (nameO id)) := by
        unfold Hid
        rw [HR.out]
        unfold dropO
        rw [if_neg (by rw [h32.out]; simp), if_pos hl]
      rintro e w3 ⟨rfl, hw3⟩
      obtain rfl := hw3.symm
      clear hl
      have HN2 := Lib.hid (Name_calls id w2 hid)
      go_wp2_with fail
      refine HN2.out.mono ?_
      rintro e w4 ⟨rfl, hb4⟩
      have h4 := h2.below hb4
      have HRm := Lib.hid (Remove_calls h4 hK (nameO id) hsz)
      go_wp2_with fail
      refine HRm.out.mono ?_
      rintro e w5 ⟨rfl, h5, ht5⟩
      go_wp2_with fail
      go_ret
      rw [hr.out]
      exact ⟨rfl, h5, (Tw.below (hb02.next hb4)).step ht5⟩
  · have h32 := Lib.hid hs
    have hr : Hid (r = (1, D)) := by
      unfold Hid
      rw [HR.out]
      unfold dropO
      rw [if_pos hs]
    clear hs
    rw [decide_eq_false h32.out]
    rintro e w1 ⟨rfl, hb1⟩
    have h1 := h.below hb1
    go_wp2_with fail
    go_ret
    rw [hr.out]
    exact ⟨rfl, h1, Tw.below hb1⟩
theorem putO_out (ge : ByteArray → ByteArray → Bool) (D : Dk) (raw : List UInt8) (h : isObjL ge raw = false) : putO ge D raw = (.error 1, D) := if_pos h
theorem putO_in {ge : ByteArray → ByteArray → Bool} {D : Dk} {raw : List UInt8} (h : isObjL ge raw = true) : putO ge D raw = match getO ge D (idO raw) with
  | .ok b => if b = raw then (.ok (idO raw), D) else (.error 7, D)
  | .error k => if k = 2 then (.error 2, D) else
    if (saveD D (nameO (idO raw)) (pressL raw)).1 ≠ 0 then (.error (saveD D (nameO (idO raw)) (pressL raw)).1, (saveD D (nameO (idO raw)) (pressL raw)).2) else (.ok (idO raw), (saveD D (nameO (idO raw)) (pressL raw)).2) := by
  unfold putO
  rw [if_neg (by rw [h]; decide)]
  rfl
/-- Which errors there may be. -/
theorem getO_err {ge : ByteArray → ByteArray → Bool} {D : Dk} {id : ByteArray} (h : id.size = 32) {k : Int} (e : getO ge D id = .error k) : k = 2 ∨ k = 6 := by
  unfold getO at e
  rw [if_neg (by rw [h]; simp)] at e
  split at e
  · injection e with e; exact .inr e.symm
  · split at e
    · injection e with e; exact .inl e.symm
    · split at e
      · cases e
      · injection e with e; exact .inl e.symm
set_option maxRecDepth 100000 in
set_option maxHeartbeats 3200000 in
theorem PutO_calls (h : Dsk w g m D) (hK : OkW D) (hsl : D.l.length + 1 ≤ 3518437208880) (A : Option Addr) (raw : List UInt8) (c : Nat) (hr : Rd w w.heap.size 1 A raw.length (bc raw)) (hc : raw.length ≤ c) (hcm : c ≤ maxLen) (hl : raw.length ≤ 140737488351232) :
    Calls Tryz.prog 39 #[.pointer (some ⟨g, 0, none⟩), .slice A raw.length c] w (RetPut w g m (putO geS D raw)) := by
  obtain ⟨r, hre⟩ : ∃ r, r = putO geS D raw := ⟨_, rfl⟩
  rw [← hre]
  have HR := Lib.hid hre
  clear hre
  have HS := Lib.hid (SumO_calls A raw c w hr (by omega))
  go_enter Tryz.func39, Tryz.ntmps39
  go_wp2_with fail
  refine HS.out.mono ?_
  rintro e w1 ⟨rfl, hb1⟩
  have h1 := h.below hb1
  have hr1 : Rd w1 w1.heap.size 1 A raw.length (bc raw) := (hr.below hb1).more hb1.size
  obtain ⟨id, hid⟩ : ∃ id : ByteArray, id = idO raw := ⟨_, rfl⟩
  have hidO := Lib.hid hid
  have h32 : id.size = 32 := by rw [hid]; exact idO_size raw
  rw [← hid]
  clear hid HS
  have hD := Decode_calls A raw c w1 hr1 hc hcm hl
  cases hdec : decO geS raw with
  | none =>
    rw [hdec] at hD
    have HD := Lib.hid hD
    have hr2 : Hid (r = (.error 1, D)) := by
      unfold Hid
      rw [HR.out]
      exact putO_out _ _ _ (by unfold isObjL; rw [hdec]; rfl)
    clear hD hdec
    go_wp2_with fail
    refine HD.out.mono ?_
    rintro e w2 ⟨rfl, hb2⟩
    have hb02 := hb1.next hb2
    go_wp2_with fail
    go_ret2
    rw [hr2.out]
    exact ⟨rfl, h.below (hb02.alloc hb02.size _), Tw.below (hb02.alloc hb02.size _)⟩
  | some o =>
    rw [hdec] at hD
    have HD := Lib.hid hD
    have hobj : isObjL geS raw = true := by unfold isObjL; rw [hdec]; rfl
    have hfew := obj_few raw hobj
    have hr2 := Lib.hid (HR.out.trans (putO_in hobj))
    have HO := Lib.hid hobj
    clear hD hdec hobj
    go_wp2_with fail
    refine HD.out.mono ?_
    rintro e w2 ⟨k, Ad, d, cd, Ae, en, ce, tr, Ap, pa, cp, ta, na, wh, st, te, ho, rfl, _, _, _, hb2, _, _, _⟩
    clear ho
    have hb02 := hb1.next hb2
    have hb02 := hb02.alloc hb02.size (.cells #[.int .i64 k, .slice Ad d.length cd, .slice Ae en.length ce, .string tr, .slice Ap pa.length cp, .string ta, .string na, .string wh, .int .i64 st, .string te] 40)
    have h2 := h.below hb02
    have HRi := Lib.hid (right_calls h2 hK id)
    go_wp2_with fail
    refine HRi.out.mono ?_
    rw [decide_eq_true h32]
    rintro e w3 ⟨rfl, hb3⟩
    have h3 := h2.below hb3
    have hb03 := hb02.next hb3
    have HG := Lib.hid (GetO_calls h3 hK id (by omega))
    go_wp2_with fail
    refine HG.out.mono ?_
    obtain ⟨q, hq⟩ : ∃ q, q = getO geS D id := ⟨_, rfl⟩
    rw [← hq]
    rw [← hidO.out, ← hq] at hr2
    rintro e w4 ⟨hb4, hm⟩
    have h4 := h3.below hb4
    have hb04 := hb03.next hb4
    have hr4 : Rd w4 w4.heap.size 1 A raw.length (bc raw) := (hr.below hb04).more hb04.size
    cases q with
    | ok b =>
      obtain ⟨b', Ab, cb, hbb, rfl, hob, hbc, hbcm⟩ := hm
      have HE := Lib.hid (bytesEqual_calls Ab b' b'.length cb A raw raw.length c w4 _ _ (Rd.of_own hob) hr4)
      have hr3 : Hid (r = if b' = raw then (.ok id, D) else (.error 7, D)) := by
        unfold Hid
        rw [hr2.out]
        simp only
        rw [hbb.out]
      clear hbb hq
      go_wp2_with fail
      refine HE.out.mono ?_
      by_cases hb : b' = raw
      · have hr4 : Hid (r = (.ok id, D)) := by unfold Hid; rw [hr3.out, if_pos hb]
        rw [decide_eq_true hb]
        rintro e w5 ⟨rfl, hw5⟩
        obtain rfl := hw5.symm
        clear hb
        go_wp2_with fail
        go_ret2
        rw [hr4.out]
        exact ⟨rfl, h4, Tw.below hb04⟩
      · have hr4 : Hid (r = (.error 7, D)) := by unfold Hid; rw [hr3.out, if_neg hb]
        rw [decide_eq_false hb]
        rintro e w5 ⟨rfl, hw5⟩
        obtain rfl := hw5.symm
        clear hb
        go_wp2_with fail
        go_ret2
        rw [hr4.out]
        exact ⟨rfl, h4, Tw.below hb04⟩
    | error k0 =>
      obtain rfl := hm
      rcases getO_err h32 hq.symm with rfl | rfl
      · have hr3 : Hid (r = (.error 2, D)) := by
          unfold Hid
          rw [hr2.out]
          rfl
        clear hq
        go_wp2_with fail
        go_ret2
        rw [hr3.out]
        exact ⟨rfl, h4, Tw.below hb04⟩
      · have HN := Lib.hid (Name_calls id w4 (by omega))
        clear hq
        go_wp2_with fail
        refine HN.out.mono ?_
        rintro e w5 ⟨rfl, hb5⟩
        have h5 := h4.below hb5
        have hb05 := hb04.next hb5
        have hr5 : Rd w5 w5.heap.size 1 A raw.length (bc raw) := (hr.below hb05).more hb05.size
        have HP := Lib.hid (Press_own A raw c w5 hr5 (by omega) hc)
        go_wp2_with fail
        refine HP.out.mono ?_
        rintro e w6 ⟨b6, A6, c6, hb6e, rfl, ho6, hb6, hc6, hcm6⟩
        have h6 := h5.below hb6
        have hb06 := hb05.next hb6
        have hpl : b6.length ≤ 2621449 := by rw [hb6e.out]; exact press_few HO.out
        have hF : Far w6 0 A6 b6 := Far.of_seg (Seg.of_own ho6)
        have hns : (nameO id).size = 66 := by rw [nameO_size, h32]
        have HSv := Save_callsW h6 hK (nameO id) (by omega) A6 b6 c6 (by omega) hsl (by omega) 0 hF hc6 hcm6 (Nat.zero_le _) (Nat.zero_le _) (Nat.zero_le _)
        rw [hb6e.out, hidO.out] at HSv
        obtain ⟨s, hs⟩ : ∃ s, s = saveD D (nameO (idO raw)) (pressL raw) := ⟨_, rfl⟩
        have hr3 : Hid (r = if s.1 ≠ 0 then (.error s.1, s.2) else (.ok id, s.2)) := by
          unfold Hid
          rw [hr2.out, hidO.out, hs]
          rfl
        rw [← hs, ← hidO.out, ← hb6e.out] at HSv
        have HSV := Lib.hid HSv
        clear HSv hs hb6e
        go_wp2_with fail
        refine HSV.out.mono ?_
        rintro e w7 ⟨rfl, h7, ht7⟩
        obtain ⟨s1, s2⟩ := s
        by_cases hs0 : s1 = 0
        · have hr4 : Hid (r = (.ok id, s2)) := by unfold Hid; rw [hr3.out, if_neg (by simpa using hs0)]
          subst hs0
          go_wp2_with fail
          go_ret2
          rw [hr4.out]
          exact ⟨rfl, h7, (Tw.below hb06).step ht7⟩
        · have hr4 : Hid (r = (.error s1, s2)) := by unfold Hid; rw [hr3.out, if_pos hs0]
          have q1 : (s1 != 0) = true := bne_iff_ne.2 hs0
          have q2 : (s1 == 0) = false := beq_eq_false_iff_ne.2 hs0
          clear hs0
          go_wp2_with fail
          go_ret2
          rw [hr4.out]
          exact ⟨rfl, h7, (Tw.below hb06).step ht7⟩
end
end Go.Proofs.YtecpbcmpncgokaaGreat
namespace Go.Dol
open Go.RowKit
set_option linter.unusedVariables false
variable {F : Fence} {n : Nat} {P : Program}

/-- What an iterator owes that makes new memory alone between two rounds, and keeps what it has to tell in block K of its own. -/
def SeqNew {α : Type} (F : Fence) (n : Nat) (P : Program) (gf : Nat) (lb : Array Value) (enc : α → Value) (N : Nat) (S : List α → Prop) (w : World) : Prop :=
  ∀ (l : Nat) (J : Option Nat → List α → World → Prop) (W : World), Below w.heap.size w W → (∀ K pre W1 W2, J K pre W1 → Below W1.heap.size W1 W2 → J K pre W2) →
    (∀ K pre y W1, J K pre W1 → pre.length < N → YieldAt F (n - 1) P l #[enc y] W1 fun e W' => e = .returned (.bool true) ∧ J K (pre ++ [y]) W' ∧ W1.heap.size ≤ W'.heap.size ∧ ∀ k, K = some k → W'.heap[k]? = W1.heap[k]?) →
    (∀ K W1, Below W.heap.size W W1 → (∀ k, K = some k → W.heap.size ≤ k ∧ k < W1.heap.size) → J K [] W1) → CallsIn F n P gf (#[.func (.yield l) #[] #[]] ++ lb) W fun e W' => (∃ v, e = .returned v) ∧ ∃ K xs, S xs ∧ J K xs W'

theorem LoopAt.below {r : Loop} {D : Nat} {W W' : World} (h : LoopAt r D W) (hb : Below W.heap.size W W') : LoopAt r D W' :=
  ⟨(hb.block _ (Array.getElem?_eq_some_iff.1 h.rec_).1).trans h.rec_, (hb.block _ (Array.getElem?_eq_some_iff.1 h.def_).1).trans h.def_⟩
/-- 'for y := range seq { .. }' over such an iterator. -/
theorem range_new {α : Type} {g : Operand} {p : Tmp} {assign body : Code} {Q : Exit → Act → World → Prop} {a : Act} {w : World}
    (hro : F.round = none) (h1 : 1 ≤ n) {gf : Nat} {lb : Array Value} (hg : a.eval g = .func (.func gf) #[] lb) (hFg : F.fn gf) (eg : ∀ args w, (callFunc gf args).run P w = .ok (.enter gf args) w)
    {enc : α → Value} {N : Nat} {S : List α → Prop} {w0 : World} (hseq : SeqNew F (n - 1) P gf lb enc N S w0) (hb0 : Below w0.heap.size w0 w)
    (I : Option Nat → List α → World → Prop) (hI0 : ∀ K W, Below w.heap.size w W → (∀ k, K = some k → w.heap.size ≤ k ∧ k < W.heap.size) → I K [] W) (hIb : ∀ K pre W W', I K pre W → Below W.heap.size W W' → I K pre W')
    (hIp : ∀ K pre W l o, w.heap.size ≤ l → NoCells W l → I K pre W → I K pre (W.putObj l o)) (q : Tmp)
    (hassign : ∀ (l : Nat) (y : α) (W : World) (K : Act → World → Prop), K { tmps := (a.tmps.setIfInBounds p (enc y)).setIfInBounds q (enc y), defers := [] } W → assign.wpIn (F.inRound l) (n - 1 - 1) P (Exit.then K (fun _ _ _ => False)) { tmps := a.tmps.setIfInBounds p (enc y), defers := [] } W)
    (hbody : ∀ (l : Nat) (K : Option Nat) (pre : List α) (y : α) (W : World), pre.length < N → I K pre W → body.wpIn (F.inRound l) (n - 1 - 1) P (fun e _ W' => match e with | .normal => KeepsFrom w.heap.size W W' ∧ I K (pre ++ [y]) W' ∧ ∀ k, K = some k → W'.heap[k]? = W.heap[k]? | _ => False) { tmps := (a.tmps.setIfInBounds p (enc y)).setIfInBounds q (enc y), defers := [] } W)
    (hdone : ∀ (D : Nat) (K : Option Nat) (xs : List α) (W : World), w.heap.size ≤ D → S xs → I K xs W → W.heap[D]? = some (.deferred (some [])) → Q .normal { a with defers := { target := .collected D, args := #[] } :: a.defers } W) :
    (Code.rangeFunc g #[p] assign body).wpIn F n P Q a w := by
  refine wpIn_rangeFunc fun fn hfn => ?_
  rw [hro]
  let R : LoopState → Option Code → Loop := fun st pe => { state := st, pending := pe, fn, tmps := a.tmps, params := #[p], assign, body, defers := w.heap.size }
  refine ⟨w.heap.size + 1, [{ target := .collected w.heap.size, args := #[] }], (w.alloc (.deferred (some []))).alloc (.loop (R .ready none)), { target := .fn (.func gf) lb, args := #[.func (.yield (w.heap.size + 1)) #[] #[]] }, (w.alloc (.deferred (some []))).alloc (.loop (R .ready none)), gf,
    #[.func (.yield (w.heap.size + 1)) #[] #[]] ++ lb, (w.alloc (.deferred (some []))).alloc (.loop (R .ready none)), run_enterLoop_outer fn a.tmps #[p] assign body, ?_, ?_, ?_, fun _ => h1, ?_⟩
  · simp only [resolve, hg]
    simp [go_sem]
  · intro f' hf'
    simp only [Target.leads, Option.some.injEq] at hf'
    rw [← hf']
    exact hFg
  · simp [invoke, go_sem, eg]
  have hA : Below w.heap.size w ((w.alloc (.deferred (some []))).alloc (.loop (R .ready none))) := ((Below.refl _ _).alloc (Nat.le_refl _) _).alloc (by simp) _
  have hsz : ((w.alloc (.deferred (some []))).alloc (.loop (R .ready none))).heap.size = w.heap.size + 1 + 1 := by simp
  have hL0 : LoopAt (R .ready none) w.heap.size ((w.alloc (.deferred (some []))).alloc (.loop (R .ready none))) := by
    refine ⟨?_, (Below.heap_alloc _ _ _ (by simp)).trans (World.alloc_heap_new w _)⟩
    have := World.alloc_heap_new (w.alloc (.deferred (some []))) (.loop (R .ready none))
    rwa [World.size_alloc] at this
  refine (hseq (w.heap.size + 1) (fun K pre W => I K pre W ∧ LoopAt (R .ready none) w.heap.size W ∧ ∀ k, K = some k → w.heap.size + 1 + 1 ≤ k) _ (hb0.trans (hA.mono hb0.size))
    (fun K pre W1 W2 h hb => ⟨hIb K pre W1 W2 h.1 hb, h.2.1.below hb, h.2.2⟩) ?_
    (fun K W1 hb hk => ⟨hI0 K W1 (hA.trans (hb.mono hA.size)) (fun k e => ⟨by have := (hk k e).1; rw [hsz] at this; omega, (hk k e).2⟩), hL0.below hb, fun k e => by have := (hk k e).1; rw [hsz] at this; exact this⟩)).mono ?_
  · intro K pre y W h hN
    obtain ⟨hi, hl, hK⟩ := h
    refine ⟨fn, a.tmps.setIfInBounds p (enc y), assign, body, (run_yield (args := #[enc y]) hl.rec_ (by rfl)).trans (by simp [R]), ?_⟩
    refine roundIn_of_wpIn hfn (hassign _ y W _ ?_)
    refine ⟨_, run_beginRound hl.rec_ rfl, ?_⟩
    have hl2 := hl.put (R .busy none)
    refine wpIn_mono (hbody _ K pre y _ hN (hIp _ _ _ _ _ (by omega) hl.no hi)) ?_
    intro e a3 W3 hq
    cases e with
    | normal =>
      obtain ⟨hk, hi3, hk3⟩ := hq
      have hl3 := hl2.keep hk (Nat.le_refl _)
      have h9 := hk.size
      refine ⟨_, _, run_endRound none hl3.rec_, rfl, ⟨hIp _ _ _ _ _ (by omega) hl3.no hi3, hl3.put _, hK⟩, ?_, fun k e => ?_⟩
      · simpa using h9
      · have h8 := hK k e
        rw [World.putObj_heap_other (by omega), hk3 k e, World.putObj_heap_other (by omega)]
    | ret => exact hq.elim
    | exit id => exact hq.elim
    | goto t => exact hq.elim
    | panic c => exact hq.elim
    | outgrown => exact hq.elim
  · rintro e W2 ⟨⟨v, rfl⟩, K, xs, hS, hi, hl, _⟩
    exact ⟨none, _, run_endLoop hl.rec_ (by simp [R]), hdone _ K xs _ (Nat.le_refl _) hS (hIp _ _ _ _ _ (by omega) hl.no hi) (hl.put _).def_⟩
end Go.Dol
namespace Go.Dol
open Go.RowKit
section
variable {w w' : World} {base : Nat} {e : TypeId} {size n c : Nat} {A : Option Addr} {v : Value} {xs : List Value}
/-- A block of cells lies still where another one is turned. -/
theorem blk_putN {W : World} {x : Nat} {T : TypeId} {cs : List Value} (h : Blk W x T cs) {l : Nat} (hl : NoCells W l) (o : Go.Obj) : Blk (W.putObj l o) x T cs := by
  refine (World.putObj_heap_other fun e => ?_).trans h
  obtain ⟨o', ho, hc⟩ := hl
  unfold Blk at h
  rw [← e, h] at ho
  injection ho with ho
  rw [← ho] at hc
  cases hc
/-- A row stays where its block does. -/
theorem own_block (h : w.ownsRow base e size v n xs) (hk : ∀ k, v.ownBlock = some k → w'.heap[k]? = w.heap[k]?) : w'.ownsRow base e size v n xs := by
  refine ⟨h.1, ?_⟩
  rcases h.2 with h0 | ⟨g, cap, cur, rfl, h2, h3, h4⟩
  · exact .inl h0
  · exact .inr ⟨g, cap, cur, rfl, h2, (hk g rfl).trans h3, h4⟩
theorem own_blockLt (h : w.ownsRow base e size v n xs) : ∀ k, v.ownBlock = some k → base ≤ k ∧ k < w.heap.size := by
  intro k hk
  rcases h.2 with ⟨rfl, _⟩ | ⟨g, cap, cur, rfl, h2, h3, _⟩
  · cases hk
  · have : g = k := by simpa [Value.ownBlock] using hk
    subst this
    exact ⟨h2, (Array.getElem?_eq_some_iff.1 h3).1⟩
end
/-- An append onto a row of the call's own: it stays where it was, or lies in a new block. -/
theorem wpListIn_append_at {F : Fence} {N : Nat} {P : Program} (w : World) {ops : Array Oper} {rest : List Oper} {o : Oper} {a : Act} {Q : Exit → Act → World → Prop}
    (hg : o.guard = none) (s x : Operand) (t : TypeId) (hop : o.op = Op.call { callee := Callee.builtin Builtin.append, args := #[s, x], argTypes := #[t, t] })
    (base : Nat) (e : TypeId) (z : Value) (bytes : Nat) (h1 : P.underlying t = some (.slice e)) (hi : (P.info? e).map (fun i => (i.zero, i.size, i.bytes)) = some (some z, 1, bytes)) (h6 : z.cells.size = 1)
    (A : Option Addr) (n c : Nat) (xs : List Value) (hs : a.eval s = .slice A n c) (hown : w.ownsRow base e 1 (.slice A n c) n xs) (A2 : Option Addr) (m c2 : Nat) (news : List Value) (hx : a.eval x = .slice A2 m c2) (B : Nat) (hr : Rd w B 1 A2 m news)
    (h1c : ∀ u ∈ news, u.oneCell' = true) (hm : 0 < m) (b1 : n + m ≤ maxLen) (b2 : (n + m) * bytes ≤ 140737488355328) (b3 : base ≤ w.heap.size)
    (hK : ∀ A' c' w', w'.ownsRow base e 1 (.slice A' (n + m) c') (n + m) (xs ++ news) → w.grownBy w' (Value.slice A n c).ownBlock → (∀ k, (Value.slice A' (n + m) c').ownBlock = some k → (Value.slice A n c).ownBlock = some k ∨ k = w.heap.size) → wpListIn F N P ops Q rest (a.put o.dst (.slice A' (n + m) c')) w') :
    wpListIn F N P ops Q (o :: rest) a w := by
  refine wpListIn_plain hg fun K hK' => ?_
  obtain ⟨i, hi0, hz0, hz1, hz2⟩ := info_parts hi
  have hsrc := Src.ofRd (tx := t) (c := c2) h1 hr h1c
  obtain ⟨A', c', w', hrun, r1, r2, r3⟩ := run_append_seg2 (P := P) w base t t o.type e i z 1 bytes h1 hi0 hz0 hz1 hz2 h6 A n c xs (Seg.of_own hown) (.slice A2 m c2) m news hsrc b1 b2 b3
  obtain ⟨b, off, rfl, hb, hcell⟩ := hr.at_ hm
  have hcell2 : ∀ j u, news[j]? = some u → w.cell? ((⟨b, off, none⟩ : Addr).add j) = some u := fun j u hu => by
    have h9 := hcell j u hu
    unfold Addr.add
    split
    · rename_i h0
      rw [h0] at h9
      exact h9
    · exact h9
  obtain ⟨v', w2, hrun2, s1, s2, s3⟩ := run_append_own (P := P) w base t o.type e i z 1 bytes h1 hi0 hz0 hz1 hz2 h6 (by decide) _ n xs hown ⟨b, off, none⟩ m c2 news (by have := hr.1; omega) hcell2 h1c b1 b2 b3
  rw [hrun] at hrun2
  injection hrun2 with e1 e2
  subst e1 e2
  unfold Oper.wpIn
  refine ⟨?_, ?_⟩
  · simp [Oper.about, hop, resolve, Target.leads, Sem.run_pure]
  · rw [Oper.semAt_plain F _ _ (by rw [hop]; intro c hc'; cases hc')]
    simp [execOp, hop, resolve, invoke, builtin, hs, hx, hrun, Result.andThen]
    refine hK' _ _ (hK A' c' w' s1 s2 fun k hk => ?_)
    rcases r3 with ⟨rfl, rfl⟩ | ⟨_, h9⟩
    · left
      cases A' with
      | none => cases hk
      | some a => simpa [Value.ownBlock] using hk
    · right
      cases A' with
      | none => cases hk
      | some a =>
        simp only [Value.ownBlock, Option.some.injEq] at hk
        simp only [segBlock, Option.map_some, Option.some.injEq] at h9
        omega
end Go.Dol
namespace Go.Proofs.YtecpbcmpncgokaaGreat
open Go.RowKit Go.Dol Go.Shelf
attribute [local go_sem] Oper.semAt_some
set_option linter.unusedVariables false
theorem info_stC : (Tryz.prog.info? 9).map (fun i => (i.zero, i.size, i.bytes)) = some (some (.string ⟨#[]⟩), 1, 16) := by kernel_rfl
/-- What holds between two rounds of the collecting: the box, the texts that came. -/
def ClI (w : World) (K : Option Nat) (pre : List ByteArray) (W : World) : Prop :=
  ∃ A c, Blk W w.heap.size 38 [.slice A pre.length c] ∧ W.ownsRow w.heap.size 9 1 (.slice A pre.length c) pre.length (sc pre) ∧ (∀ k, K = some k → k ≠ w.heap.size ∧ k < W.heap.size ∧ (Value.slice A pre.length c).ownBlock ≠ some k) ∧ Below w.heap.size w W
/-- What the collecting hands back. -/
def RetColl (w : World) (S : List ByteArray → Prop) (e : Ending) (w' : World) : Prop :=
  ∃ (xs : List ByteArray) (A : Option Addr) (c : Nat), Hid (S xs) ∧ e = .returned (.slice A xs.length c) ∧ w'.ownsRow w.heap.size 9 1 (.slice A xs.length c) xs.length (sc xs) ∧ Below w.heap.size w w'
theorem sc_snoc (l : List ByteArray) (x : ByteArray) : sc (l ++ [x]) = sc l ++ [.string x] := by simp [sc]
set_option maxRecDepth 100000 in
set_option maxHeartbeats 1600000 in
theorem appendSeq_calls (gf : Nat) (lb : Array Value) (eg : ∀ args w, (callFunc gf args).run Tryz.prog w = .ok (.enter gf args) w) (S : List ByteArray → Prop) (N : Nat) (hN : N ≤ 3518437208880) (w : World) (hseq : SeqNew Fence.wide 4 Tryz.prog gf lb Value.string N S w) :
    CallsIn Fence.wide 5 Tryz.prog 182 #[.slice none 0 0, .func (.func gf) #[] lb] w (RetColl w S) := by
  refine callsIn_of_wp_marks Tryz.func182 rfl trivial ?_ rfl
  simp only [Tryz.ntmps182, List.size_toArray, List.length_cons, List.length_nil, Nat.reduceAdd, Nat.reduceSub, Array.replicate_succ, Array.replicate_zero, List.push_toArray, List.append_toArray, List.nil_append, List.cons_append]
  gi_wp2
  have hb0 : Below w.heap.size w (w.alloc (.cells #[.slice none 0 0] 38)) := (Below.refl _ _).alloc (Nat.le_refl _) _
  have hB0 := Blk.new w 38 [.slice none 0 0]
  have hs0 : (w.alloc (.cells #[.slice none 0 0] 38)).heap.size = w.heap.size + 1 := by simp
  refine range_new (p := 7) (q := 5) rfl (by omega) (gf := gf) (lb := lb) rfl trivial eg hseq hb0 (ClI w) ?start ?keep ?put ?assign ?body ?done
  case start =>
    intro K W hb hk
    rw [hs0] at hk
    refine ⟨none, 0, hB0.below hb (by rw [hs0]; omega), World.ownsRow_nil _ _ _ _, fun k e => ⟨?_, (hk k e).2, by simp [Value.ownBlock]⟩, hb0.trans (hb.mono hb0.size)⟩
    have := (hk k e).1
    omega
  case keep =>
    rintro K pre W W' ⟨A, c, h1, h2, h3, h4⟩ hb
    exact ⟨A, c, h1.below hb h1.lt, own_belowW h2 hb, fun k e => ⟨(h3 k e).1, Nat.lt_of_lt_of_le (h3 k e).2.1 hb.size, (h3 k e).2.2⟩, h4.next hb⟩
  case put =>
    rintro K pre W l o hl hn ⟨A, c, h1, h2, h3, h4⟩
    rw [hs0] at hl
    have hg := grownBy_putObj' W l o
    refine ⟨A, c, blk_putN h1 hn o, own_block h2 fun k hk => ?_, fun k e => ⟨(h3 k e).1, by simpa using (h3 k e).2.1, (h3 k e).2.2⟩, h4.grown hg h4.size (fun k e => by injection e with e; omega)⟩
    refine hg.block k (own_blockLt h2 k hk).2 fun e => ?_
    injection e with e
    subst e
    obtain ⟨o', ho', hc'⟩ := hn
    rcases h2.2 with ⟨e, _⟩ | ⟨g, cap, cur, e, _, h5, _⟩
    · rw [e] at hk
      cases hk
    · rw [e] at hk
      have : g = k := by simpa [Value.ownBlock] using hk
      subst this
      rw [h5] at ho'
      injection ho' with ho'
      rw [← ho'] at hc'
      cases hc'
  case assign =>
    intro l y W K hK
    gi_wp2
    exact hK
  case body =>
    rintro l K pre y W hpl ⟨A, c, h1, h2, h3, h4⟩
    have k0 : W.cell? ⟨w.heap.size, 0, none⟩ = some (.slice A pre.length c) := by rw [h1.cell]; rfl
    have hw := h1.lt
    have hr : Rd (W.alloc (.cells #[.string y] 9)) (W.heap.size + 1) 1 (some ⟨W.heap.size, 0, none⟩) 1 [.string y] := Rd.new1 W _ _
    have ho := h2.alloc (.cells #[.string y] 9)
    have hB := h1.alloc (.cells #[.string y] 9)
    have hne := own_ne ho hB (by decide)
    simp only [List.setIfInBounds_toArray, List.set_cons_succ, List.set_cons_zero]
    gi_wp2_with (first
      | (gi_at_builtin; refine wpListIn_append_at _ rfl _ _ 38 rfl w.heap.size 9 (.string ⟨#[]⟩) 16 Tryz.underlying38 info_stC rfl A pre.length c (sc pre) rfl ho _ 1 1 [.string y] rfl _ hr (by intro u hu; obtain rfl := List.mem_singleton.1 hu; rfl) (by decide) (by unfold maxLen; omega) (by omega) (by simp; omega) ?_; intro A' c' w3 ho3 hg3 hat3
         have hB3 := hB.grown hg3 (fun e => hne e.symm)
         have z3 := hB3.free 0
         have c3 : w3.cell? ⟨w.heap.size, 0, none⟩ = some (.slice A pre.length c) := by rw [hB3.cell]; rfl)
      | gi_in)
    have hs3 := hg3.size
    rw [World.size_alloc] at hs3
    have hB4 := hB3.set 0 (.slice A' (pre.length + 1) c')
    have hg4 : w3.grownBy (w3.setCell ⟨w.heap.size, 0, none⟩ (.slice A' (pre.length + 1) c')) (some w.heap.size) := grown_setCell (World.grownBy.refl w3 _) 0 _
    have hne3 := own_ne ho3 hB3 (by decide)
    have ho4 := ho3.kept hg4 (.inr hne3)
    have hl : (pre ++ [y]).length = pre.length + 1 := by simp
    refine ⟨⟨?_, fun k o hk ho9 hc9 => ?_⟩, ⟨A', c', by rw [hl]; exact hB4, by rw [hl, sc_snoc]; exact ho4, fun k e => ⟨(h3 k e).1, ?_, fun e9 => ?_⟩, ?_⟩, fun k e => ?_⟩
    · exact Nat.le_trans (by omega) hg4.size
    · have hkl := (Array.getElem?_eq_some_iff.1 ho9).1
      rw [hg4.block k (by omega) (fun e => by injection e with e; omega), hg3.block k (by simp; omega) (fun e => ?_), Below.heap_alloc _ _ k hkl]
      · exact ho9
      · rcases h2.2 with ⟨e2, _⟩ | ⟨g, cap, cur, e2, _, h5, _⟩
        · rw [e2] at e
          cases e
        · rw [e2] at e
          have : k = g := by simpa [Value.ownBlock] using e
          subst this
          rw [h5] at ho9
          injection ho9 with ho9
          rw [← ho9] at hc9
          cases hc9
    · have := hg4.size
      have := (h3 k e).2.1
      omega
    · rw [hl] at e9
      rcases hat3 k e9 with e8 | e8
      · exact (h3 k e).2.2 e8
      · have := (h3 k e).2.1
        rw [World.size_alloc] at e8
        omega
    · exact ((h4.alloc h4.size _).grown hg3 (by have := h4.size; simp; omega) (fun k e => (own_blockLt h2 k e).1)).grown hg4 (by have := h4.size; omega) (fun k e => by injection e with e; omega)
    · rw [hg4.block k (by have := (h3 k e).2.1; omega) (fun e9 => by injection e9 with e9; exact (h3 k e).1 e9), hg3.block k (by have := (h3 k e).2.1; simp; omega) (fun e9 => (h3 k e).2.2 e9.symm), Below.heap_alloc _ _ k (h3 k e).2.1]
  case done =>
    rintro Dd K xs W hD hS ⟨A, c, h1, h2, h3, h4⟩ hdef
    rw [hs0] at hD
    have k0 : W.cell? ⟨w.heap.size, 0, none⟩ = some (.slice A xs.length c) := by rw [h1.cell]; rfl
    have HS := Lib.hid hS
    gi_wp2
    refine ⟨by simp, .inl ⟨_, _, rfl, run_takeDeferred hdef, ?_⟩⟩
    have hg := grownBy_putObj' W Dd (.deferred none)
    refine ⟨_, results_tmp rfl _ _ _, xs, A, c, HS, rfl, own_block h2 fun k hk => hg.block k (own_blockLt h2 k hk).2 fun e => ?_, h4.grown hg h4.size (fun k e => by injection e with e; omega)⟩
    injection e with e
    subst e
    rcases h2.2 with ⟨e2, _⟩ | ⟨g, cap, cur, e2, _, h5, _⟩
    · rw [e2] at hk
      cases hk
    · rw [e2] at hk
      have : g = k := by simpa [Value.ownBlock] using hk
      subst this
      rw [h5] at hdef
      cases hdef
set_option maxRecDepth 100000 in
set_option maxHeartbeats 800000 in
theorem collect_calls (gf : Nat) (lb : Array Value) (eg : ∀ args w, (callFunc gf args).run Tryz.prog w = .ok (.enter gf args) w) (S : List ByteArray → Prop) (N : Nat) (hN : N ≤ 3518437208880) (w : World) (hseq : SeqNew Fence.wide 4 Tryz.prog gf lb Value.string N S w) :
    Calls Tryz.prog 114 #[.func (.func gf) #[] lb] w (RetColl w S) := by
  have HA := Lib.hid (callsIn_wide.1 (appendSeq_calls gf lb eg S N hN w hseq))
  go_enter Tryz.func114, Tryz.ntmps114
  go_wp2_with fail
  refine HA.out.mono ?_
  rintro e w1 ⟨xs, A, c, hS, rfl, ho, hb⟩
  go_wp2_with fail
  go_ret
  exact ⟨xs, A, c, hS, rfl, ho, hb⟩
end Go.Proofs.YtecpbcmpncgokaaGreat
namespace Go.Proofs.YtecpbcmpncgokaaGreat
open Go.RowKit Go.Dol
set_option linter.unusedVariables false

theorem index_digV (x : Nat) (hx : x < 256) : Lib.indexByte [48, 49, 50, 51, 52, 53, 54, 55, 56, 57, 97, 98, 99, 100, 101, 102] (x : Int).toNat.toUInt8 = digV x := by
  have h : ∀ i : _root_.Fin 256, Lib.indexByte [48, 49, 50, 51, 52, 53, 54, 55, 56, 57, 97, 98, 99, 100, 101, 102] (i.val : Int).toNat.toUInt8 = digV i.val := by decide +kernel
  exact h ⟨x, hx⟩
theorem indexD_calls (x : Nat) (hx : x < 256) (w : World) :
    Calls Tryz.prog 172 #[.string ⟨#[48, 49, 50, 51, 52, 53, 54, 55, 56, 57, 97, 98, 99, 100, 101, 102]⟩, .int .u8 x] w fun e w' => e = .returned (.int .i64 (digV x)) ∧ w' = w := by
  refine (IndexByte_calls _ x w).mono ?_
  rintro e w' ⟨rfl, h⟩
  exact ⟨by rw [← index_digV x hx], h⟩
end Go.Proofs.YtecpbcmpncgokaaGreat
namespace Go.Dol
theorem unhexL_odd : ∀ l : List UInt8, l.length % 2 = 1 → unhexL l = none
  | [], h => by simp at h
  | [_], _ => rfl
  | a :: b :: t, h => by
    rw [unhexL, unhexL_odd t (by simp at h; omega)]
    simp
end Go.Dol
namespace Go.Proofs.YtecpbcmpncgokaaGreat
open Go.RowKit Go.Dol
set_option linter.unusedVariables false

set_option maxRecDepth 100000 in
set_option maxHeartbeats 400000 in
theorem Unhex_calls (s : ByteArray) (w : World) (hl : s.size ≤ 140737488355200) :
    Calls Tryz.prog 185 #[.string s] w (RetHex w (unhexL s.data.toList)) := by
  obtain ⟨l, hls⟩ : ∃ l, l = s.data.toList := ⟨_, rfl⟩
  have hsz : s.size = l.length := by rw [hls, str_len]
  rw [← hls]
  have HSZ := Lib.hid hsz
  have HLS := Lib.hid hls
  clear hsz hls
  have hsb : (s.size : Int) = (l.length : Int) := by have := HSZ.out; omega
  by_cases hev : l.length % 2 = 0
  rotate_left
  · have hmod : (s.size : Int) % 2 = 1 := by omega
    have hmod2 : (s.size : Int).tmod 2 = 1 := by rw [Int.tmod_eq_emod_of_nonneg (by omega)]; exact hmod
    have hnone : Hid (unhexL l = none) := unhexL_odd l (by omega)
    clear hsb hev
    go_enter Tryz.func185, Tryz.ntmps185
    go_wp2_with fail
    go_ret2
    rw [hnone.out]
    exact ⟨rfl, Below.refl _ _⟩
  have hmod : (s.size : Int) % 2 = 0 := by omega
  have hmod2 : (s.size : Int).tmod 2 = 0 := by rw [Int.tmod_eq_emod_of_nonneg (by omega)]; exact hmod
  have HEV := Lib.hid hev
  clear hsb hev
  go_enter Tryz.func185, Tryz.ntmps185
  go_wp2_with fail
  go_loopw [4, 5, 6, 7] (fun out i _ _ wr => UnhexRel l w 5 out i wr) (fun _ i _ _ _ => l.length - (intOf i).toNat)
  case atStart => exact ⟨0, [], none, 0, rfl, rfl, Nat.zero_le _, rfl, rfl, by unfold Hid; simp, ⟨by simp [bc], .inl ⟨rfl, rfl⟩⟩, Below.refl _ _, Nat.le_refl _, by unfold maxLen; omega⟩
  case round =>
    obtain ⟨k, l1, A1, c1, rfl, rfl, hk, hk2, hk1, e1, ho, hbl, j1, j2⟩ := hrel
    have hs1 := hbl.size
    have HK1 := Lib.hid hk1
    have HK2 := Lib.hid hk2
    have hl1b : l1.length ≤ 140737488355200 := by have := HSZ.out; omega
    clear hk1 hk2
    by_cases hlt : k + 1 < l.length
    · have hkl : k < s.size := by rw [HSZ.out]; omega
      have hkl1 : k + 1 < s.size := by rw [HSZ.out]; omega
      have hlt0 : k < l.length := by omega
      have hki : (k : Int) < (s.size : Int) := by omega
      have hki1 : (k : Int) + 1 < (s.size : Int) := by omega
      obtain ⟨x, hx⟩ : ∃ x, x = (l[k]).toNat := ⟨_, rfl⟩
      obtain ⟨y, hy⟩ : ∃ y, y = (l[k + 1]).toNat := ⟨_, rfl⟩
      have hx256 : x < 256 := by have := (l[k]).toNat_lt; omega
      have hy256 : y < 256 := by have := (l[k + 1]).toNat_lt; omega
      have hsx : ∀ h : k < s.size, (s[k]'h).toNat = x := fun h => by rw [hx]; exact str_at HLS.out hlt0 h
      have hsy : ∀ h : k + 1 < s.size, (s[k + 1]'h).toNat = y := fun h => by rw [hy]; exact str_at HLS.out hlt h
      have HX := Lib.hid hx
      have HY := Lib.hid hy
      clear hx hy
      go_wp2_with fail
      go_quiet ((go_at_call 172; first | exact Calls.quiet_of_same (indexD_calls x hx256 _) | exact Calls.quiet_of_same (indexD_calls y hy256 _)))
      obtain ⟨wq, hwq⟩ : ∃ wq, wq = World.drewN wr nq := ⟨_, rfl⟩
      have ho' : wq.ownsRow w.heap.size 5 1 (.slice A1 l1.length c1) l1.length (bc l1) := by rw [hwq]; exact ho
      have hbl' : Below w.heap.size w wq := by rw [hwq]; exact ⟨hbl.os, hbl.tape, hbl.output, hbl.size, hbl.block⟩
      have hs' : w.heap.size ≤ wq.heap.size := hbl'.size
      rw [← hwq]
      clear hwq
      have hdrop := drop_two hlt
      have hstep : Hid (unhexL (l.drop k) = if digV x < 0 ∨ digV y < 0 then none else (unhexL (l.drop (k + 2))).map (UInt8.ofNat (16 * (digV x).toNat + (digV y).toNat) :: ·)) := by
        unfold Hid
        rw [hdrop, unhexL, HX.out, HY.out]
      have hpx := digV_lt x
      have hpy := digV_lt y
      obtain ⟨p, hp⟩ : ∃ p, p = digV x := ⟨_, rfl⟩
      obtain ⟨q, hq⟩ : ∃ q, q = digV y := ⟨_, rfl⟩
      rw [← hp, ← hq] at hstep
      rw [← hp] at hpx ⊢
      rw [← hq] at hpy ⊢
      clear hp hq hdrop hsx hsy
      by_cases hbad : p < 0 ∨ q < 0
      · have hnone : Hid (unhexL l = none) := by unfold Hid; rw [e1.out, hstep.out, if_pos hbad]; rfl
        rcases (by omega : p < 0 ∨ (0 ≤ p ∧ q < 0)) with hp | ⟨hp, hq⟩
        · go_wp2_with fail
          go_ret2
          rw [hnone.out]
          exact ⟨rfl, hbl'⟩
        · go_wp2_with fail
          go_ret2
          rw [hnone.out]
          exact ⟨rfl, hbl'⟩
      · have hp : 0 ≤ p := by omega
        have hq : 0 ≤ q := by omega
        obtain ⟨p', rfl⟩ := Int.eq_ofNat_of_zero_le hp
        obtain ⟨q', rfl⟩ := Int.eq_ofNat_of_zero_le hq
        have hp16 : p' < 16 := by omega
        have hq16 : q' < 16 := by omega
        obtain ⟨m, hm⟩ : ∃ m, m = 16 * p' + q' := ⟨_, rfl⟩
        have hmi : IntKind.u8.wrap (16 * (p' : Int) + (q' : Int)) = (m : Int) := by rw [IntKind.wrap_u8]; omega
        have hm256 : m < 256 := by omega
        have HM := Lib.hid hm
        rw [if_neg hbad] at hstep
        clear hm hbad hpx hpy hp hq
        go_wp2_with (at_builtin; refine push8 rfl (.tmp 33) (.tmp 39) rfl w.heap.size _ l1.length l1 rfl ho' rfl (by omega) (by omega) (by omega) hs' ?_)
        intro d l2 A2 c2 w2 ed e2 ho2 hb2 _ _ j3 j4
        have h2l : l2.length = l1.length + 1 := by rw [e2.out]; simp
        have H2L := Lib.hid h2l
        clear h2l
        go_wp2_with fail
        refine ⟨⟨k + 2, l2, A2, c2, rfl, by go_num, by omega, by have := HK2.out; omega, by rw [H2L.out]; have := HK1.out; omega, ?_, ho2, hbl'.trans hb2, j3, j4⟩, by simp [intOf]; omega⟩
        have hd : d = UInt8.ofNat m := byte_of ed rfl
        unfold Hid
        rw [e1.out, hstep.out, Option.map_map, e2.out, hd, HM.out]
        congr 1
        funext z
        simp
    · have hkl : l.length = k := by have := HEV.out; have := HK2.out; omega
      have hkb : k ≤ 140737488355200 := by have := HSZ.out; omega
      have hnk : ¬ ((k : Int) < (s.size : Int)) := by have := HSZ.out; omega
      have hd1 : unhexL (l.drop k) = some [] := by
        rw [List.drop_eq_nil_of_le (by omega)]
        rfl
      have hsome : Hid (unhexL l = some l1) := by unfold Hid; rw [e1.out, hd1]; simp
      have HO := Lib.hid hkl
      clear hd1 hkl
      go_wp2_with (refine conv8 rfl (.tmp 41) rfl wr.heap.size A1 l1.length c1 l1 rfl (Rd.of_own ho) ?_)
      go_ret2
      rw [hsome.out]
      exact ⟨l1, rfl, rfl, hbl⟩
end Go.Proofs.YtecpbcmpncgokaaGreat
