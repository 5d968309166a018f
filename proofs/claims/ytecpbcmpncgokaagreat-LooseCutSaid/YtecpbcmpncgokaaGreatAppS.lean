/- The walks of the layer 'loose': which files are called by an id; all ids. Conditions: a disk in good order; texts of at most 2^47 bytes. The walk of the laws' example: an object of two bytes, kept, read, got, dropped. Conditions: none. Objects as they lie in memory, one behind the other: of ten cells each. Conditions: none. append at an operation: onto a slice that the call owns and that begins anywhere in its row; onto a row, with a word on where the new one lies. Conditions: as each law names. -/
import Derived.Test.YtecpbcmpncgokaaGreatSum12
import Derived.Test.YtecpbcmpncgokaaGreatLoo2
import Derived.Test.YtecpbcmpncgokaaGreatSweepLaw
import Derived.KernelRfl
import Derived.Test.YtecpbcmpncgokaaGreatObjA
import Derived.Test.YtecpbcmpncgokaaGreatWordsA
namespace Go.Dol
open Go.RowKit
set_option linter.unusedVariables false
/-- What is left of a text behind a beginning. -/
def cutS (s p : ByteArray) : ByteArray × Bool := if s.data.toList.take p.size = p.data.toList then (⟨(s.data.toList.drop p.size).toArray⟩, true) else (s, false)
theorem pre_eq (s p : ByteArray) : ((s.extract 0 p.size).toList == p.toList) = decide (s.data.toList.take p.size = p.data.toList) := by
  rw [ByteArray.toList_eq, ByteArray.toList_eq, ByteArray.data_extract, Array.toList_extract]
  simp only [List.extract_eq_take_drop, List.drop_zero, Nat.sub_zero]
  by_cases h : s.data.toList.take p.size = p.data.toList <;> simp [h]
theorem cut_drop (s : ByteArray) (k : Nat) : s.extract k s.size = ⟨(s.data.toList.drop k).toArray⟩ := by
  apply ba_ext
  rw [ByteArray.data_extract, Array.toList_extract]
  simp only [List.extract_eq_take_drop]
  exact List.take_of_length_le (by rw [List.length_drop, str_len]; omega)
end Go.Dol
namespace Go.Proofs.YtecpbcmpncgokaaGreat
open Go.RowKit Go.Dol
set_option linter.unusedVariables false
set_option maxRecDepth 100000 in
set_option maxHeartbeats 800000 in
theorem prefixL_calls (s p : ByteArray) (w : World) (hn : s.size ≤ maxLen) (hp : p.size ≤ maxLen) :
    Calls Tryz.prog 207 #[.string s, .string p] w fun e w' => e = .returned (.bool (decide (s.data.toList.take p.size = p.data.toList))) ∧ w' = w := by
  by_cases h0 : p.size ≤ s.size
  · have d1 : decide ((s.size : Int) ≥ (p.size : Int)) = true := decide_eq_true (by omega)
    have d1' : decide ((p.size : Int) ≤ (s.size : Int)) = true := decide_eq_true (by omega)
    have d2 : (p.size : Int) ≤ (s.size : Int) := by omega
    have d3 : (0 : Int) ≤ (p.size : Int) := by omega
    go_enter Tryz.func207, Tryz.ntmps207
    go_wp2_with fail
    go_ret
    refine ⟨?_, rfl⟩
    rw [← pre_eq]
    first | rfl | simp
  · have d1 : decide ((s.size : Int) ≥ (p.size : Int)) = false := decide_eq_false (by omega)
    have d1' : decide ((p.size : Int) ≤ (s.size : Int)) = false := decide_eq_false (by omega)
    go_enter Tryz.func207, Tryz.ntmps207
    go_wp2_with fail
    go_ret
    have h9 : decide (s.data.toList.take p.size = p.data.toList) = false := decide_eq_false fun e => by
      have h1 := congrArg List.length e
      rw [List.length_take, str_len, str_len] at h1
      omega
    rw [h9]
    exact ⟨rfl, rfl⟩
set_option maxRecDepth 100000 in
set_option maxHeartbeats 800000 in
theorem cutPreL_calls (s p : ByteArray) (w : World) (hn : s.size ≤ maxLen) (hp : p.size ≤ maxLen) :
    Calls Tryz.prog 247 #[.string s, .string p] w fun e w' => e = .returned (.tuple #[.string (cutS s p).1, .bool (cutS s p).2]) ∧ w' = w := by
  have h := prefixL_calls s p w hn hp
  by_cases h0 : s.data.toList.take p.size = p.data.toList
  · rw [decide_eq_true h0] at h
    have H := Lib.hid h
    have hE : Hid (cutS s p = (⟨(s.data.toList.drop p.size).toArray⟩, true)) := if_pos h0
    have hle : p.size ≤ s.size := by
      have h1 := congrArg List.length h0
      rw [List.length_take, str_len, str_len] at h1
      omega
    have d2 : (p.size : Int) ≤ (s.size : Int) := by omega
    have d3 : (0 : Int) ≤ (p.size : Int) := by omega
    clear h0 h
    go_enter Tryz.func247, Tryz.ntmps247
    go_wp2_with fail
    refine H.out.mono ?_
    rintro e w1 ⟨rfl, hw1⟩
    obtain rfl := hw1.symm
    go_wp2_with fail
    go_ret2
    rw [hE.out, ← cut_drop]
    exact ⟨rfl, rfl⟩
  · rw [decide_eq_false h0] at h
    have H := Lib.hid h
    have hE : Hid (cutS s p = (s, false)) := if_neg h0
    clear h0 h
    go_enter Tryz.func247, Tryz.ntmps247
    go_wp2_with fail
    refine H.out.mono ?_
    rintro e w1 ⟨rfl, hw1⟩
    obtain rfl := hw1.symm
    go_wp2_with fail
    go_ret2
    rw [hE.out]
    exact ⟨rfl, rfl⟩
set_option maxRecDepth 100000 in
set_option maxHeartbeats 800000 in
theorem cutPre_calls (s p : ByteArray) (w : World) (hn : s.size ≤ maxLen) (hp : p.size ≤ maxLen) :
    Calls Tryz.prog 184 #[.string s, .string p] w fun e w' => e = .returned (.tuple #[.string (cutS s p).1, .bool (cutS s p).2]) ∧ w' = w := by
  have h := cutPreL_calls s p w hn hp
  generalize cutS s p = r at h ⊢
  have H := Lib.hid h
  clear h
  go_enter Tryz.func184, Tryz.ntmps184
  go_wp2_with fail
  refine H.out.mono ?_
  rintro e w1 ⟨rfl, hw1⟩
  obtain rfl := hw1.symm
  go_wp2_with fail
  go_ret2
  exact ⟨rfl, rfl⟩
/-- The rounds of the listing: so many names are looked at. -/
def LoIdRel (ns : List ByteArray) (A : Option Addr) (c base : Nat) (J : List ByteArray → World → Prop) (i : Value) (wr : World) : Prop :=
  ∃ k : Nat, i = .int .i64 k ∧ k ≤ ns.length ∧ Hid (J ((ns.take k).filterMap idOfN) wr) ∧ wr.ownsRow base 9 1 (.slice A ns.length c) ns.length (sc ns)
theorem idOfN_cut (n : ByteArray) : idOfN n = if (cutS n ⟨#[111, 47]⟩).2 = true then (match unhexL (cutS n ⟨#[111, 47]⟩).1.data.toList with | none => none | some q => if q.length = 32 then some (idS q) else none) else none := by
  unfold idOfN cutS
  rw [show (⟨#[111, 47]⟩ : ByteArray).size = 2 from rfl, show (⟨#[111, 47]⟩ : ByteArray).data.toList = [111, 47] from rfl]
  generalize n.data.toList = l
  by_cases h : l.take 2 = [111, 47]
  · rw [if_pos h, if_pos rfl]
    rcases l with _ | ⟨a, _ | ⟨b, t⟩⟩
    · cases h
    · cases h
    · injection h with h1 h2
      injection h2 with h2 _
      subst h1 h2
      rfl
  · rw [if_neg h, if_neg (by simp)]
    split
    · exact absurd rfl h
    · rfl
section
variable {w : World} {g m : Nat} {D : Dk}
set_option maxRecDepth 100000 in
set_option maxHeartbeats 3200000 in
theorem ids_seq (h : Dsk w g m D) (hK : OkW D) (x : Nat) (hx : w.cell? ⟨x, 0, none⟩ = some (.pointer (some ⟨g, 0, none⟩))) (hxl : x < w.heap.size) :
    SeqNew Fence.wide 4 Tryz.prog 183 #[.pointer (some ⟨x, 0, none⟩)] Value.string 3518437208880 (fun xs => xs = idsO D) w := by
  intro l J W hW hJb hY hJ0
  have hD := h.below hW
  have hx0 : W.cell? ⟨x, 0, none⟩ = some (.pointer (some ⟨g, 0, none⟩)) := by rw [hW.cell (p := ⟨x, 0, none⟩) hxl]; exact hx
  obtain ⟨ns, hns⟩ : ∃ ns, ns = D.l.map Prod.fst := ⟨_, rfl⟩
  have hnl : D.l.length = ns.length := by rw [hns, List.length_map]
  have hsm : ∀ n ∈ ns, n.size ≤ 200 := by
    intro n hn
    rw [hns] at hn
    obtain ⟨f, hf, rfl⟩ := List.mem_map.1 hn
    exact nameB_size (hK.names f hf)
  have hNm := Names_callsL hD hK.toL
  have HID : Hid (idsO D = ns.filterMap idOfN) := by unfold Hid; rw [hns]; rfl
  refine callsIn_of_wp Tryz.func183 rfl trivial ?_ rfl
  simp only [Tryz.ntmps183, List.size_toArray, List.length_cons, List.length_nil, Nat.reduceAdd, Nat.reduceSub, Array.replicate_succ, Array.replicate_zero, List.push_toArray, List.append_toArray, List.nil_append, List.cons_append]
  have HNm := Lib.hid hNm
  clear hNm
  gi_wp2
  refine ⟨trivial, ?_⟩
  refine (callsIn_wide.2 HNm.out).mono ?_
  rintro e w1 ⟨A, c, rfl, ho, hb⟩
  have hJ1 := Lib.hid (hJ0 (Value.slice A D.l.length c).ownBlock w1 hb (fun k hk => own_blockLt ho k hk))
  rw [← hns, hnl] at ho
  rw [hnl] at hJ1 ⊢
  clear hJ0 hns
  have hN := hK.len
  rw [hnl] at hN
  gi_wp2
  gi_loopw [12] (fun i wr => LoIdRel ns A c W.heap.size (J (Value.slice A ns.length c).ownBlock) i wr) (fun i _ => ns.length - (intOf i).toNat)
  case atStart => exact ⟨0, rfl, Nat.zero_le _, hJ1, ho⟩
  case round =>
    clear hJ1 ho hb
    obtain ⟨k, rfl, hk, hJ, ho⟩ := hrel
    have f1 : IntKind.i64.wrap ((k : Int) + 1) = (k : Int) + 1 := IntWalk.i64_in _ (by omega)
    by_cases hlt : k < ns.length
    · have hd : decide ((k : Int) < (ns.length : Int)) = true := decide_eq_true (by omega)
      have hd' : (k : Int) < (ns.length : Int) := by omega
      have hk0 : (0 : Int) ≤ (k : Int) := by omega
      obtain ⟨y, hy⟩ : ∃ y, ns[k]? = some y := ⟨ns[k], List.getElem?_eq_getElem hlt⟩
      have hys := hsm y (List.mem_of_getElem? hy)
      obtain ⟨bb, off, rfl, hbb, hcell⟩ := (Rd.of_own ho).at_ (by omega)
      have q0 : wr.cell? ⟨bb, off + k, none⟩ = some (.string y) := hcell _ _ (by rw [sc, List.getElem?_map, hy]; rfl)
      have hTk : Hid ((ns.take (k + 1)).filterMap idOfN = (ns.take k).filterMap idOfN ++ (idOfN y).toList) := by
        unfold Hid
        rw [List.take_add_one, hy, List.filterMap_append]
        cases h9 : idOfN y <;> simp [h9]
      have hid := idOfN_cut y
      obtain ⟨cs, cb, hcs⟩ : ∃ cs cb, cutS y ⟨#[111, 47]⟩ = (cs, cb) := ⟨_, _, rfl⟩
      have hcsz : cs.size ≤ 200 := by
        have h9 : (cutS y ⟨#[111, 47]⟩).1.size ≤ y.size := by
          unfold cutS
          split
          · show (List.drop _ _).toArray.size ≤ _
            rw [List.size_toArray, List.length_drop, str_len]
            omega
          · exact Nat.le_refl _
        rw [hcs] at h9
        exact Nat.le_trans h9 hys
      have hC := cutPre_calls y ⟨#[111, 47]⟩ wr (by unfold maxLen; omega) (by decide)
      rw [hcs] at hC hid
      simp only at hC hid
      have HC := Lib.hid hC
      have HI := Lib.hid hid
      clear hC hid hcs hy hcell
      gi_wp2
      refine ⟨trivial, ?_⟩
      refine (callsIn_wide.2 HC.out).mono ?_
      rintro e z1 ⟨rfl, hz1⟩
      obtain rfl := hz1.symm
      have hU := Unhex_calls cs wr (by omega)
      cases hu : unhexL cs.data.toList with
      | none =>
        rw [hu] at hU
        have HU := Lib.hid hU
        have hE : Hid ((ns.take (k + 1)).filterMap idOfN = (ns.take k).filterMap idOfN) := by
          unfold Hid
          rw [hTk.out, HI.out, hu]
          cases cb <;> simp
        clear hU hu
        gi_wp2
        refine ⟨trivial, ?_⟩
        refine (callsIn_wide.2 HU.out).mono ?_
        rintro e z2 ⟨rfl, hz2⟩
        have ho2 := own_belowW ho hz2
        have hJ2 := Lib.hid (hJb _ _ _ _ hJ.out hz2)
        cases cb with
        | true =>
          gi_wp2
          refine ⟨fun f h => (by cases h), ?_⟩
          gi_wp2
          exact ⟨⟨k + 1, by go_num, by omega, by rw [hE.out]; exact hJ2, ho2⟩, by simp [intOf]; omega⟩
        | false =>
          gi_wp2
          refine ⟨fun f h => (by cases h), ?_⟩
          gi_wp2
          exact ⟨⟨k + 1, by go_num, by omega, by rw [hE.out]; exact hJ2, ho2⟩, by simp [intOf]; omega⟩
      | some q =>
        rw [hu] at hU
        have HU := Lib.hid hU
        clear hU
        gi_wp2
        refine ⟨trivial, ?_⟩
        refine (callsIn_wide.2 HU.out).mono ?_
        rintro e z2 ⟨q', hq', rfl, hz2⟩
        have ho2 := own_belowW ho hz2
        have hJ2 := Lib.hid (hJb _ _ _ _ hJ.out hz2)
        cases cb with
        | false =>
          have hE : Hid ((ns.take (k + 1)).filterMap idOfN = (ns.take k).filterMap idOfN) := by
            unfold Hid
            rw [hTk.out, HI.out]
            simp
          clear hu hq'
          gi_wp2
          refine ⟨fun f h => (by cases h), ?_⟩
          gi_wp2
          exact ⟨⟨k + 1, by go_num, by omega, by rw [hE.out]; exact hJ2, ho2⟩, by simp [intOf]; omega⟩
        | true =>
          have hsz : (⟨q'.toArray⟩ : ByteArray).size = q'.length := by show q'.toArray.size = _; rw [List.size_toArray]
          by_cases h32 : q'.length = 32
          · have hT : Hid ((ns.take (k + 1)).filterMap idOfN = (ns.take k).filterMap idOfN ++ [⟨q'.toArray⟩]) := by
              unfold Hid
              rw [hTk.out, HI.out, hu]
              simp only [if_true]
              rw [← hq'.out, if_pos h32]
              rfl
            obtain ⟨s9, hs9⟩ : ∃ s9 : ByteArray, s9 = ⟨q'.toArray⟩ := ⟨_, rfl⟩
            rw [← hs9] at hT hsz ⊢
            have d3 : ((s9.size : Int) == 32) = true := by rw [hsz, h32]; rfl
            have hlen : ((ns.take k).filterMap idOfN).length < 3518437208880 := by
              have h9 := List.length_filterMap_le idOfN (ns.take k)
              rw [List.length_take] at h9
              omega
            obtain ⟨fn, tmps, assign, body, hyl, hRn⟩ := hY _ _ s9 z2 hJ2.out hlen
            clear hu hq' hs9 hsz h32 hlen
            gi_wp2
            refine hRn.mono ?_
            rintro e z3 ⟨rfl, hJ3, hsz3, hk3⟩
            have ho3 := own_block ho2 hk3
            gi_wp2
            exact ⟨⟨k + 1, by go_num, by omega, by unfold Hid; rw [hT.out]; exact hJ3, ho3⟩, by simp [intOf]; omega⟩
          · have hE : Hid ((ns.take (k + 1)).filterMap idOfN = (ns.take k).filterMap idOfN) := by
              unfold Hid
              rw [hTk.out, HI.out, hu]
              simp only [if_true]
              rw [← hq'.out, if_neg h32]
              simp
            obtain ⟨s9, hs9⟩ : ∃ s9 : ByteArray, s9 = ⟨q'.toArray⟩ := ⟨_, rfl⟩
            rw [← hs9] at hsz ⊢
            have d3 : ((s9.size : Int) == 32) = false := by rw [hsz]; simp; omega
            clear hu hq' hs9 hsz h32
            gi_wp2
            refine ⟨fun f h => (by cases h), ?_⟩
            gi_wp2
            exact ⟨⟨k + 1, by go_num, by omega, by rw [hE.out]; exact hJ2, ho2⟩, by simp [intOf]; omega⟩
    · have hd : decide ((k : Int) < (ns.length : Int)) = false := decide_eq_false (by omega)
      have hE : Hid ((ns.take k).filterMap idOfN = idsO D) := by unfold Hid; rw [HID.out, List.take_of_length_le (by omega)]
      gi_wp2
      go_end0
      exact ⟨⟨_, rfl⟩, _, _, rfl, by rw [← hE.out]; exact hJ.out⟩
theorem ids_calls (p : Option Addr) (W : World) : Calls Tryz.prog 115 #[.pointer p] W fun e w' => e = .returned (.func (.func 183) #[] #[.pointer (some ⟨W.heap.size, 0, none⟩)]) ∧ w' = W.alloc (.cells #[.pointer p] 25) := by
  go_enter Tryz.func115, Tryz.ntmps115
  go_wp2_with fail
  go_ret
  exact ⟨rfl, rfl⟩
/-- What the listing of ids hands back. -/
def RetIds (w : World) (l : List ByteArray) (e : Ending) (w' : World) : Prop :=
  ∃ (xs : List ByteArray) (A : Option Addr) (c : Nat), Hid (xs = l) ∧ e = .returned (.slice A xs.length c) ∧ w'.ownsRow w.heap.size 9 1 (.slice A xs.length c) xs.length (sc xs) ∧ Below w.heap.size w w'
theorem IdsO_calls (h : Dsk w g m D) (hK : OkW D) : Calls Tryz.prog 46 #[.pointer (some ⟨g, 0, none⟩)] w (RetIds w (idsO D)) := by
  have hb : Below w.heap.size w (w.alloc (.cells #[.pointer (some ⟨g, 0, none⟩)] 25)) := (Below.refl _ _).alloc (Nat.le_refl _) _
  have hB := Blk.new w 25 [.pointer (some ⟨g, 0, none⟩)]
  have HI := Lib.hid (ids_calls (some ⟨g, 0, none⟩) w)
  have HC := Lib.hid (collect_calls 183 #[.pointer (some ⟨w.heap.size, 0, none⟩)] (enters_of Tryz.func183 (by kernel_rfl) rfl) _ 3518437208880 (Nat.le_refl _) _ (ids_seq (h.below hb) hK w.heap.size (by rw [hB.cell]; rfl) (by simp)))
  go_enter Tryz.func46, Tryz.ntmps46
  go_wp2_with fail
  refine HI.out.mono ?_
  rintro e w1 ⟨rfl, hw1⟩
  obtain rfl := hw1.symm
  go_wp2_with fail
  refine HC.out.mono ?_
  rintro e w2 ⟨xs, A, c, hS, rfl, ho, hb2⟩
  go_wp2_with fail
  go_ret
  exact ⟨xs, A, c, hS, rfl, ho.base (by simp), hb.trans (hb2.mono (by simp))⟩
end
end Go.Proofs.YtecpbcmpncgokaaGreat
namespace Go.Proofs.YtecpbcmpncgokaaGreat
open Go.RowKit Go.Dol
set_option linter.unusedVariables false
theorem aw7_obj : isObjL geS [2, 0] = true := by
  unfold isObjL
  rw [show decO geS [2, 0] = some ⟨2, [], [], ⟨#[]⟩, [], ⟨#[]⟩, ⟨#[]⟩, ⟨#[]⟩, 0, ⟨#[]⟩⟩ by first | rfl | decide | kernel_rfl]
  rfl
theorem aw7_press : pressL [2, 0] = [2, 2, 2, 0] := by first | rfl | decide | kernel_rfl
theorem newD_calm (cap : Int) (h0 : 0 ≤ cap) (h1 : cap ≤ 1099511627776) : CalmD (newD cap) := ⟨⟨List.Pairwise.nil, h0, h1, h0, Int.le_refl (-1), (by decide : (-1 : Int) ≤ 9223372036854775807), fun f hf => (List.not_mem_nil hf).elim⟩, rfl, rfl⟩
theorem newD_FO (cap : Int) : FO (newD cap) := fun f hf => (List.not_mem_nil hf).elim
theorem newD_free (cap : Int) (h0 : 0 ≤ cap) (h1 : cap ≤ 1099511627776) : frD (newD cap) = cap := by
  show IntKind.i64.wrap (cap - 0) = cap
  rw [Int.sub_zero]
  exact IntWalk.i64_in _ (by omega)
theorem look_one (n : ByteArray) (b : List UInt8) : lookF [(n, b)] n = some b := (look_some (List.pairwise_singleton ..)).2 (List.mem_singleton.2 rfl)
/-- What keeping the two bytes leaves. -/
theorem aw7_put : ∃ D, putO geS (newD 1000) [2, 0] = (.ok (idO [2, 0]), D) ∧ CalmD D ∧ FO D ∧ D.l = [(nameO (idO [2, 0]), [2, 2, 2, 0])] ∧ getO geS D (idO [2, 0]) = .ok [2, 0] := by
  have h0 : getO geS (newD 1000) (idO [2, 0]) = .error 6 := get_none (idO_size _) rfl
  rcases put_good (newD_calm 1000 (by omega) (by omega)) (newD_FO 1000) aw7_obj (by rw [aw7_press, newD_free 1000 (by omega) (by omega)]; decide) with ⟨b, _, e, _⟩ | ⟨e, _⟩ | ⟨D, _, e, c1, c2, _, c4, _, c6, _⟩
  · rw [h0] at e
    cases e
  · rw [h0] at e
    cases e
  · refine ⟨D, e, c1, c2, ?_, c6⟩
    rw [c4, aw7_press]
    rfl
set_option maxRecDepth 100000 in
set_option maxHeartbeats 3200000 in
theorem awake7_calls (w : World) : Calls Tryz.prog 36 #[] w fun e w' => e = .returned (.bool true) ∧ Below w.heap.size w w' := by
  obtain ⟨D, hp, hC, hF, hl, hg⟩ := aw7_put
  obtain ⟨id, hid⟩ : ∃ id, id = idO [2, 0] := ⟨_, rfl⟩
  rw [← hid] at hp hl hg
  have h32 : id.size = 32 := by rw [hid]; exact idO_size _
  have hns : (nameO id).size = 66 := by rw [nameO_size, h32]
  have hlk : lookF D.l (nameO id) = some [2, 2, 2, 0] := by rw [hl]; exact look_one _ _
  have hrd : readD D (nameO id) = ([2, 2, 2, 0], 0) := by
    unfold readD
    rw [if_neg (by rw [(nameO_B h32).1]; decide), hlk]
  have hids : idsO D = [id] := by
    unfold idsO
    rw [hl]
    simp [idOfN_nameO h32]
  have hx : getO geS D ⟨#[120]⟩ = .error 1 := by
    unfold getO
    exact if_pos (by decide)
  obtain ⟨E, hdr, eC, _, _, eL, _⟩ := drop_good hC hF h32 hlk
  have hE : idsO E = [] := by
    have h1 := drop_one hC.ok.ord hlk
    rw [← eL, hl] at h1
    have h2 : E.l = [] := List.eq_nil_of_length_eq_zero (by simpa using h1)
    unfold idsO
    rw [h2]
    rfl
  have hK := hC.ok.toW
  have eK := eC.ok.toW
  have K0 := (newD_calm 1000 (by omega) (by omega)).ok.toW
  clear hid hl hlk hF hC eC eL
  go_enter Tryz.func36, Tryz.ntmps36
  go_wp2_with fail
  refine (DNew_calls 1000 w (by omega) (by omega)).mono ?_
  rintro e w1 ⟨g, m, rfl, hD1, hg1, hm1, hb1⟩
  have ha : Below w1.heap.size w1 (w1.alloc (.cells #[.int .u8 2, .int .u8 0] 5)) := (Below.refl _ _).alloc (Nat.le_refl _) _
  have hra : Rd (w1.alloc (.cells #[.int .u8 2, .int .u8 0] 5)) (w1.alloc (.cells #[.int .u8 2, .int .u8 0] 5)).heap.size 1 (some ⟨w1.heap.size, 0, none⟩) ([2, 0] : List UInt8).length (bc [2, 0]) := (Rd.new2v w1 5 (.int .u8 2) (.int .u8 0)).more (by simp)
  have hP := PutO_calls (hD1.below ha) K0 (by decide) (some ⟨w1.heap.size, 0, none⟩) [2, 0] 2 hra (by decide) (by decide) (by decide)
  rw [hp] at hP
  have HP := Lib.hid hP
  clear hP hra
  go_wp2_with fail
  refine HP.out.mono ?_
  intro e w2 h9
  obtain ⟨rfl, hD2, ht2⟩ := h9.ok
  have hb2 := Tw.new (hb1.next ha) ht2 hg1 hm1
  have HN := Lib.hid (Name_calls id w2 (by omega))
  clear HP
  go_wp2_with fail
  refine HN.out.mono ?_
  rintro e w3 ⟨rfl, hb3⟩
  have hD3 := hD2.below hb3
  have hR := Read_calls hD3 hK.ord (nameO id) (fun b hb => hK.small' hb)
  rw [hrd] at hR
  have HR := Lib.hid hR
  clear hR HN
  go_wp2_with fail
  refine HR.out.mono ?_
  rintro e w4 ⟨b4, A4, c4, hb4e, rfl, ho4, hb4⟩
  have hD4 := hD3.below hb4
  have hG := GetO_calls hD4 hK id (by omega)
  rw [hg] at hG
  have HG := Lib.hid hG
  clear hG HR
  go_wp2_with fail
  refine HG.out.mono ?_
  rintro e w5 ⟨hb5, q5, A5, c5, hq5, rfl, ho5, _, _⟩
  have hD5 := hD4.below hb5
  have hG := GetO_calls hD5 hK ⟨#[120]⟩ (by decide)
  rw [hx] at hG
  have HG2 := Lib.hid hG
  clear hG HG
  go_wp2_with fail
  refine HG2.out.mono ?_
  rintro e w6 ⟨hb6, hm6⟩
  obtain rfl := hm6
  have hD6 := hD5.below hb6
  have hb06 := (((hb2.next hb3).next hb4).next hb5).next hb6
  obtain rfl : b4 = [2, 2, 2, 0] := hb4e.out
  obtain rfl : q5 = [2, 0] := hq5.out
  have cv4 : (convert 36 9 (.slice A4 4 c4)).run Tryz.prog w6 = .ok (.string ⟨#[2, 2, 2, 0]⟩) w6 := conv8f (Rd.of_own (own_belowW (own_belowW ho4 hb5) hb6))
  have cv5 : (convert 36 9 (.slice A5 2 c5)).run Tryz.prog w6 = .ok (.string ⟨#[2, 0]⟩) w6 := conv8f (Rd.of_own (own_belowW ho5 hb6))
  have HI := Lib.hid (IdsO_calls hD6 hK)
  rw [hids] at HI
  clear HG2 hids
  go_wp2_with (first
    | (go_at_call 46; (with_reducible refine HI.out.mono ?_); rintro e w7 ⟨x7, A7, c7, hx7, rfl, ho7, hb7⟩
       have d7 : ((x7.length : Int) == 1) = true := by rw [hx7.out]; rfl
       have hD7 := hD6.below hb7
       have hb07 := hb06.next hb7
       have hDr := DropO_calls hD7 hK id (by omega)
       rw [hdr] at hDr
       have HDr := Lib.hid hDr)
    | (go_at_call 47; (with_reducible refine HDr.out.mono ?_); rintro e w8 ⟨rfl, hD8, ht8⟩
       have hb08 := Tw.new hb07 ht8 hg1 hm1
       have HI2 := Lib.hid (IdsO_calls hD8 eK)
       rw [hE] at HI2)
    | (go_at_call 46; (with_reducible refine HI2.out.mono ?_); rintro e w9 ⟨x9, A9, c9, hx9, rfl, ho9, hb9⟩
       have d9 : ((x9.length : Int) == 0) = true := by rw [hx9.out]; rfl))
  go_ret
  exact ⟨rfl, hb08.next hb9⟩
end Go.Proofs.YtecpbcmpncgokaaGreat
namespace Go.Dol
open Go.RowKit
set_option linter.unusedVariables false
/-- An object, and where its parts lie. -/
structure ObA where
  k : Int
  Ad : Option Addr
  d : List UInt8
  cd : Nat
  Ae : Option Addr
  en : List Ent
  ce : Nat
  tr : ByteArray
  Ap : Option Addr
  pa : List ByteArray
  cp : Nat
  ta : ByteArray
  na : ByteArray
  wh : ByteArray
  st : Int
  te : ByteArray
def ObA.cells (x : ObA) : List Value := [.int .i64 x.k, .slice x.Ad x.d.length x.cd, .slice x.Ae x.en.length x.ce, .string x.tr, .slice x.Ap x.pa.length x.cp, .string x.ta, .string x.na, .string x.wh, .int .i64 x.st, .string x.te]
def oc (l : List ObA) : List Value := l.flatMap ObA.cells
theorem oc_get : ∀ {l : List ObA} {i : Nat} {x : ObA}, l[i]? = some x → ∀ j, j < 10 → (oc l)[i * 10 + j]? = x.cells[j]?
  | [], i, x, h, _, _ => by simp at h
  | y :: l, 0, x, h, j, hj => by
    have hx : y = x := by simpa using h
    subst hx
    rw [oc, List.flatMap_cons, Nat.zero_mul, Nat.zero_add, List.getElem?_append_left (by show j < 10; omega)]
  | y :: l, i + 1, x, h, j, hj => by
    rw [oc, List.flatMap_cons, List.getElem?_append_right (by show 10 ≤ _; omega)]
    have e : (i + 1) * 10 + j - y.cells.length = i * 10 + j := by show (i + 1) * 10 + j - 10 = _; omega
    rw [e]
    exact oc_get (l := l) (by simpa using h) j hj
theorem oc_length (l : List ObA) : (oc l).length = l.length * 10 := by
  induction l with
  | nil => rfl
  | cons x l ih => rw [oc, List.flatMap_cons, List.length_append, List.length_cons]; show 10 + (oc l).length = _; rw [ih]; omega
/-- The cells of one. -/
theorem obs_cells {w : World} {bb off k : Nat} {l : List ObA} {x : ObA} (h : ∀ j u, (oc l)[j]? = some u → w.cell? ⟨bb, off + j, none⟩ = some u) (hx : l[k]? = some x) :
    w.cell? ⟨bb, off + k * 10, none⟩ = some (.int .i64 x.k) ∧ w.cell? ⟨bb, off + k * 10 + 1, none⟩ = some (.slice x.Ad x.d.length x.cd) ∧ w.cell? ⟨bb, off + k * 10 + 2, none⟩ = some (.slice x.Ae x.en.length x.ce) ∧ w.cell? ⟨bb, off + k * 10 + 3, none⟩ = some (.string x.tr) ∧
    w.cell? ⟨bb, off + k * 10 + 4, none⟩ = some (.slice x.Ap x.pa.length x.cp) ∧ w.cell? ⟨bb, off + k * 10 + 5, none⟩ = some (.string x.ta) ∧ w.cell? ⟨bb, off + k * 10 + 6, none⟩ = some (.string x.na) ∧ w.cell? ⟨bb, off + k * 10 + 7, none⟩ = some (.string x.wh) ∧ w.cell? ⟨bb, off + k * 10 + 8, none⟩ = some (.int .i64 x.st) ∧ w.cell? ⟨bb, off + k * 10 + 9, none⟩ = some (.string x.te) :=
  ⟨h (k * 10 + 0) _ (oc_get hx 0 (by omega)), h (k * 10 + 1) _ (oc_get hx 1 (by omega)), h (k * 10 + 2) _ (oc_get hx 2 (by omega)), h (k * 10 + 3) _ (oc_get hx 3 (by omega)), h (k * 10 + 4) _ (oc_get hx 4 (by omega)), h (k * 10 + 5) _ (oc_get hx 5 (by omega)), h (k * 10 + 6) _ (oc_get hx 6 (by omega)), h (k * 10 + 7) _ (oc_get hx 7 (by omega)), h (k * 10 + 8) _ (oc_get hx 8 (by omega)), h (k * 10 + 9) _ (oc_get hx 9 (by omega))⟩
/-- Objects that read. -/
def Obs (w : World) (B : Nat) (l : List ObA) : Prop := ∀ x ∈ l, Rd w B 1 x.Ad x.d.length (bc x.d) ∧ Rd w B 3 x.Ae x.en.length (ec x.en) ∧ Rd w B 1 x.Ap x.pa.length (pc x.pa) ∧ x.en.length ≤ 140737488355328 ∧ x.pa.length ≤ 140737488355328 ∧ Hid ((∀ e ∈ x.en, e.name.size ≤ maxLen) ∧ ∀ p ∈ x.pa, p.size ≤ maxLen)
end Go.Dol
namespace Go.Dol
open Go.RowKit
set_option linter.unusedVariables false
section
variable {P : Program} {w : World} {ops : Array Oper} {rest : List Oper} {o : Oper} {a : Act} {Q : Exit → Act → World → Prop}
theorem appVl2 (hgd : o.guard = none) (s x : Operand) (t e : TypeId) (z : Value) (bytes : Nat)
    (ho : o.op = .call { callee := .builtin .append, args := #[s, x], argTypes := #[t, t] })
    (ht : P.underlying t = some (.slice e)) (hi : (P.info? e).map (fun i => (i.zero, i.size, i.bytes)) = some (some z, 1, bytes)) (hzs : z.cells.size = 1)
    (base : Nat) (v : Value) (n : Nat) (xs : List Value) (hs : a.eval s = v) (hown : w.ownsRow base e 1 v n xs)
    (B : Nat) (A : Option Addr) (m c : Nat) (news : List Value) (hx : a.eval x = .slice A m c) (hr : Rd w B 1 A m news) (h1 : ∀ u ∈ news, u.oneCell' = true)
    (hmax : n + m ≤ maxLen) (hlen : (n + m) * bytes ≤ 140737488355328) (hbase : base ≤ w.heap.size)
    (h : ∀ (A' : Option Addr) (c' : Nat) (w' : World), w'.ownsRow base e 1 (.slice A' (n + m) c') (n + m) (xs ++ news) → Below base w w' → w.grownBy w' v.ownBlock → Hid ((Value.slice A' (n + m) c').ownBlock = v.ownBlock ∨ (Value.slice A' (n + m) c').ownBlock = some w.heap.size) →
      n + m ≤ c' → c' ≤ maxLen → wpList P ops Q rest (a.put o.dst (.slice A' (n + m) c')) w') : wpList P ops Q (o :: rest) a w := by
  refine wpList_append_rd w hgd s x _ ho base _ _ 1 bytes ht hi hzs (by decide) v n xs hs hown B A m c news hx hr h1 hmax hlen hbase ?_
  intro A' c' w' h1 h2 h3 h4 h5
  exact h _ c' w' h1 ((Below.refl _ _).grown h2 hbase (fun k hk => (hown.lt k hk).1)) h2 h3 h4 h5
end
end Go.Dol
