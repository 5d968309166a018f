/- The walk of a pack's Build. Conditions: at most 2^40 rows of bytes, each of at most 2^47 - 4096. -/
import Derived.Test.YtnaakfnbmeimaaaGreatKeep
import Derived.Test.YtnaakfnbmeimaaaGreatPack1
import Derived.Test.YtnaakfnbmeimaaaGreatRwb
import Derived.Test.YtnaakfnbmeimaaaGreatCutPre
import Derived.Deep.DeepCutAuto
set_option linter.unusedVariables false
namespace Go.Dol
open Go.RowKit
def sumS (x : RowB) : ByteArray := ⟨(sumOf x.l).toArray⟩
def sumsL (l : List RowB) : List ByteArray := l.map sumS
def preOk (ge : ByteArray → ByteArray → Bool) (l : List RowB) : Prop := (∀ x ∈ l, isObjL ge x.l = true) ∧ (l.map fun x => sumOf x.l).Nodup
theorem hasS_sums {l : List RowB} {s : List UInt8} : hasS (sumsL l) ⟨s.toArray⟩ = true ↔ s ∈ l.map fun x => sumOf x.l := by
  rw [hasS_mem]
  constructor
  · intro h
    obtain ⟨x, hx, e⟩ := List.mem_map.1 h
    refine List.mem_map.2 ⟨x, hx, ?_⟩
    unfold sumS at e
    injection e with e
    simpa using congrArg Array.toList e
  · intro h
    obtain ⟨x, hx, e⟩ := List.mem_map.1 h
    exact List.mem_map.2 ⟨x, hx, by unfold sumS; rw [e]⟩
theorem preOk_succ {ge : ByteArray → ByteArray → Bool} {l : List RowB} {k : Nat} {x : RowB} (h : preOk ge (l.take k)) (hx : l[k]? = some x) (h1 : isObjL ge x.l = true) (h2 : hasS (sumsL (l.take k)) ⟨(sumOf x.l).toArray⟩ = false) : preOk ge (l.take (k + 1)) := by
  obtain ⟨hk, e⟩ := List.getElem?_eq_some_iff.1 hx
  rw [List.take_succ_eq_append_getElem hk, e]
  refine ⟨fun y hy => ?_, ?_⟩
  · rcases List.mem_append.1 hy with hy | hy
    · exact h.1 y hy
    · obtain rfl := List.mem_singleton.1 hy
      exact h1
  · rw [List.map_append, List.nodup_append]
    refine ⟨h.2, by simp, fun a ha b hb e2 => ?_⟩
    simp only [List.map_cons, List.map_nil, List.mem_singleton] at hb
    subst hb
    subst e2
    rw [hasS_sums.2 ha] at h2
    cases h2
theorem not_ok {ge : ByteArray → ByteArray → Bool} {l : List RowB} {k : Nat} {x : RowB} (hx : l[k]? = some x) (h : hasS (sumsL (l.take k)) ⟨(sumOf x.l).toArray⟩ = true ∨ isObjL ge x.l = false) : buildL ge (l.map (·.l)) = none := by
  unfold buildL
  rw [if_neg]
  rintro ⟨_, h2, h3⟩
  have hm := List.mem_of_getElem? hx
  rcases h with h | h
  · obtain ⟨hk, e⟩ := List.getElem?_eq_some_iff.1 hx
    have h4 := hasS_sums.1 h
    rw [List.map_map] at h3
    have h5 : l = l.take k ++ x :: l.drop (k + 1) := by rw [← e, ← List.drop_eq_getElem_cons hk, List.take_append_drop]
    rw [h5, List.map_append, List.map_cons, List.nodup_append] at h3
    exact h3.2.2 _ h4 _ (List.mem_cons_self ..) rfl
  · have := h2 x.l (List.mem_map.2 ⟨x, hm, rfl⟩)
    rw [h] at this
    cases this
theorem is_ok {ge : ByteArray → ByteArray → Bool} {l : List RowB} (h : preOk ge l) (hl : l.length ≤ 4096) : packOk ge (l.map (·.l)) := by
  refine ⟨by rw [List.length_map]; exact hl, fun r hr => ?_, ?_⟩
  · obtain ⟨x, hx, rfl⟩ := List.mem_map.1 hr
    exact h.1 x hx
  · rw [List.map_map]
    exact h.2
end Go.Dol
namespace Go.Proofs.YtnaakfnbmeimaaaGreat
open Go.RowKit Go.Dol
theorem _root_.Go.Dol.Rd.apartRow {w w' : World} {B size n : Nat} {A : Option Addr} {xs : List Value} (h : Rd w B size A n xs) (hB : B ≤ w.heap.size) {row : Option Nat} (hg : w.grownBy w' row) (hne : 0 < n → ∀ j, segBlock A = some j → some j ≠ row) : Rd w' B size A n xs := by
  refine ⟨h.len, fun h0 => ?_⟩
  obtain ⟨b, off, e, hb, hc⟩ := h.at_ h0
  exact ⟨b, off, e, hb, fun j u hu => (World.cell?_of_block (hg.block b (by omega) (hne h0 b (by rw [e]; rfl)))).trans (hc j u hu)⟩
theorem seg_neT {w : World} {g base : Nat} {T : TypeId} {cs : List Value} {A : Option Addr} {n c : Nat} {xs : List Value} (hb : Blk w g T cs) (hT : T ≠ 5) (hs : Seg w base 5 1 A n c xs) : some g ≠ segRow A c := by
  intro e
  unfold segRow at e
  split at e
  · rcases hs.2.2.2 with h4 | ⟨k', off, cur, rfl, _, hh, _⟩
    · omega
    · have hk' : g = k' := by simpa [segBlock] using e
      rw [← hk'] at hh
      unfold Blk at hb
      rw [hb] at hh
      injection hh with hh
      injection hh with _ hh
      exact hT hh
  · cases e
theorem appStrS {w : World} {ops : Array Oper} {rest : List Oper} {o : Oper} {a : Act} {Q : Exit → Act → World → Prop} (hw : Region.wanted o (yielded ops a.tmps) = true) (s xo : Operand)
    (ho : o.op = .call { callee := .builtin .append, args := #[s, xo], argTypes := #[25, 9] })
    (base : Nat) (A : Option Addr) (n c : Nat) (xs : List UInt8) (hs : a.eval s = .slice A n c) (hseg : Seg w base 5 1 A n c (bc xs))
    (st : List UInt8) (hx : a.eval xo = .string ⟨st.toArray⟩) (hlen : n + st.length ≤ 140737488355328) (hbase : base ≤ w.heap.size)
    (h : ∀ (l' : List UInt8) (A' : Option Addr) (c' : Nat) (w' : World), Hid (l' = xs ++ st) → Seg w' base 5 1 A' l'.length c' (bc l') → Below base w w' → w.grownBy w' (segRow A c) → ((A' = A ∧ c' = c) ∨ segBlock A' = some w.heap.size) →
      wpList Tryz.prog ops Q rest (a.put o.dst (.slice A' l'.length c')) w') : wpList Tryz.prog ops Q (o :: rest) a w := by
  refine wpList_wanted hw fun K hK => ?_
  have hsz : (⟨st.toArray⟩ : ByteArray).size = st.length := by simp [ByteArray.size]
  have hsrc := Src.ofString (P := Tryz.prog) (w := w) Tryz.underlying9 ⟨st.toArray⟩
  rw [hsz, byteCells_bc] at hsrc
  refine wp_append_seg2 w s xo _ _ ho base _ _ 1 1 Tryz.underlying25 info_u8 rfl A n c (bc xs) hs hseg _ st.length (bc st) hx hsrc (by unfold maxLen; omega) (by omega) hbase ?_
  intro A' c' w' h1 h2 h3 _ _
  have e1 : n = xs.length := by have := hseg.1; rw [bc_length] at this; omega
  have e : n + st.length = (xs ++ st).length := by rw [List.length_append]; omega
  rw [← bc_append, e] at h1
  rw [e]
  exact hK _ _ (h _ A' c' w' rfl h1 ((Below.refl _ _).grown h2 hbase (fun k hk => (hseg.row k hk).1)) h2 (h3.imp id fun h => h.2))
theorem appBytesS {w : World} {ops : Array Oper} {rest : List Oper} {o : Oper} {a : Act} {Q : Exit → Act → World → Prop} (hw : Region.wanted o (yielded ops a.tmps) = true) (s xo : Operand)
    (ho : o.op = .call { callee := .builtin .append, args := #[s, xo], argTypes := #[25, 25] })
    (base : Nat) (A : Option Addr) (n c : Nat) (xs : List UInt8) (hs : a.eval s = .slice A n c) (hseg : Seg w base 5 1 A n c (bc xs))
    (B : Nat) (A2 : Option Addr) (m c2 : Nat) (news : List UInt8) (hx : a.eval xo = .slice A2 m c2) (hr : Rd w B 1 A2 m (bc news))
    (hlen : n + m ≤ 140737488355328) (hbase : base ≤ w.heap.size)
    (h : ∀ (l' : List UInt8) (A' : Option Addr) (c' : Nat) (w' : World), Hid (l' = xs ++ news) → Seg w' base 5 1 A' l'.length c' (bc l') → Below base w w' → w.grownBy w' (segRow A c) → ((A' = A ∧ c' = c) ∨ segBlock A' = some w.heap.size) →
      wpList Tryz.prog ops Q rest (a.put o.dst (.slice A' l'.length c')) w') : wpList Tryz.prog ops Q (o :: rest) a w := by
  refine wpList_wanted hw fun K hK => ?_
  refine wp_append_seg2 w s xo _ _ ho base _ _ 1 1 Tryz.underlying25 info_u8 rfl A n c (bc xs) hs hseg _ m (bc news) hx (Src.ofRd Tryz.underlying25 hr (bc_one _)) (by unfold maxLen; omega) (by omega) hbase ?_
  intro A' c' w' h1 h2 h3 _ _
  have e1 : n = xs.length := by have := hseg.1; rw [bc_length] at this; omega
  have e2 : m = news.length := by have := hr.len; rw [bc_length] at this; omega
  have e : n + m = (xs ++ news).length := by rw [List.length_append]; omega
  rw [← bc_append, e] at h1
  rw [e]
  exact hK _ _ (h _ A' c' w' rfl h1 ((Below.refl _ _).grown h2 hbase (fun k hk => (hseg.row k hk).1)) h2 (h3.imp id fun h => h.2))
def RetBuild (w : World) (r : Option (List UInt8)) (e : Ending) (w' : World) : Prop :=
  Below w.heap.size w w' ∧ match r with
  | none => e = .returned (.tuple #[.slice none 0 0, .int .i64 1])
  | some out => ∃ (l : List UInt8) (A : Option Addr) (c : Nat), Hid (l = out) ∧ e = .returned (.tuple #[.slice A l.length c, .int .i64 0]) ∧ w'.ownsRow w.heap.size 5 1 (.slice A l.length c) l.length (bc l) ∧ l.length ≤ c ∧ c ≤ maxLen
def SeenRel (rs : List RowB) (B : Nat) (w : World) (i : Value) (wr : World) : Prop :=
  ∃ k : Nat, i = .int .i64 k ∧ k ≤ rs.length ∧ Hid (preOk geS (rs.take k)) ∧ MapL Tryz.prog 9 wr B (seenL (sumsL (rs.take k))) ∧ Below w.heap.size w wr
def KeepRel (rs : List RowB) (g base : Nat) (w : World) (o i : Value) (wr : World) : Prop :=
  ∃ (k : Nat) (out : List UInt8) (Ao : Option Addr) (co : Nat) (pv : RowB) (d : Nat), i = .int .i64 k ∧ k ≤ rs.length ∧ o = .slice Ao out.length co ∧ wr.ownsRow base 5 1 (.slice Ao out.length co) out.length (bc out) ∧ Blk wr g 81 [.slice pv.A pv.l.length pv.c, .int .i64 d] ∧
    Hid (out ++ partsL pv.l d ((rs.drop k).map (·.l)) = bodyL (rs.map (·.l))) ∧ Rd wr base 1 pv.A pv.l.length (bc pv.l) ∧ pv.l.length ≤ pv.c ∧ pv.c ≤ maxLen ∧ pv.l.length ≤ 2097152 ∧ d ≤ 7 ∧ out.length ≤ 100 + k * 2097252 ∧ Below base w wr
set_option maxRecDepth 100000 in
set_option maxHeartbeats 6400000 in
theorem Build_calls (A : Option Addr) (rs : List RowB) (c : Nat) (w : World) (hr : Rd w w.heap.size 1 A rs.length (rc rs)) (hrs : Rws w w.heap.size rs) (hl : rs.length ≤ 1099511627776) (hsz : ∀ x ∈ rs, x.l.length ≤ 140737488351232) :
    Calls Tryz.prog 11 #[.slice A rs.length c] w (RetBuild w (buildL geS (rs.map (·.l)))) := by
  obtain ⟨r, hre⟩ : ∃ r, r = buildL geS (rs.map (·.l)) := ⟨_, rfl⟩
  rw [← hre]
  have HR := Lib.hid hre
  have HSZ := Lib.hid hsz
  clear hre hsz
  have hmm := @run_makeMap Tryz.prog
  go_enter Tryz.func11, Tryz.ntmps11
  go_wp2_with fail
  clear hmm
  obtain ⟨B, hB⟩ : ∃ B, B = w.heap.size := ⟨_, rfl⟩
  obtain ⟨w0, hw0⟩ : ∃ w0, w0 = w.alloc (.map #[] 0) := ⟨_, rfl⟩
  have hm0 : MapL Tryz.prog 9 w0 B [] := by rw [hw0, hB]; exact MapL.new w
  have hb0 : Below w.heap.size w w0 := by rw [hw0]; exact (Below.refl _ _).alloc (Nat.le_refl _) _
  rw [← hw0, ← hB]
  have HB := Lib.hid hB
  clear hw0 hB
  go_loopw [17] (fun i wr => SeenRel rs B w i wr) (fun i _ => rs.length - (intOf i).toNat)
  case atStart => exact ⟨0, rfl, Nat.zero_le _, Lib.hid ⟨fun x hx => by simp at hx, by simp⟩, hm0, hb0⟩
  case round =>
    clear hm0 hb0
    obtain ⟨k, rfl, hk, hup, hmap, hbel⟩ := hrel
    have hs := hbel.size
    have f1 : IntKind.i64.wrap ((k : Int) + 1) = (k : Int) + 1 := IntWalk.i64_in _ (by omega)
    by_cases h1 : k < rs.length
    · have d1 : decide ((k : Int) < (rs.length : Int)) = true := decide_eq_true (by omega)
      have d1' : (k : Int) < (rs.length : Int) := by omega
      have hk0 : (0 : Int) ≤ (k : Int) := by omega
      have hlen1 : rs.length ≤ 9223372036854775807 := by omega
      have hrw := hr.below hbel
      obtain ⟨bb, off, rfl, hbb, hcell⟩ := hrw.at_ (by omega)
      have g1 : rs[k]? = some rs[k] := List.getElem?_eq_getElem h1
      obtain ⟨x, hx⟩ : ∃ x, x = rs[k] := ⟨_, rfl⟩
      rw [← hx] at g1
      have q0 := hcell _ _ (rc_get g1)
      have hxm := List.mem_of_getElem? g1
      obtain ⟨hxr, hxc, hxm2⟩ := hrs x hxm
      have hxl := HSZ.out x hxm
      have hSum := Lib.hid (Sum_calls x.A x.l x.c wr ((hxr.below hbel).more hs) (by omega))
      have HG1 := Lib.hid g1
      have htk : Hid (sumsL (rs.take (k + 1)) = sumsL (rs.take k) ++ [⟨(sumOf x.l).toArray⟩]) := by unfold Hid sumsL; rw [List.take_succ_eq_append_getElem h1, List.map_append, ← hx]; rfl
      clear hx hcell g1 hxm
      go_wp2_with fail
      refine hSum.out.mono ?_
      rintro e w1 ⟨sm, hsm, rfl, hb1⟩
      rw [← hsm.out] at htk
      have hsm32 : (⟨sm.toArray⟩ : ByteArray).size ≤ maxLen := by
        show sm.toArray.size ≤ _
        have := sumOf_length x.l
        rw [← hsm.out] at this
        simp [this]
        unfold maxLen
        omega
      have hkey := WideMaps.keyOf_string_mk Tryz.underlying9 hsm32
      have hmap1 := hmap.belowW hb1
      have hbel1 := hbel.next hb1
      have hs1 := hbel1.size
      obtain ⟨al1, w2, hup1, hm1, hput1, hg1⟩ := hmap1.update str_keyed Tryz.underlying76 hkey (.int .i64 1)
      obtain ⟨al2, w3, hup2, hm2, hput2, hg2⟩ := hmap1.update str_keyed Tryz.underlying76 hkey (.int .i64 2)
      cases hh : hasS (sumsL (rs.take k)) ⟨sm.toArray⟩ with
      | true =>
        have hr0 : Hid (r = none) := by unfold Hid; rw [HR.out]; exact not_ok HG1.out (.inl (by rw [← hsm.out]; exact hh))
        have hlk : (Instr.lookup 76 (.map (some B)) (.string ⟨sm.toArray⟩) false).run Tryz.prog w1 = .ok (.int .i64 1) w1 := by
          rcases hmap1.look str_keyed Tryz.underlying76 (int_zero w1) hkey false with ⟨h2, _⟩ | ⟨v, h2, h3⟩
          · exact absurd rfl (h2 _ (seen_some hh))
          · rw [seen_val h2] at h3; exact h3
        have hlk2 : (Instr.lookup 76 (.map (some B)) (.string ⟨sm.toArray⟩) false).run Tryz.prog w3 = .ok (.int .i64 2) w3 := by
          rcases hm2.look str_keyed Tryz.underlying76 (int_zero w3) hkey false with ⟨h2, _⟩ | ⟨v, h2, h3⟩
          · exact absurd rfl (h2 _ hput2.mem)
          · rw [key_one hm2.nodup h2 hput2.mem] at h3; exact h3
        have hb3 : Below w.heap.size w w3 := hbel1.trans (below_of_grown hg2 (by have := HB.out; omega) hs1)
        clear hup1 hm1 hput1 hg1 hh hm2 hput2 hg2
        go_wp2_with fail
        go_ret2
        rw [hr0.out]
        exact ⟨hb3, rfl⟩
      | false =>
        have hlk : (Instr.lookup 76 (.map (some B)) (.string ⟨sm.toArray⟩) false).run Tryz.prog w1 = .ok (.int .i64 0) w1 := by
          rcases hmap1.look str_keyed Tryz.underlying76 (int_zero w1) hkey false with ⟨h2, h3⟩ | ⟨v, h2, h3⟩
          · exact h3
          · exact absurd rfl (seen_none hh _ h2)
        have hlk1 : (Instr.lookup 76 (.map (some B)) (.string ⟨sm.toArray⟩) false).run Tryz.prog w2 = .ok (.int .i64 1) w2 := by
          rcases hm1.look str_keyed Tryz.underlying76 (int_zero w2) hkey false with ⟨h2, _⟩ | ⟨v, h2, h3⟩
          · exact absurd rfl (h2 _ hput1.mem)
          · rw [key_one hm1.nodup h2 hput1.mem] at h3; exact h3
        have hb2 : Below w.heap.size w w2 := hbel1.trans (below_of_grown hg1 (by have := HB.out; omega) hs1)
        have hs2 := hb2.size
        have hal : Hid (al1 = seenL (sumsL (rs.take (k + 1)))) := by
          unfold Hid
          rcases hput1 with ⟨_, rfl⟩ | ⟨l1, r1, v0, e1, _⟩
          · rw [htk.out]; simp [seenL]
          · exact absurd rfl (seen_none hh (Value.string ⟨sm.toArray⟩, v0) (by rw [e1]; simp))
        have hIs := isObject_calls x.A x.l x.c w2 ((hxr.below hb2).more hs2) hxc hxm2 hxl
        have HH : Hid (hasS (sumsL (rs.take k)) ⟨(sumOf x.l).toArray⟩ = false) := by rw [← hsm.out]; exact hh
        clear hup2 hm2 hput2 hg2 hh hput1 hg1
        cases hi : isObjL geS x.l with
        | false =>
          have hr0 : Hid (r = none) := by unfold Hid; rw [HR.out]; exact not_ok HG1.out (.inr hi)
          rw [hi] at hIs
          have HIs := Lib.hid hIs
          clear hIs hi
          go_wp2_with (go_at_call 25; refine HIs.out.mono ?_; rintro e w5 ⟨rfl, hb5⟩)
          go_ret2
          rw [hr0.out]
          exact ⟨hb2.next hb5, rfl⟩
        | true =>
          have HU : Hid (preOk geS (rs.take (k + 1))) := preOk_succ hup.out HG1.out hi HH.out
          rw [hi] at hIs
          have HIs := Lib.hid hIs
          clear hIs hi
          go_wp2_with (go_at_call 25; refine HIs.out.mono ?_; rintro e w5 ⟨rfl, hb5⟩)
          exact ⟨⟨k + 1, by go_num, by omega, HU, by rw [← hal.out]; exact hm1.belowW hb5, hb2.next hb5⟩, by simp [intOf]; omega⟩
    · have d1 : decide ((k : Int) < (rs.length : Int)) = false := decide_eq_false (by omega)
      have d1' : ¬ (k : Int) < (rs.length : Int) := by omega
      have hkl : k = rs.length := by omega
      have hok : Hid (preOk geS rs) := by unfold Hid; have := hup.out; rw [hkl, List.take_length] at this; exact this
      clear hkl hmap hup
      by_cases h4 : rs.length ≤ 4096
      · have d4 : decide ((4096 : Int) < (rs.length : Int)) = false := decide_eq_false (by omega)
        have d4' : ¬ (4096 : Int) < (rs.length : Int) := by omega
        have HOK : Hid (packOk geS (rs.map (·.l))) := is_ok hok.out h4
        have kc := magic_conv wr
        have hbv : Below w.heap.size w (wr.alloc (.cells #[.int .u8 68, .int .u8 80, .int .u8 75, .int .u8 49] 5 (4, 5))) := hbel.alloc hs _
        have hPN := PutNum_calls (some ⟨wr.heap.size, 0, none⟩) mgL 4 rs.length (wr.alloc (.cells #[.int .u8 68, .int .u8 80, .int .u8 75, .int .u8 49] 5 (4, 5))) ((magic_rd wr).more (by simp)) (by decide)
        have hcl : clampN (rs.length : Int) = rs.length := by unfold clampN; omega
        rw [hcl] at hPN
        have HPN := Lib.hid hPN
        clear hPN hcl
        go_wp2_with fail
        refine HPN.out.mono ?_
        rintro e v1 ⟨o1, A1, c1, ho1, rfl, hO1, hb1, i1, i2⟩
        have hbv1 := hbv.next hb1
        have hsv := hbv1.size
        have hbw1 : w.heap.size ≤ (wr.alloc (.cells #[.int .u8 68, .int .u8 80, .int .u8 75, .int .u8 49] 5 (4, 5))).heap.size := hbv.size
        have hO1 := hO1.base hbw1
        have HO1 : Hid (o1 = mgL ++ num rs.length) := ho1
        have ho1n : o1.length ≤ 100 := by
          rw [HO1.out, List.length_append]
          have h1 := num_length_le 8 rs.length (by omega)
          have h2 : mgL.length = 4 := rfl
          omega
        have hBc := Blk.new v1 81 [.slice none 0 0, .int .i64 0]
        obtain ⟨g, hg⟩ : ∃ g, g = v1.heap.size := ⟨_, rfl⟩
        obtain ⟨v2, hv2⟩ : ∃ v2, v2 = v1.alloc (.cells #[.slice none 0 0, .int .i64 0] 81) := ⟨_, rfl⟩
        have hBc2 : Blk v2 g 81 [.slice none 0 0, .int .i64 0] := by rw [hv2, hg]; exact hBc
        have hbv2 : Below w.heap.size w v2 := by rw [hv2]; exact hbv1.alloc hsv _
        have hO2 : v2.ownsRow w.heap.size 5 1 (.slice A1 o1.length c1) o1.length (bc o1) := by rw [hv2]; exact hO1.alloc _
        have hgw : w.heap.size ≤ g := by omega
        have hst : KeepRel rs g w.heap.size w (.slice A1 o1.length c1) (.int .i64 0) v2 := ⟨0, o1, A1, c1, ⟨[], none, 0⟩, 0, rfl, Nat.zero_le _, rfl, hO2, hBc2, by unfold Hid bodyL; rw [HO1.out, List.length_map, List.drop_zero, List.append_assoc]; rfl, Rd.nil, Nat.le_refl _, by show 0 ≤ maxLen; unfold maxLen; omega, by simp, by omega, by omega, hbv2⟩
        have HST := Lib.hid hst
        clear hst hBc hBc2 hbv2 hO2 hbv1 hb1 hbv HPN kc hO1 hbel HB
        go_wp2_with fail
        rw [← hv2, ← hg]
        clear hv2 hg hsv hbw1
        go_loopw [8, 49] (fun o i wr => KeepRel rs g w.heap.size w o i wr) (fun _ i _ => rs.length - (intOf i).toNat)
        case atStart => exact HST.out
        case round =>
          clear HST
          obtain ⟨k, out, Ao, co, pv, d, rfl, hk, rfl, hown, hblk, heq, hpr, hpc, hpm, hpl, hd, hol, hbel⟩ := hrel
          have hs := hbel.size
          have f1 : IntKind.i64.wrap ((k : Int) + 1) = (k : Int) + 1 := IntWalk.i64_in _ (by omega)
          by_cases h1 : k < rs.length
          · have d1 : decide ((k : Int) < (rs.length : Int)) = true := decide_eq_true (by omega)
            have d1' : (k : Int) < (rs.length : Int) := by omega
            have hk0 : (0 : Int) ≤ (k : Int) := by omega
            have hlen1 : rs.length ≤ 9223372036854775807 := by omega
            have hrw := hr.below hbel
            obtain ⟨bb, off, rfl, hbb, hcell⟩ := hrw.at_ (by omega)
            have g1 : rs[k]? = some rs[k] := List.getElem?_eq_getElem h1
            obtain ⟨x, hx⟩ : ∃ x, x = rs[k] := ⟨_, rfl⟩
            rw [← hx] at g1
            have q0 := hcell _ _ (rc_get g1)
            have hxm := List.mem_of_getElem? g1
            obtain ⟨hxr, hxc, hxm2⟩ := hrs x hxm
            have hxo := hok.out.1 x hxm
            have hx2 := obj_few x.l hxo
            have hx0 : 0 < x.l.length := by obtain ⟨a, t, e⟩ := obj_head hxo; rw [e]; simp
            have hdr : Hid (rs.drop k = x :: rs.drop (k + 1)) := by unfold Hid; rw [List.drop_eq_getElem_cons h1, hx]
            have HX2 := Lib.hid hx2
            have hklen := keepL_len pv.l d x.l
            have hkk := keepL_kind pv.l d x.l
            have hkd := keepL_depth (prev := pv.l) (raw := x.l) hd
            obtain ⟨kk, bk, hkb⟩ : ∃ kk bk, keepL pv.l d x.l = (kk, bk) := ⟨_, _, rfl⟩
            have hkc := keep_calls w.heap.size g hgw pv.A pv.l pv.c d x.A x.l x.c wr hblk (hpr.more hgw) hpc hpm (hxr.below hbel) hxc hxm2 hpl hx2 hx0 hd
            have hpt : Hid (partsL pv.l d (x.l :: (rs.drop (k + 1)).map (·.l)) = partL x.l (kk, bk) ++ partsL x.l (nextD d kk) ((rs.drop (k + 1)).map (·.l))) := by unfold Hid; rw [partsL, hkb]
            rw [hkb] at hkc hklen hkk hkd
            have hkp := Lib.hid hkc
            clear hkb hkc
            have hxrw := hxr.below hbel
            clear hx hcell g1 hxm hxo hrw
            go_wp2_with fail
            refine hkp.out.mono ?_
            rintro e v3 ⟨b, A3, c3, hb3, rfl, hr3, hb3c, hb3m, hB3, hg3, hnn⟩
            have hs3 := hg3.size
            have hown3 := own_other hown hblk (by decide) hg3
            have hbel3 : Below w.heap.size w v3 := hbel.trans (below_of_grown hg3 hgw hs)
            have hSum := Lib.hid (Sum_calls x.A x.l x.c v3 ((hxrw.grown hg3 hs (fun j hj => by injection hj with hj; omega)).more (by omega)) (by have := HX2.out; omega))
            have hseg3 := Seg.of_own hown3
            have hgo : ∀ gO, segRow Ao co = some gO → w.heap.size ≤ gO ∧ gO < wr.heap.size := fun gO h => (Seg.of_own hown).row gO h
            have wu : IntKind.u8.wrap (kk : Int) = (kk : Int) := by
              have : kk ≤ 2 := hkk
              unfold IntKind.wrap
              simp [IntKind.bits, IntKind.signed]
              omega
            have hbl : b.length ≤ 2097152 := by rw [hb3.out]; have := HX2.out; have h9 : bk.length ≤ x.l.length := hklen; show bk.length ≤ _; omega
            have hkk2 : kk ≤ 2 := hkk
            have hj3 : 0 < b.length → ∀ j, segBlock A3 = some j → j < v3.heap.size := fun h0 j hj => by
              obtain ⟨b0, o0, e0, h9, _⟩ := hr3.at_ h0
              rw [e0] at hj
              injection hj with hj
              have e9 : b0 = j := hj
              omega
            have hap : 0 < b.length → ∀ j, segBlock A3 = some j → some j ≠ segRow Ao co := fun h0 j hj e9 => by
              have h8 := hgo j e9.symm
              rcases hnn h0 j hj with h9 | h9 <;> omega
            have HJ3 := Lib.hid hj3
            have HAP := Lib.hid hap
            clear hklen hkk hx2 hj3 hap hnn hgo
            go_wp2_with (first
              | (go_at_call 17; refine hSum.out.mono ?_; rintro e v4 ⟨sm, hsm, rfl, hb4⟩; have hsm32 : sm.length ≤ 32 := (by rw [hsm.out, sumOf_length]; exact Nat.le_refl _); have hs4 := hb4.size)
              | (at_builtin; refine appStrS rfl (.tmp 59) (.tmp 61) rfl w.heap.size Ao out.length co out rfl (hseg3.belowW hb4) sm rfl (by omega) (by omega) ?_; intro l5 A5 c5 v5 hl5 hs5 hb5 hg5 hA5; have hs5' := hb5.size; have hl5n : l5.length ≤ out.length + 32 := (by rw [hl5.out, List.length_append]; omega))
              | (at_builtin; refine appBytesS rfl (.tmp 62) (.tmp 65) rfl w.heap.size A5 l5.length c5 l5 rfl (hs5.alloc _) (v5.heap.size + 1) _ 1 1 [UInt8.ofNat kk] rfl (Rd.one v5 _ kk (by omega) (by omega)) (by omega) (by simp; omega) ?_; intro l6 A6 c6 v6 hl6 hs6 hb6 hg6 hA6;
                 have hr5 : Rd v5 v3.heap.size 1 A3 b.length (bc b) := (hr3.below hb4).apartRow hs4 hg5 HAP.out;
                 have hr6 : Rd v6 v3.heap.size 1 A3 b.length (bc b) := ((hr5.alloc (by omega) (.cells #[.int .u8 (kk : Int)] 5)).apartRow (by simp; omega) hg6 (fun h0 j hj e9 => (hA5.elim (fun h9 => HAP.out h0 j hj (by rw [← h9.1, ← h9.2]; exact e9)) (fun h9 => (by unfold segRow at e9; split at e9; (rw [h9] at e9; injection e9 with e9; have := HJ3.out h0 j hj; omega); cases e9)))));
                 have hcv := conv8f (c := c3) hr6))
            have hbsz : (⟨b.toArray⟩ : ByteArray).size = b.length := by simp [ByteArray.size]
            have hl6n : l6.length ≤ out.length + 33 := by rw [hl6.out, List.length_append]; simp; omega
            have hbT : (⟨b.toArray⟩ : ByteArray).data.toList = b := by simp
            refine (PutText_calls A6 l6 c6 ⟨b.toArray⟩ v6 hs6.rd (by rw [hbsz]; omega)).mono ?_
            rw [hbT]
            rintro e v7 ⟨l7, A7, c7, hl7, rfl, ho7, hb7, i7, i8⟩
            have hs7 := hb7.size
            have hs6' := hb6.size
            have hB4 := hB3.below hb4 hB3.lt
            have hB5 := hB4.grown hg5 (seg_neT hB4 (by decide) (hseg3.belowW hb4))
            have hB6 := (hB5.alloc (.cells #[.int .u8 (kk : Int)] 5)).grown hg6 (seg_neT (hB5.alloc (.cells #[.int .u8 (kk : Int)] 5)) (by decide) (hs5.alloc (.cells #[.int .u8 (kk : Int)] 5)))
            have hB7 := hB6.below hb7 hB6.lt
            have hbel7 : Below w.heap.size w v7 := (((hbel3.trans (hb4.mono (by omega))).trans (hb5.trans ((Below.refl _ _).alloc (by omega) _))).trans hb6).trans (hb7.mono (by simp at hs6'; omega))
            have hsz67 : v5.heap.size + 1 ≤ v6.heap.size := by simpa using hs6'
            have htl := num_length_le 8 b.length (by omega)
            have hl7n : l7.length ≤ l6.length + 9 + b.length := by rw [hl7.out, List.length_append]; unfold text; rw [List.length_append]; omega
            have HEQ : Hid (l7 ++ partsL x.l (nextD d kk) ((rs.drop (k + 1)).map (·.l)) = bodyL (rs.map (·.l))) := by
              unfold Hid
              rw [← heq.out, hdr.out, List.map_cons, hpt.out, hl7.out, hl6.out, hl5.out, hsm.out]
              unfold partL
              rw [show b = bk from hb3.out]
              simp only [List.append_assoc, List.cons_append, List.nil_append]
            have hkd2 : nextD d kk ≤ 7 := hkd
            have hx2 := HX2.out
            have hxr7 := hxr.below hbel7
            have hst : KeepRel rs g w.heap.size w (.slice A7 l7.length c7) (.int .i64 ((k + 1 : Nat) : Int)) v7 :=
              ⟨k + 1, l7, A7, c7, x, nextD d kk, rfl, by omega, rfl, ho7.base (by omega), hB7, HEQ, hxr7, hxc, hxm2, hx2, hkd2, by omega, hbel7⟩
            have HST := Lib.hid hst
            clear hst hB4 hB5 hB6 hB7 hbel7 hxr7 HEQ hkd2 hx2 hl7n htl hs6 hs5 hb6 hb5 hb4 hr6 hr5 hcv hg5 hg6 hA5 hA6 HJ3 HAP hseg3 hSum hkp hxr hxrw ho7 hr3 hown3 hown hblk heq hpt hdr hpr
            go_wp2_with fail
            exact ⟨by rw [show ((k : Int) + 1) = ((k + 1 : Nat) : Int) by omega]; exact HST.out, by simp [intOf]; omega⟩
          · have d1 : decide ((k : Int) < (rs.length : Int)) = false := decide_eq_false (by omega)
            have d1' : ¬ (k : Int) < (rs.length : Int) := by omega
            have hbody : Hid (out = bodyL (rs.map (·.l))) := by
              unfold Hid
              rw [← heq.out, List.drop_eq_nil_of_le (by omega), List.map_nil, partsL, List.append_nil]
            have hSum := Lib.hid (Sum_calls Ao out co wr (Rd.of_own hown) (by omega))
            have hr0 : Hid (r = some (bodyL (rs.map (·.l)) ++ sumOf (bodyL (rs.map (·.l))))) := by unfold Hid; rw [HR.out]; unfold buildL; rw [if_pos HOK.out]
            clear heq hpr hblk
            go_wp2_with (first
              | (go_at_call 17; refine hSum.out.mono ?_; rintro e v4 ⟨sm, hsm, rfl, hb4⟩; have hsm32 : sm.length ≤ 32 := (by rw [hsm.out, sumOf_length]; exact Nat.le_refl _); have hs4 := hb4.size)
              | (at_builtin; refine app8s rfl (.tmp 72) (.tmp 74) rfl w.heap.size _ out.length out rfl (own_belowW hown hb4) ⟨sm.toArray⟩ rfl (by show out.length + sm.toArray.size ≤ _; simp; omega) (by omega) ?_; intro l5 A5 c5 v5 hl5 hs5 hb5 hg5 i5 i6))
            go_ret2
            rw [hr0.out]
            exact ⟨(hbel.trans (hb4.mono hs)).trans hb5, l5, A5, c5, by unfold Hid; rw [hl5.out, hbody.out, hsm.out, hbody.out], rfl, hs5, i5, i6⟩
      · have d4 : decide ((4096 : Int) < (rs.length : Int)) = true := decide_eq_true (by omega)
        have d4' : (4096 : Int) < (rs.length : Int) := by omega
        have hr0 : Hid (r = none) := by unfold Hid; rw [HR.out]; unfold buildL; rw [if_neg (fun h => by have := h.1; rw [List.length_map] at this; omega)]
        go_wp2_with fail
        go_ret2
        rw [hr0.out]
        exact ⟨hbel, rfl⟩
end Go.Proofs.YtnaakfnbmeimaaaGreat
