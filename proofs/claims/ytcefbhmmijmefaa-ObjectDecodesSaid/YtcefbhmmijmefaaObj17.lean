/- The walks of the layer 'object', its seventeenth part: Decode. Conditions: bytes of at most 2^47 - 4096. -/
import Derived.Test.YtcefbhmmijmefaaObj16
namespace Go.Proofs.Ytcefbhmmijmefaa
open Go.RowKit Go.Dol
set_option linter.unusedVariables false

/-- What Decode hands back: an object whose parts lie in memory that it made, or that there is none. -/
def RetDec (w : World) (r : Option Go.Dol.Obj) (e : Ending) (w' : World) : Prop :=
  match r with
  | none => e = .returned (.tuple #[.agg #[.int .i64 0, .slice none 0 0, .slice none 0 0, .string ⟨#[]⟩, .slice none 0 0, .string ⟨#[]⟩, .string ⟨#[]⟩, .string ⟨#[]⟩, .int .i64 0, .string ⟨#[]⟩], .int .i64 2]) ∧ Below w.heap.size w w'
  | some o => ∃ (k : Int) (Ad : Option Addr) (d : List UInt8) (cd : Nat) (Ae : Option Addr) (en : List Ent) (ce : Nat) (tr : ByteArray) (Ap : Option Addr) (pa : List ByteArray) (cp : Nat) (ta na wh : ByteArray) (st : Int) (te : ByteArray),
      Hid (o = ⟨k, d, en, tr, pa, ta, na, wh, st, te⟩) ∧ e = .returned (.tuple #[.agg #[.int .i64 k, .slice Ad d.length cd, .slice Ae en.length ce, .string tr, .slice Ap pa.length cp, .string ta, .string na, .string wh, .int .i64 st, .string te], .int .i64 0]) ∧
      RdN w' w.heap.size 1 Ad d.length (bc d) ∧ RdN w' w.heap.size 3 Ae en.length (ec en) ∧ RdN w' w.heap.size 1 Ap pa.length (pc pa) ∧ Below w.heap.size w w' ∧ en.length ≤ 140737488355328 ∧ pa.length ≤ 140737488355328 ∧ Hid (∀ p ∈ pa, p.size ≤ maxLen)
theorem o_one (k : Int) (vd ve : Value) (tr : ByteArray) (vp : Value) (ta na wh : ByteArray) (st : Int) (te : ByteArray) (hd : vd.oneCell' = true) (he : ve.oneCell' = true) (hp : vp.oneCell' = true) : ∀ v ∈ [Value.int .i64 k, vd, ve, .string tr, vp, .string ta, .string na, .string wh, .int .i64 st, .string te], v.oneCell' = true := by
  intro v hv
  simp only [List.mem_cons, List.not_mem_nil, or_false] at hv
  rcases hv with rfl | rfl | rfl | rfl | rfl | rfl | rfl | rfl | rfl | rfl <;> first | rfl | assumption

/-- The bytes of an object that may be are few. -/
theorem told_small {o : Go.Dol.Obj} (h : toldB o.who o.stamp o.text = true) : (toldL o).length ≤ 3000 := by
  obtain ⟨h1, h2, h3, h4⟩ := told_parts h
  have e1 := tx_length (s := o.who) (by omega)
  have e2 := tx_length (s := o.text) (by omega)
  have e3 := num_length_le 8 (clampN o.stamp) (by have := clampN_le o.stamp; unfold mostNum at this; omega)
  unfold toldL
  simp only [List.length_append]
  omega
theorem enc_small {o : Go.Dol.Obj} (h : checkB geS o = true) : (encO o).length ≤ 5000000000 := by
  unfold encO
  rw [List.length_cons]
  rcases check_kind h with e | e | e | e
  · rw [if_pos e]
    have := check1_parts e h
    omega
  · rw [if_neg (by omega), if_pos e]
    have h1 := ents_small (check2_parts e h)
    have h2 := (entsB_parts (check2_parts e h)).2
    have h3 := num_length_le 8 o.ents.length (by omega)
    unfold entsL
    rw [List.length_append]
    omega
  · rw [if_neg (by omega), if_neg (by omega), if_pos e]
    obtain ⟨h1, h2, h3⟩ := check3_parts e h
    have h4 := pars_small h2
    have h5 := (parsB_parts h2).2
    have h6 := num_length_le 8 o.pars.length (by omega)
    have h7 := told_small h3
    have h8 := str_len o.tree
    unfold parsN at h4
    unfold parsL
    simp only [List.length_append]
    omega
  · rw [if_neg (by omega), if_neg (by omega), if_neg (by omega)]
    obtain ⟨h1, h2, h3⟩ := check4_parts e h
    have h7 := told_small h3
    have h8 := str_len o.target
    have h9 := tx_length (s := o.name) (by omega)
    simp only [List.length_append]
    omega

set_option maxRecDepth 100000 in
theorem Decode0_calls (A : Option Addr) (c : Nat) (w : World) : Calls Try.prog 36 #[.slice A 0 c] w (RetDec w none) := by
  have hb1 : Below w.heap.size w (w.alloc (.cells #[.int .i64 0, .slice none 0 0, .slice none 0 0, .string ⟨#[]⟩, .slice none 0 0, .string ⟨#[]⟩, .string ⟨#[]⟩, .string ⟨#[]⟩, .int .i64 0, .string ⟨#[]⟩] 43)) := (Below.refl _ _).alloc (Nat.le_refl _) _
  have hB := Blk.new w 43 zcells
  go_enter Try.func36, Try.ntmps36
  go_wp2_with ((refine wpList_store_blk (by rfl) _ (.tmp 2) (.tmp 11) rfl w.heap.size zcells rfl rfl 43 zcells hB (by kernel_rfl) rfl (by decide) ?_; intro w6 hB6 hg6))
  have hl := Go.run_loadVar_row (P := Try.prog) w6 w.heap.size 43 43 zcells.toArray (0, 0) _ hB6 Try.underlying43 rfl (by kernel_rfl)
  refine bodyPost_ret (v := .tuple #[.agg zcells.toArray, .int .i64 2]) ?_ rfl ⟨rfl, hb1.grown hg6 hb1.size (fun k hk => by cases hk; exact Nat.le_refl _)⟩
  simp [results, Try.results36, asAddr, hl]

set_option maxRecDepth 100000 in
set_option maxHeartbeats 8000000 in
theorem Decode1_calls (A : Option Addr) (l : List UInt8) (n c : Nat) (w : World) (hn : n = l.length + 1) (hr : Rd w w.heap.size 1 A n (bc (1 :: l))) (hc : n ≤ c) (hcm : c ≤ maxLen) (hl : l.length ≤ 140737488351231) :
    Calls Try.prog 36 #[.slice A n c] w (RetDec w (decO geS (1 :: l))) := by
  have d0 : ((n : Int) == 0) = false := beq_eq_false_iff_ne.2 (by omega)
  have hn0 : (0 : Int) < (n : Int) := by omega
  obtain ⟨m, A', c', em, jm, jm', ⟨rm, km, km'⟩, _, _, _, sm⟩ := sl_from (k := 1) (l := 1 :: l) (c := c) 1 rfl (by rw [List.length_cons, ← hn]; exact hr) (by simp) (by simp; omega) hcm
  rw [List.length_cons, ← hn] at sm jm
  obtain ⟨g, off, rfl, hg, hcell⟩ := hr.at_ (by omega)
  have hml : m = l := by rw [em.out]; rfl
  have hb1 : Below w.heap.size w (w.alloc (.cells #[.int .i64 0, .slice none 0 0, .slice none 0 0, .string ⟨#[]⟩, .slice none 0 0, .string ⟨#[]⟩, .string ⟨#[]⟩, .string ⟨#[]⟩, .int .i64 0, .string ⟨#[]⟩] 43)) := (Below.refl _ _).alloc (Nat.le_refl _) _
  have hb2 := hb1.alloc hb1.size (.cells #[.slice A' m.length c', .int .i64 0] 74)
  have hB1 := Blk.new w 43 zcells
  have hB2 := hB1.alloc (.cells #[.slice A' m.length c', .int .i64 0] 74)
  have hR2 := Blk.new (w.alloc (.cells #[.int .i64 0, .slice none 0 0, .slice none 0 0, .string ⟨#[]⟩, .slice none 0 0, .string ⟨#[]⟩, .string ⟨#[]⟩, .string ⟨#[]⟩, .int .i64 0, .string ⟨#[]⟩] 43)) 74 [.slice A' m.length c', .int .i64 0]
  have s1 : (w.alloc (.cells #[.int .i64 0, .slice none 0 0, .slice none 0 0, .string ⟨#[]⟩, .slice none 0 0, .string ⟨#[]⟩, .string ⟨#[]⟩, .string ⟨#[]⟩, .int .i64 0, .string ⟨#[]⟩] 43)).heap.size = w.heap.size + 1 := by simp
  have s2 : ((w.alloc (.cells #[.int .i64 0, .slice none 0 0, .slice none 0 0, .string ⟨#[]⟩, .slice none 0 0, .string ⟨#[]⟩, .string ⟨#[]⟩, .string ⟨#[]⟩, .int .i64 0, .string ⟨#[]⟩] 43)).alloc (.cells #[.slice A' m.length c', .int .i64 0] 74)).heap.size = w.heap.size + 2 := by simp
  rw [s1] at hR2
  have hRs : Rs ((w.alloc (.cells #[.int .i64 0, .slice none 0 0, .slice none 0 0, .string ⟨#[]⟩, .slice none 0 0, .string ⟨#[]⟩, .string ⟨#[]⟩, .string ⟨#[]⟩, .int .i64 0, .string ⟨#[]⟩] 43)).alloc (.cells #[.slice A' m.length c', .int .i64 0] 74)) (w.heap.size + 1) (w.heap.size + 1) m false := ⟨A', c', hR2, Far.of_rd ((rm.below hb2).more (by omega)) (by omega), km, km', by omega, Nat.le_refl _⟩
  have hx0 : ((w.alloc (.cells #[.int .i64 0, .slice none 0 0, .slice none 0 0, .string ⟨#[]⟩, .slice none 0 0, .string ⟨#[]⟩, .string ⟨#[]⟩, .string ⟨#[]⟩, .int .i64 0, .string ⟨#[]⟩] 43)).alloc (.cells #[.slice A' m.length c', .int .i64 0] 74)).cell? ⟨g, off, none⟩ = some (.int .u8 1) := by
    have := hcell 0 (.int .u8 1) rfl
    rw [← this]
    exact hb2.cell (p := ⟨g, off, none⟩) hg
  have hx1 : w.cell? ⟨g, off, none⟩ = some (.int .u8 1) := hcell 0 (.int .u8 1) rfl
  have hwx : IntKind.i64.wrap 1 = 1 := by rfl
  clear hcell
  have HN := Lib.hid hn
  have HML := Lib.hid hml
  clear hn hml
  go_enter Try.func36, Try.ntmps36
  go_wp2_with fail
  refine (body1_calls (w.heap.size + 1) (w.heap.size + 1) m _ hRs (by omega) (by have := HML.out; rw [this]; omega)).mono ?_
  rintro e w3 ⟨⟨ko, d, en, tr, pa, ta, na, wh, st, te⟩, Ad, cd, Ae, ce, Ap, cp, l3, b3, rfl, hdn, hen, hpn, hR3, hP, hb3, hel, hpl, hps⟩
  have hsh := hP.out.2
  injection hsh with x1 x2 x3 x4 x5 x6 x7 x8 x9 x10
  simp only [Obj.zero] at x1 x2 x3 x4 x5 x6 x7 x8 x9 x10

  subst x1 x3 x4 x5 x6 x7 x8 x9 x10
  have hPo := Lib.hid hP.out.1
  rw [HML.out] at hPo
  clear hP
  dsimp only at hel hpl hps hdn hen hpn ⊢
  go_wp2_with fail
  refine (made1_calls Ad d.length cd none 0 0 ⟨#[]⟩ none 0 0 ⟨#[]⟩ ⟨#[]⟩ ⟨#[]⟩ 0 ⟨#[]⟩ w3).mono ?_
  rintro e w4 ⟨rfl, hb4⟩
  have hs3 := hb3.size
  have hb34 := hb3.trans (hb4.mono (by omega))
  have hR4 := hR3.below hb4
  have hd4' := hdn.below hb4
  have he4' := hen.below hb4
  have hp4' := hpn.below hb4
  have hbo : Below w4.heap.size w4 (w4.alloc (.cells #[.int .i64 1, .slice Ad d.length cd, .slice none 0 0, .string ⟨#[]⟩, .slice none 0 0, .string ⟨#[]⟩, .string ⟨#[]⟩, .string ⟨#[]⟩, .int .i64 0, .string ⟨#[]⟩] 43)) := (Below.refl _ _).alloc (Nat.le_refl _) _
  have hO := Blk.new w4 43 [.int .i64 1, .slice Ad d.length cd, .slice none 0 0, .string ⟨#[]⟩, .slice none 0 0, .string ⟨#[]⟩, .string ⟨#[]⟩, .string ⟨#[]⟩, .int .i64 0, .string ⟨#[]⟩]
  have hd4 := hd4'.1.alive hbo
  have he4 := he4'.1.alive hbo
  have hp4 := hp4'.1.alive hbo
  have hB4 := hB2.below hb34 (by omega)
  have hE := Encode_calls 1 Ad d cd none [] 0 ⟨#[]⟩ none [] 0 ⟨#[]⟩ ⟨#[]⟩ ⟨#[]⟩ 0 ⟨#[]⟩ (w4.alloc (.cells #[.int .i64 1, .slice Ad d.length cd, .slice none 0 0, .string ⟨#[]⟩, .slice none 0 0, .string ⟨#[]⟩, .string ⟨#[]⟩, .string ⟨#[]⟩, .int .i64 0, .string ⟨#[]⟩] 43)) hd4 Rd.nil Rd.nil (Nat.zero_le _) (Nat.zero_le _) (Lib.hid (by simp))
  obtain ⟨z0, z1, z2, z3, z4, z5, z6, z7, z8, z9⟩ := obj_cells hO
  clear hRs hx0 hx1 hR2 hB1
  go_wp2_with fail
  refine hE.mono ?_
  rintro e w6 ⟨hb6, hR6⟩
  have hb46 := hbo.next hb6
  have hR7 := hR4.below hb46
  have hB7 := hB4.below hb46 hB4.lt
  have hO7 := hO.below hb6 hO.lt
  have hs34 := hb34.size
  have hbe : Below w.heap.size w w6 := hb2.trans ((hb34.mono (by omega)).trans (hb46.mono (by omega)))
  obtain ⟨Ar, cr, hRb, _⟩ := id hR7
  have e1 : w6.cell? ⟨w.heap.size + 1, 1, none⟩ = some (.int .i64 (errB b3)) := by rw [hRb.cell]; rfl
  clear z0 z1 z2 z3 z4 z5 z6 z7 z8 z9 hE
  rcases hR6 with ⟨hck, lo, Ao, co, el, rfl, ho6⟩ | ⟨hck, rfl⟩
  · have hDec := dec_of (ge := geS) hPo.out
    have HCK := Lib.hid hck
    cases b3 with
    | true =>
      have e2 : w6.cell? ⟨w.heap.size + 1, 1, none⟩ = some (.int .i64 2) := e1
      have HD : Hid (decO geS (1 :: l) = none) := by
        unfold Hid
        rw [hDec, if_neg (by simp)]
      clear e1 hDec hck
      go_wp2_with ((refine wpList_store_blk (by rfl) _ (.tmp 2) (.tmp 43) rfl w.heap.size zcells rfl rfl 43 zcells hB7 (by kernel_rfl) rfl (by decide) ?_; intro w8 hB8 hg8))
      have hl := Go.run_loadVar_row (P := Try.prog) w8 w.heap.size 43 43 zcells.toArray (0, 0) _ hB8 Try.underlying43 rfl (by kernel_rfl)
      rw [show decO geS (1 :: l) = none from HD.out]
      refine bodyPost_ret (v := .tuple #[.agg zcells.toArray, .int .i64 2]) ?_ rfl ⟨rfl, hbe.grown hg8 hbe.size (fun k hk => by cases hk; exact Nat.le_refl _)⟩
      simp [results, Try.results36, asAddr, hl]
    | false =>
      have e2 : w6.cell? ⟨w.heap.size + 1, 1, none⟩ = some (.int .i64 0) := e1
      clear e1
      have hr6 := Rd.of_own ho6
      have hrb : Rd w6 w6.heap.size 1 (some ⟨g, off, none⟩) (1 :: l).length (bc (1 :: l)) := by
        have := (hr.below hbe).more hbe.size
        rwa [HN.out] at this
      have hlo : lo.length ≤ 140737488355328 := by
        by_cases h : lo.length ≤ 140737488355328
        · exact h
        · exfalso
          have h1 := el.out
          have h2 := enc_small hck
          rw [← h1] at h2
          omega
      have hnl : n = (1 :: l).length := by rw [List.length_cons]; exact HN.out
      have hq := EqualB_calls Ao lo co (some ⟨g, off, none⟩) (1 :: l) c w6 _ _ hr6 hrb hlo (by simp; omega)
      rw [← hnl] at hq
      have HNL := Lib.hid hnl
      clear hck hnl
      by_cases heq : lo = 1 :: l
      · have HD : Hid (decO geS (1 :: l) = some ⟨1, d, [], ⟨#[]⟩, [], ⟨#[]⟩, ⟨#[]⟩, ⟨#[]⟩, 0, ⟨#[]⟩⟩) := by
          unfold Hid
          rw [hDec, if_pos ⟨rfl, HCK.out, by rw [← el.out]; exact heq⟩]
        have HQ := Lib.hid heq
        clear hDec heq hr hrb hr6 hlo
        obtain ⟨z0, z1, z2, z3, z4, z5, z6, z7, z8, z9⟩ := obj_cells hO7
        go_wp2_with ((first
          | (go_at_call 61; refine hq.mono ?_; rintro e w7 ⟨v7, n7, rfl, hv7, rfl⟩; obtain rfl := hv7.2 HQ.out)
          | (refine wpList_store_blk (by rfl) _ (.tmp 2) (.tmp 44) rfl w.heap.size [.int .i64 1, .slice Ad d.length cd, .slice none 0 0, .string ⟨#[]⟩, .slice none 0 0, .string ⟨#[]⟩, .string ⟨#[]⟩, .string ⟨#[]⟩, .int .i64 0, .string ⟨#[]⟩] rfl rfl 43 zcells (hB7.drewN n7) (by kernel_rfl) rfl (o_one _ _ _ _ _ _ _ _ _ _ rfl rfl rfl) ?_; intro w8 hB8 hg8)))
        have hl := Go.run_loadVar_row (P := Try.prog) w8 w.heap.size 43 43 #[.int .i64 1, .slice Ad d.length cd, .slice none 0 0, .string ⟨#[]⟩, .slice none 0 0, .string ⟨#[]⟩, .string ⟨#[]⟩, .string ⟨#[]⟩, .int .i64 0, .string ⟨#[]⟩] (0, 0) _ hB8 Try.underlying43 rfl (by kernel_rfl)
        rw [HD.out]
        have hg9 : w6.grownBy w8 (some w.heap.size) := ⟨hg8.os, hg8.tape, hg8.output, hg8.size, hg8.block⟩
        have hb9 : Below w.heap.size w w8 := hbe.grown hg9 hbe.size (fun k hk => by cases hk; exact Nat.le_refl _)
        refine bodyPost_ret (v := .tuple #[.agg #[.int .i64 1, .slice Ad d.length cd, .slice none 0 0, .string ⟨#[]⟩, .slice none 0 0, .string ⟨#[]⟩, .string ⟨#[]⟩, .string ⟨#[]⟩, .int .i64 0, .string ⟨#[]⟩], .int .i64 0]) ?_ rfl ⟨1, Ad, d, cd, none, [], 0, ⟨#[]⟩, none, [], 0, ⟨#[]⟩, ⟨#[]⟩, ⟨#[]⟩, 0, ⟨#[]⟩, rfl, rfl, ((((hdn.below hb4).below hb46).apart hg9 (by omega)).lower (by omega)), RdN.nil, RdN.nil, hb9, (Nat.zero_le _), (Nat.zero_le _), (Lib.hid (by simp))⟩
        simp [results, Try.results36, asAddr, hl]
      · have HD : Hid (decO geS (1 :: l) = none) := by
          unfold Hid
          rw [hDec, if_neg (by rintro ⟨_, _, h⟩; exact heq (by rw [el.out, h]))]
        have HQ := Lib.hid heq
        clear hDec heq hr hrb hr6 hlo
        go_wp2_with ((first
          | (go_at_call 61; refine hq.mono ?_; rintro e w7 ⟨v7, n7, rfl, hv7, rfl⟩; obtain rfl : v7 = false := Bool.eq_false_iff.2 fun h => HQ.out (hv7.1 h))
          | (refine wpList_store_blk (by rfl) _ (.tmp 2) (.tmp 43) rfl w.heap.size zcells rfl rfl 43 zcells (hB7.drewN n7) (by kernel_rfl) rfl (by decide) ?_; intro w8 hB8 hg8)))
        have hl := Go.run_loadVar_row (P := Try.prog) w8 w.heap.size 43 43 zcells.toArray (0, 0) _ hB8 Try.underlying43 rfl (by kernel_rfl)
        rw [HD.out]
        have hg9 : w6.grownBy w8 (some w.heap.size) := ⟨hg8.os, hg8.tape, hg8.output, hg8.size, hg8.block⟩
        refine bodyPost_ret (v := .tuple #[.agg zcells.toArray, .int .i64 2]) ?_ rfl ⟨rfl, hbe.grown hg9 hbe.size (fun k hk => by cases hk; exact Nat.le_refl _)⟩
        simp [results, Try.results36, asAddr, hl]
  · have hDec := dec_of (ge := geS) hPo.out
    have HD : Hid (decO geS (1 :: l) = none) := by
      unfold Hid
      rw [hDec, if_neg (by rw [hck]; simp)]
    clear hDec
    cases b3 with
    | true =>
      have e2 : w6.cell? ⟨w.heap.size + 1, 1, none⟩ = some (.int .i64 2) := e1
      clear e1
      go_wp2_with ((refine wpList_store_blk (by rfl) _ (.tmp 2) (.tmp 43) rfl w.heap.size zcells rfl rfl 43 zcells hB7 (by kernel_rfl) rfl (by decide) ?_; intro w8 hB8 hg8))
      have hl := Go.run_loadVar_row (P := Try.prog) w8 w.heap.size 43 43 zcells.toArray (0, 0) _ hB8 Try.underlying43 rfl (by kernel_rfl)
      rw [show decO geS (1 :: l) = none from HD.out]
      refine bodyPost_ret (v := .tuple #[.agg zcells.toArray, .int .i64 2]) ?_ rfl ⟨rfl, hbe.grown hg8 hbe.size (fun k hk => by cases hk; exact Nat.le_refl _)⟩
      simp [results, Try.results36, asAddr, hl]
    | false =>
      have e2 : w6.cell? ⟨w.heap.size + 1, 1, none⟩ = some (.int .i64 0) := e1
      clear e1
      go_wp2_with ((refine wpList_store_blk (by rfl) _ (.tmp 2) (.tmp 43) rfl w.heap.size zcells rfl rfl 43 zcells hB7 (by kernel_rfl) rfl (by decide) ?_; intro w8 hB8 hg8))
      have hl := Go.run_loadVar_row (P := Try.prog) w8 w.heap.size 43 43 zcells.toArray (0, 0) _ hB8 Try.underlying43 rfl (by kernel_rfl)
      rw [show decO geS (1 :: l) = none from HD.out]
      refine bodyPost_ret (v := .tuple #[.agg zcells.toArray, .int .i64 2]) ?_ rfl ⟨rfl, hbe.grown hg8 hbe.size (fun k hk => by cases hk; exact Nat.le_refl _)⟩
      simp [results, Try.results36, asAddr, hl]

set_option maxRecDepth 100000 in
set_option maxHeartbeats 8000000 in
theorem Decode2_calls (A : Option Addr) (l : List UInt8) (n c : Nat) (w : World) (hn : n = l.length + 1) (hr : Rd w w.heap.size 1 A n (bc (2 :: l))) (hc : n ≤ c) (hcm : c ≤ maxLen) (hl : l.length ≤ 140737488351231) :
    Calls Try.prog 36 #[.slice A n c] w (RetDec w (decO geS (2 :: l))) := by
  have d0 : ((n : Int) == 0) = false := beq_eq_false_iff_ne.2 (by omega)
  have hn0 : (0 : Int) < (n : Int) := by omega
  obtain ⟨m, A', c', em, jm, jm', ⟨rm, km, km'⟩, _, _, _, sm⟩ := sl_from (k := 1) (l := 2 :: l) (c := c) 1 rfl (by rw [List.length_cons, ← hn]; exact hr) (by simp) (by simp; omega) hcm
  rw [List.length_cons, ← hn] at sm jm
  obtain ⟨g, off, rfl, hg, hcell⟩ := hr.at_ (by omega)
  have hml : m = l := by rw [em.out]; rfl
  have hb1 : Below w.heap.size w (w.alloc (.cells #[.int .i64 0, .slice none 0 0, .slice none 0 0, .string ⟨#[]⟩, .slice none 0 0, .string ⟨#[]⟩, .string ⟨#[]⟩, .string ⟨#[]⟩, .int .i64 0, .string ⟨#[]⟩] 43)) := (Below.refl _ _).alloc (Nat.le_refl _) _
  have hb2 := hb1.alloc hb1.size (.cells #[.slice A' m.length c', .int .i64 0] 74)
  have hB1 := Blk.new w 43 zcells
  have hB2 := hB1.alloc (.cells #[.slice A' m.length c', .int .i64 0] 74)
  have hR2 := Blk.new (w.alloc (.cells #[.int .i64 0, .slice none 0 0, .slice none 0 0, .string ⟨#[]⟩, .slice none 0 0, .string ⟨#[]⟩, .string ⟨#[]⟩, .string ⟨#[]⟩, .int .i64 0, .string ⟨#[]⟩] 43)) 74 [.slice A' m.length c', .int .i64 0]
  have s1 : (w.alloc (.cells #[.int .i64 0, .slice none 0 0, .slice none 0 0, .string ⟨#[]⟩, .slice none 0 0, .string ⟨#[]⟩, .string ⟨#[]⟩, .string ⟨#[]⟩, .int .i64 0, .string ⟨#[]⟩] 43)).heap.size = w.heap.size + 1 := by simp
  have s2 : ((w.alloc (.cells #[.int .i64 0, .slice none 0 0, .slice none 0 0, .string ⟨#[]⟩, .slice none 0 0, .string ⟨#[]⟩, .string ⟨#[]⟩, .string ⟨#[]⟩, .int .i64 0, .string ⟨#[]⟩] 43)).alloc (.cells #[.slice A' m.length c', .int .i64 0] 74)).heap.size = w.heap.size + 2 := by simp
  rw [s1] at hR2
  have hRs : Rs ((w.alloc (.cells #[.int .i64 0, .slice none 0 0, .slice none 0 0, .string ⟨#[]⟩, .slice none 0 0, .string ⟨#[]⟩, .string ⟨#[]⟩, .string ⟨#[]⟩, .int .i64 0, .string ⟨#[]⟩] 43)).alloc (.cells #[.slice A' m.length c', .int .i64 0] 74)) (w.heap.size + 1) (w.heap.size + 1) m false := ⟨A', c', hR2, Far.of_rd ((rm.below hb2).more (by omega)) (by omega), km, km', by omega, Nat.le_refl _⟩
  have hx0 : ((w.alloc (.cells #[.int .i64 0, .slice none 0 0, .slice none 0 0, .string ⟨#[]⟩, .slice none 0 0, .string ⟨#[]⟩, .string ⟨#[]⟩, .string ⟨#[]⟩, .int .i64 0, .string ⟨#[]⟩] 43)).alloc (.cells #[.slice A' m.length c', .int .i64 0] 74)).cell? ⟨g, off, none⟩ = some (.int .u8 2) := by
    have := hcell 0 (.int .u8 2) rfl
    rw [← this]
    exact hb2.cell (p := ⟨g, off, none⟩) hg
  have hx1 : w.cell? ⟨g, off, none⟩ = some (.int .u8 2) := hcell 0 (.int .u8 2) rfl
  have hwx : IntKind.i64.wrap 2 = 2 := by rfl
  clear hcell
  have HN := Lib.hid hn
  have HML := Lib.hid hml
  clear hn hml
  go_enter Try.func36, Try.ntmps36
  go_wp2_with fail
  refine (body2_calls (w.heap.size + 1) (w.heap.size + 1) m _ hRs (by omega) (by have := HML.out; rw [this]; omega)).mono ?_
  rintro e w3 ⟨⟨ko, d, en, tr, pa, ta, na, wh, st, te⟩, Ad, cd, Ae, ce, Ap, cp, l3, b3, rfl, hdn, hen, hpn, hR3, hP, hb3, hel, hpl, hps⟩
  have hsh := hP.out.2
  injection hsh with x1 x2 x3 x4 x5 x6 x7 x8 x9 x10
  simp only [Obj.zero] at x1 x2 x3 x4 x5 x6 x7 x8 x9 x10

  subst x1 x2 x4 x5 x6 x7 x8 x9 x10
  have hPo := Lib.hid hP.out.1
  rw [HML.out] at hPo
  clear hP
  dsimp only at hel hpl hps hdn hen hpn ⊢
  go_wp2_with fail
  refine (made2_calls none 0 0 Ae en.length ce ⟨#[]⟩ none 0 0 ⟨#[]⟩ ⟨#[]⟩ ⟨#[]⟩ 0 ⟨#[]⟩ w3).mono ?_
  rintro e w4 ⟨rfl, hb4⟩
  have hs3 := hb3.size
  have hb34 := hb3.trans (hb4.mono (by omega))
  have hR4 := hR3.below hb4
  have hd4' := hdn.below hb4
  have he4' := hen.below hb4
  have hp4' := hpn.below hb4
  have hbo : Below w4.heap.size w4 (w4.alloc (.cells #[.int .i64 2, .slice none 0 0, .slice Ae en.length ce, .string ⟨#[]⟩, .slice none 0 0, .string ⟨#[]⟩, .string ⟨#[]⟩, .string ⟨#[]⟩, .int .i64 0, .string ⟨#[]⟩] 43)) := (Below.refl _ _).alloc (Nat.le_refl _) _
  have hO := Blk.new w4 43 [.int .i64 2, .slice none 0 0, .slice Ae en.length ce, .string ⟨#[]⟩, .slice none 0 0, .string ⟨#[]⟩, .string ⟨#[]⟩, .string ⟨#[]⟩, .int .i64 0, .string ⟨#[]⟩]
  have hd4 := hd4'.1.alive hbo
  have he4 := he4'.1.alive hbo
  have hp4 := hp4'.1.alive hbo
  have hB4 := hB2.below hb34 (by omega)
  have hE := Encode_calls 2 none [] 0 Ae en ce ⟨#[]⟩ none [] 0 ⟨#[]⟩ ⟨#[]⟩ ⟨#[]⟩ 0 ⟨#[]⟩ (w4.alloc (.cells #[.int .i64 2, .slice none 0 0, .slice Ae en.length ce, .string ⟨#[]⟩, .slice none 0 0, .string ⟨#[]⟩, .string ⟨#[]⟩, .string ⟨#[]⟩, .int .i64 0, .string ⟨#[]⟩] 43)) Rd.nil he4 Rd.nil (Nat.le_trans hel (by decide)) (Nat.zero_le _) (Lib.hid (by simp))
  obtain ⟨z0, z1, z2, z3, z4, z5, z6, z7, z8, z9⟩ := obj_cells hO
  clear hRs hx0 hx1 hR2 hB1
  go_wp2_with fail
  refine hE.mono ?_
  rintro e w6 ⟨hb6, hR6⟩
  have hb46 := hbo.next hb6
  have hR7 := hR4.below hb46
  have hB7 := hB4.below hb46 hB4.lt
  have hO7 := hO.below hb6 hO.lt
  have hs34 := hb34.size
  have hbe : Below w.heap.size w w6 := hb2.trans ((hb34.mono (by omega)).trans (hb46.mono (by omega)))
  obtain ⟨Ar, cr, hRb, _⟩ := id hR7
  have e1 : w6.cell? ⟨w.heap.size + 1, 1, none⟩ = some (.int .i64 (errB b3)) := by rw [hRb.cell]; rfl
  clear z0 z1 z2 z3 z4 z5 z6 z7 z8 z9 hE
  rcases hR6 with ⟨hck, lo, Ao, co, el, rfl, ho6⟩ | ⟨hck, rfl⟩
  · have hDec := dec_of (ge := geS) hPo.out
    have HCK := Lib.hid hck
    cases b3 with
    | true =>
      have e2 : w6.cell? ⟨w.heap.size + 1, 1, none⟩ = some (.int .i64 2) := e1
      have HD : Hid (decO geS (2 :: l) = none) := by
        unfold Hid
        rw [hDec, if_neg (by simp)]
      clear e1 hDec hck
      go_wp2_with ((refine wpList_store_blk (by rfl) _ (.tmp 2) (.tmp 43) rfl w.heap.size zcells rfl rfl 43 zcells hB7 (by kernel_rfl) rfl (by decide) ?_; intro w8 hB8 hg8))
      have hl := Go.run_loadVar_row (P := Try.prog) w8 w.heap.size 43 43 zcells.toArray (0, 0) _ hB8 Try.underlying43 rfl (by kernel_rfl)
      rw [show decO geS (2 :: l) = none from HD.out]
      refine bodyPost_ret (v := .tuple #[.agg zcells.toArray, .int .i64 2]) ?_ rfl ⟨rfl, hbe.grown hg8 hbe.size (fun k hk => by cases hk; exact Nat.le_refl _)⟩
      simp [results, Try.results36, asAddr, hl]
    | false =>
      have e2 : w6.cell? ⟨w.heap.size + 1, 1, none⟩ = some (.int .i64 0) := e1
      clear e1
      have hr6 := Rd.of_own ho6
      have hrb : Rd w6 w6.heap.size 1 (some ⟨g, off, none⟩) (2 :: l).length (bc (2 :: l)) := by
        have := (hr.below hbe).more hbe.size
        rwa [HN.out] at this
      have hlo : lo.length ≤ 140737488355328 := by
        by_cases h : lo.length ≤ 140737488355328
        · exact h
        · exfalso
          have h1 := el.out
          have h2 := enc_small hck
          rw [← h1] at h2
          omega
      have hnl : n = (2 :: l).length := by rw [List.length_cons]; exact HN.out
      have hq := EqualB_calls Ao lo co (some ⟨g, off, none⟩) (2 :: l) c w6 _ _ hr6 hrb hlo (by simp; omega)
      rw [← hnl] at hq
      have HNL := Lib.hid hnl
      clear hck hnl
      by_cases heq : lo = 2 :: l
      · have HD : Hid (decO geS (2 :: l) = some ⟨2, [], en, ⟨#[]⟩, [], ⟨#[]⟩, ⟨#[]⟩, ⟨#[]⟩, 0, ⟨#[]⟩⟩) := by
          unfold Hid
          rw [hDec, if_pos ⟨rfl, HCK.out, by rw [← el.out]; exact heq⟩]
        have HQ := Lib.hid heq
        clear hDec heq hr hrb hr6 hlo
        obtain ⟨z0, z1, z2, z3, z4, z5, z6, z7, z8, z9⟩ := obj_cells hO7
        go_wp2_with ((first
          | (go_at_call 61; refine hq.mono ?_; rintro e w7 ⟨v7, n7, rfl, hv7, rfl⟩; obtain rfl := hv7.2 HQ.out)
          | (refine wpList_store_blk (by rfl) _ (.tmp 2) (.tmp 44) rfl w.heap.size [.int .i64 2, .slice none 0 0, .slice Ae en.length ce, .string ⟨#[]⟩, .slice none 0 0, .string ⟨#[]⟩, .string ⟨#[]⟩, .string ⟨#[]⟩, .int .i64 0, .string ⟨#[]⟩] rfl rfl 43 zcells (hB7.drewN n7) (by kernel_rfl) rfl (o_one _ _ _ _ _ _ _ _ _ _ rfl rfl rfl) ?_; intro w8 hB8 hg8)))
        have hl := Go.run_loadVar_row (P := Try.prog) w8 w.heap.size 43 43 #[.int .i64 2, .slice none 0 0, .slice Ae en.length ce, .string ⟨#[]⟩, .slice none 0 0, .string ⟨#[]⟩, .string ⟨#[]⟩, .string ⟨#[]⟩, .int .i64 0, .string ⟨#[]⟩] (0, 0) _ hB8 Try.underlying43 rfl (by kernel_rfl)
        rw [HD.out]
        have hg9 : w6.grownBy w8 (some w.heap.size) := ⟨hg8.os, hg8.tape, hg8.output, hg8.size, hg8.block⟩
        have hb9 : Below w.heap.size w w8 := hbe.grown hg9 hbe.size (fun k hk => by cases hk; exact Nat.le_refl _)
        refine bodyPost_ret (v := .tuple #[.agg #[.int .i64 2, .slice none 0 0, .slice Ae en.length ce, .string ⟨#[]⟩, .slice none 0 0, .string ⟨#[]⟩, .string ⟨#[]⟩, .string ⟨#[]⟩, .int .i64 0, .string ⟨#[]⟩], .int .i64 0]) ?_ rfl ⟨2, none, [], 0, Ae, en, ce, ⟨#[]⟩, none, [], 0, ⟨#[]⟩, ⟨#[]⟩, ⟨#[]⟩, 0, ⟨#[]⟩, rfl, rfl, RdN.nil, ((((hen.below hb4).below hb46).apart hg9 (by omega)).lower (by omega)), RdN.nil, hb9, (Nat.le_trans hel (by decide)), (Nat.zero_le _), (Lib.hid (by simp))⟩
        simp [results, Try.results36, asAddr, hl]
      · have HD : Hid (decO geS (2 :: l) = none) := by
          unfold Hid
          rw [hDec, if_neg (by rintro ⟨_, _, h⟩; exact heq (by rw [el.out, h]))]
        have HQ := Lib.hid heq
        clear hDec heq hr hrb hr6 hlo
        go_wp2_with ((first
          | (go_at_call 61; refine hq.mono ?_; rintro e w7 ⟨v7, n7, rfl, hv7, rfl⟩; obtain rfl : v7 = false := Bool.eq_false_iff.2 fun h => HQ.out (hv7.1 h))
          | (refine wpList_store_blk (by rfl) _ (.tmp 2) (.tmp 43) rfl w.heap.size zcells rfl rfl 43 zcells (hB7.drewN n7) (by kernel_rfl) rfl (by decide) ?_; intro w8 hB8 hg8)))
        have hl := Go.run_loadVar_row (P := Try.prog) w8 w.heap.size 43 43 zcells.toArray (0, 0) _ hB8 Try.underlying43 rfl (by kernel_rfl)
        rw [HD.out]
        have hg9 : w6.grownBy w8 (some w.heap.size) := ⟨hg8.os, hg8.tape, hg8.output, hg8.size, hg8.block⟩
        refine bodyPost_ret (v := .tuple #[.agg zcells.toArray, .int .i64 2]) ?_ rfl ⟨rfl, hbe.grown hg9 hbe.size (fun k hk => by cases hk; exact Nat.le_refl _)⟩
        simp [results, Try.results36, asAddr, hl]
  · have hDec := dec_of (ge := geS) hPo.out
    have HD : Hid (decO geS (2 :: l) = none) := by
      unfold Hid
      rw [hDec, if_neg (by rw [hck]; simp)]
    clear hDec
    cases b3 with
    | true =>
      have e2 : w6.cell? ⟨w.heap.size + 1, 1, none⟩ = some (.int .i64 2) := e1
      clear e1
      go_wp2_with ((refine wpList_store_blk (by rfl) _ (.tmp 2) (.tmp 43) rfl w.heap.size zcells rfl rfl 43 zcells hB7 (by kernel_rfl) rfl (by decide) ?_; intro w8 hB8 hg8))
      have hl := Go.run_loadVar_row (P := Try.prog) w8 w.heap.size 43 43 zcells.toArray (0, 0) _ hB8 Try.underlying43 rfl (by kernel_rfl)
      rw [show decO geS (2 :: l) = none from HD.out]
      refine bodyPost_ret (v := .tuple #[.agg zcells.toArray, .int .i64 2]) ?_ rfl ⟨rfl, hbe.grown hg8 hbe.size (fun k hk => by cases hk; exact Nat.le_refl _)⟩
      simp [results, Try.results36, asAddr, hl]
    | false =>
      have e2 : w6.cell? ⟨w.heap.size + 1, 1, none⟩ = some (.int .i64 0) := e1
      clear e1
      go_wp2_with ((refine wpList_store_blk (by rfl) _ (.tmp 2) (.tmp 43) rfl w.heap.size zcells rfl rfl 43 zcells hB7 (by kernel_rfl) rfl (by decide) ?_; intro w8 hB8 hg8))
      have hl := Go.run_loadVar_row (P := Try.prog) w8 w.heap.size 43 43 zcells.toArray (0, 0) _ hB8 Try.underlying43 rfl (by kernel_rfl)
      rw [show decO geS (2 :: l) = none from HD.out]
      refine bodyPost_ret (v := .tuple #[.agg zcells.toArray, .int .i64 2]) ?_ rfl ⟨rfl, hbe.grown hg8 hbe.size (fun k hk => by cases hk; exact Nat.le_refl _)⟩
      simp [results, Try.results36, asAddr, hl]

set_option maxRecDepth 100000 in
set_option maxHeartbeats 8000000 in
theorem Decode3_calls (A : Option Addr) (l : List UInt8) (n c : Nat) (w : World) (hn : n = l.length + 1) (hr : Rd w w.heap.size 1 A n (bc (3 :: l))) (hc : n ≤ c) (hcm : c ≤ maxLen) (hl : l.length ≤ 140737488351231) :
    Calls Try.prog 36 #[.slice A n c] w (RetDec w (decO geS (3 :: l))) := by
  have d0 : ((n : Int) == 0) = false := beq_eq_false_iff_ne.2 (by omega)
  have hn0 : (0 : Int) < (n : Int) := by omega
  obtain ⟨m, A', c', em, jm, jm', ⟨rm, km, km'⟩, _, _, _, sm⟩ := sl_from (k := 1) (l := 3 :: l) (c := c) 1 rfl (by rw [List.length_cons, ← hn]; exact hr) (by simp) (by simp; omega) hcm
  rw [List.length_cons, ← hn] at sm jm
  obtain ⟨g, off, rfl, hg, hcell⟩ := hr.at_ (by omega)
  have hml : m = l := by rw [em.out]; rfl
  have hb1 : Below w.heap.size w (w.alloc (.cells #[.int .i64 0, .slice none 0 0, .slice none 0 0, .string ⟨#[]⟩, .slice none 0 0, .string ⟨#[]⟩, .string ⟨#[]⟩, .string ⟨#[]⟩, .int .i64 0, .string ⟨#[]⟩] 43)) := (Below.refl _ _).alloc (Nat.le_refl _) _
  have hb2 := hb1.alloc hb1.size (.cells #[.slice A' m.length c', .int .i64 0] 74)
  have hB1 := Blk.new w 43 zcells
  have hB2 := hB1.alloc (.cells #[.slice A' m.length c', .int .i64 0] 74)
  have hR2 := Blk.new (w.alloc (.cells #[.int .i64 0, .slice none 0 0, .slice none 0 0, .string ⟨#[]⟩, .slice none 0 0, .string ⟨#[]⟩, .string ⟨#[]⟩, .string ⟨#[]⟩, .int .i64 0, .string ⟨#[]⟩] 43)) 74 [.slice A' m.length c', .int .i64 0]
  have s1 : (w.alloc (.cells #[.int .i64 0, .slice none 0 0, .slice none 0 0, .string ⟨#[]⟩, .slice none 0 0, .string ⟨#[]⟩, .string ⟨#[]⟩, .string ⟨#[]⟩, .int .i64 0, .string ⟨#[]⟩] 43)).heap.size = w.heap.size + 1 := by simp
  have s2 : ((w.alloc (.cells #[.int .i64 0, .slice none 0 0, .slice none 0 0, .string ⟨#[]⟩, .slice none 0 0, .string ⟨#[]⟩, .string ⟨#[]⟩, .string ⟨#[]⟩, .int .i64 0, .string ⟨#[]⟩] 43)).alloc (.cells #[.slice A' m.length c', .int .i64 0] 74)).heap.size = w.heap.size + 2 := by simp
  rw [s1] at hR2
  have hRs : Rs ((w.alloc (.cells #[.int .i64 0, .slice none 0 0, .slice none 0 0, .string ⟨#[]⟩, .slice none 0 0, .string ⟨#[]⟩, .string ⟨#[]⟩, .string ⟨#[]⟩, .int .i64 0, .string ⟨#[]⟩] 43)).alloc (.cells #[.slice A' m.length c', .int .i64 0] 74)) (w.heap.size + 1) (w.heap.size + 1) m false := ⟨A', c', hR2, Far.of_rd ((rm.below hb2).more (by omega)) (by omega), km, km', by omega, Nat.le_refl _⟩
  have hx0 : ((w.alloc (.cells #[.int .i64 0, .slice none 0 0, .slice none 0 0, .string ⟨#[]⟩, .slice none 0 0, .string ⟨#[]⟩, .string ⟨#[]⟩, .string ⟨#[]⟩, .int .i64 0, .string ⟨#[]⟩] 43)).alloc (.cells #[.slice A' m.length c', .int .i64 0] 74)).cell? ⟨g, off, none⟩ = some (.int .u8 3) := by
    have := hcell 0 (.int .u8 3) rfl
    rw [← this]
    exact hb2.cell (p := ⟨g, off, none⟩) hg
  have hx1 : w.cell? ⟨g, off, none⟩ = some (.int .u8 3) := hcell 0 (.int .u8 3) rfl
  have hwx : IntKind.i64.wrap 3 = 3 := by rfl
  clear hcell
  have HN := Lib.hid hn
  have HML := Lib.hid hml
  clear hn hml
  go_enter Try.func36, Try.ntmps36
  go_wp2_with fail
  refine (body3_calls (w.heap.size + 1) (w.heap.size + 1) m _ hRs (by omega) (by have := HML.out; rw [this]; omega)).mono ?_
  rintro e w3 ⟨⟨ko, d, en, tr, pa, ta, na, wh, st, te⟩, Ad, cd, Ae, ce, Ap, cp, l3, b3, rfl, hdn, hen, hpn, hR3, hP, hb3, hel, hpl, hps⟩
  have hsh := hP.out.2
  injection hsh with x1 x2 x3 x4 x5 x6 x7 x8 x9 x10
  simp only [Obj.zero] at x1 x2 x3 x4 x5 x6 x7 x8 x9 x10

  subst x1 x2 x3 x6 x7
  have hPo := Lib.hid hP.out.1
  rw [HML.out] at hPo
  clear hP
  dsimp only at hel hpl hps hdn hen hpn ⊢
  go_wp2_with fail
  refine (made3_calls none 0 0 none 0 0 tr Ap pa.length cp ⟨#[]⟩ ⟨#[]⟩ wh st te w3).mono ?_
  rintro e w4 ⟨rfl, hb4⟩
  have hs3 := hb3.size
  have hb34 := hb3.trans (hb4.mono (by omega))
  have hR4 := hR3.below hb4
  have hd4' := hdn.below hb4
  have he4' := hen.below hb4
  have hp4' := hpn.below hb4
  have hbo : Below w4.heap.size w4 (w4.alloc (.cells #[.int .i64 3, .slice none 0 0, .slice none 0 0, .string tr, .slice Ap pa.length cp, .string ⟨#[]⟩, .string ⟨#[]⟩, .string wh, .int .i64 st, .string te] 43)) := (Below.refl _ _).alloc (Nat.le_refl _) _
  have hO := Blk.new w4 43 [.int .i64 3, .slice none 0 0, .slice none 0 0, .string tr, .slice Ap pa.length cp, .string ⟨#[]⟩, .string ⟨#[]⟩, .string wh, .int .i64 st, .string te]
  have hd4 := hd4'.1.alive hbo
  have he4 := he4'.1.alive hbo
  have hp4 := hp4'.1.alive hbo
  have hB4 := hB2.below hb34 (by omega)
  have hE := Encode_calls 3 none [] 0 none [] 0 tr Ap pa cp ⟨#[]⟩ ⟨#[]⟩ wh st te (w4.alloc (.cells #[.int .i64 3, .slice none 0 0, .slice none 0 0, .string tr, .slice Ap pa.length cp, .string ⟨#[]⟩, .string ⟨#[]⟩, .string wh, .int .i64 st, .string te] 43)) Rd.nil Rd.nil hp4 (Nat.zero_le _) (Nat.le_trans hpl (by decide)) hps
  obtain ⟨z0, z1, z2, z3, z4, z5, z6, z7, z8, z9⟩ := obj_cells hO
  clear hRs hx0 hx1 hR2 hB1
  go_wp2_with fail
  refine hE.mono ?_
  rintro e w6 ⟨hb6, hR6⟩
  have hb46 := hbo.next hb6
  have hR7 := hR4.below hb46
  have hB7 := hB4.below hb46 hB4.lt
  have hO7 := hO.below hb6 hO.lt
  have hs34 := hb34.size
  have hbe : Below w.heap.size w w6 := hb2.trans ((hb34.mono (by omega)).trans (hb46.mono (by omega)))
  obtain ⟨Ar, cr, hRb, _⟩ := id hR7
  have e1 : w6.cell? ⟨w.heap.size + 1, 1, none⟩ = some (.int .i64 (errB b3)) := by rw [hRb.cell]; rfl
  clear z0 z1 z2 z3 z4 z5 z6 z7 z8 z9 hE
  rcases hR6 with ⟨hck, lo, Ao, co, el, rfl, ho6⟩ | ⟨hck, rfl⟩
  · have hDec := dec_of (ge := geS) hPo.out
    have HCK := Lib.hid hck
    cases b3 with
    | true =>
      have e2 : w6.cell? ⟨w.heap.size + 1, 1, none⟩ = some (.int .i64 2) := e1
      have HD : Hid (decO geS (3 :: l) = none) := by
        unfold Hid
        rw [hDec, if_neg (by simp)]
      clear e1 hDec hck
      go_wp2_with ((refine wpList_store_blk (by rfl) _ (.tmp 2) (.tmp 43) rfl w.heap.size zcells rfl rfl 43 zcells hB7 (by kernel_rfl) rfl (by decide) ?_; intro w8 hB8 hg8))
      have hl := Go.run_loadVar_row (P := Try.prog) w8 w.heap.size 43 43 zcells.toArray (0, 0) _ hB8 Try.underlying43 rfl (by kernel_rfl)
      rw [show decO geS (3 :: l) = none from HD.out]
      refine bodyPost_ret (v := .tuple #[.agg zcells.toArray, .int .i64 2]) ?_ rfl ⟨rfl, hbe.grown hg8 hbe.size (fun k hk => by cases hk; exact Nat.le_refl _)⟩
      simp [results, Try.results36, asAddr, hl]
    | false =>
      have e2 : w6.cell? ⟨w.heap.size + 1, 1, none⟩ = some (.int .i64 0) := e1
      clear e1
      have hr6 := Rd.of_own ho6
      have hrb : Rd w6 w6.heap.size 1 (some ⟨g, off, none⟩) (3 :: l).length (bc (3 :: l)) := by
        have := (hr.below hbe).more hbe.size
        rwa [HN.out] at this
      have hlo : lo.length ≤ 140737488355328 := by
        by_cases h : lo.length ≤ 140737488355328
        · exact h
        · exfalso
          have h1 := el.out
          have h2 := enc_small hck
          rw [← h1] at h2
          omega
      have hnl : n = (3 :: l).length := by rw [List.length_cons]; exact HN.out
      have hq := EqualB_calls Ao lo co (some ⟨g, off, none⟩) (3 :: l) c w6 _ _ hr6 hrb hlo (by simp; omega)
      rw [← hnl] at hq
      have HNL := Lib.hid hnl
      clear hck hnl
      by_cases heq : lo = 3 :: l
      · have HD : Hid (decO geS (3 :: l) = some ⟨3, [], [], tr, pa, ⟨#[]⟩, ⟨#[]⟩, wh, st, te⟩) := by
          unfold Hid
          rw [hDec, if_pos ⟨rfl, HCK.out, by rw [← el.out]; exact heq⟩]
        have HQ := Lib.hid heq
        clear hDec heq hr hrb hr6 hlo
        obtain ⟨z0, z1, z2, z3, z4, z5, z6, z7, z8, z9⟩ := obj_cells hO7
        go_wp2_with ((first
          | (go_at_call 61; refine hq.mono ?_; rintro e w7 ⟨v7, n7, rfl, hv7, rfl⟩; obtain rfl := hv7.2 HQ.out)
          | (refine wpList_store_blk (by rfl) _ (.tmp 2) (.tmp 44) rfl w.heap.size [.int .i64 3, .slice none 0 0, .slice none 0 0, .string tr, .slice Ap pa.length cp, .string ⟨#[]⟩, .string ⟨#[]⟩, .string wh, .int .i64 st, .string te] rfl rfl 43 zcells (hB7.drewN n7) (by kernel_rfl) rfl (o_one _ _ _ _ _ _ _ _ _ _ rfl rfl rfl) ?_; intro w8 hB8 hg8)))
        have hl := Go.run_loadVar_row (P := Try.prog) w8 w.heap.size 43 43 #[.int .i64 3, .slice none 0 0, .slice none 0 0, .string tr, .slice Ap pa.length cp, .string ⟨#[]⟩, .string ⟨#[]⟩, .string wh, .int .i64 st, .string te] (0, 0) _ hB8 Try.underlying43 rfl (by kernel_rfl)
        rw [HD.out]
        have hg9 : w6.grownBy w8 (some w.heap.size) := ⟨hg8.os, hg8.tape, hg8.output, hg8.size, hg8.block⟩
        have hb9 : Below w.heap.size w w8 := hbe.grown hg9 hbe.size (fun k hk => by cases hk; exact Nat.le_refl _)
        refine bodyPost_ret (v := .tuple #[.agg #[.int .i64 3, .slice none 0 0, .slice none 0 0, .string tr, .slice Ap pa.length cp, .string ⟨#[]⟩, .string ⟨#[]⟩, .string wh, .int .i64 st, .string te], .int .i64 0]) ?_ rfl ⟨3, none, [], 0, none, [], 0, tr, Ap, pa, cp, ⟨#[]⟩, ⟨#[]⟩, wh, st, te, rfl, rfl, RdN.nil, RdN.nil, ((((hpn.below hb4).below hb46).apart hg9 (by omega)).lower (by omega)), hb9, (Nat.zero_le _), (Nat.le_trans hpl (by decide)), hps⟩
        simp [results, Try.results36, asAddr, hl]
      · have HD : Hid (decO geS (3 :: l) = none) := by
          unfold Hid
          rw [hDec, if_neg (by rintro ⟨_, _, h⟩; exact heq (by rw [el.out, h]))]
        have HQ := Lib.hid heq
        clear hDec heq hr hrb hr6 hlo
        go_wp2_with ((first
          | (go_at_call 61; refine hq.mono ?_; rintro e w7 ⟨v7, n7, rfl, hv7, rfl⟩; obtain rfl : v7 = false := Bool.eq_false_iff.2 fun h => HQ.out (hv7.1 h))
          | (refine wpList_store_blk (by rfl) _ (.tmp 2) (.tmp 43) rfl w.heap.size zcells rfl rfl 43 zcells (hB7.drewN n7) (by kernel_rfl) rfl (by decide) ?_; intro w8 hB8 hg8)))
        have hl := Go.run_loadVar_row (P := Try.prog) w8 w.heap.size 43 43 zcells.toArray (0, 0) _ hB8 Try.underlying43 rfl (by kernel_rfl)
        rw [HD.out]
        have hg9 : w6.grownBy w8 (some w.heap.size) := ⟨hg8.os, hg8.tape, hg8.output, hg8.size, hg8.block⟩
        refine bodyPost_ret (v := .tuple #[.agg zcells.toArray, .int .i64 2]) ?_ rfl ⟨rfl, hbe.grown hg9 hbe.size (fun k hk => by cases hk; exact Nat.le_refl _)⟩
        simp [results, Try.results36, asAddr, hl]
  · have hDec := dec_of (ge := geS) hPo.out
    have HD : Hid (decO geS (3 :: l) = none) := by
      unfold Hid
      rw [hDec, if_neg (by rw [hck]; simp)]
    clear hDec
    cases b3 with
    | true =>
      have e2 : w6.cell? ⟨w.heap.size + 1, 1, none⟩ = some (.int .i64 2) := e1
      clear e1
      go_wp2_with ((refine wpList_store_blk (by rfl) _ (.tmp 2) (.tmp 43) rfl w.heap.size zcells rfl rfl 43 zcells hB7 (by kernel_rfl) rfl (by decide) ?_; intro w8 hB8 hg8))
      have hl := Go.run_loadVar_row (P := Try.prog) w8 w.heap.size 43 43 zcells.toArray (0, 0) _ hB8 Try.underlying43 rfl (by kernel_rfl)
      rw [show decO geS (3 :: l) = none from HD.out]
      refine bodyPost_ret (v := .tuple #[.agg zcells.toArray, .int .i64 2]) ?_ rfl ⟨rfl, hbe.grown hg8 hbe.size (fun k hk => by cases hk; exact Nat.le_refl _)⟩
      simp [results, Try.results36, asAddr, hl]
    | false =>
      have e2 : w6.cell? ⟨w.heap.size + 1, 1, none⟩ = some (.int .i64 0) := e1
      clear e1
      go_wp2_with ((refine wpList_store_blk (by rfl) _ (.tmp 2) (.tmp 43) rfl w.heap.size zcells rfl rfl 43 zcells hB7 (by kernel_rfl) rfl (by decide) ?_; intro w8 hB8 hg8))
      have hl := Go.run_loadVar_row (P := Try.prog) w8 w.heap.size 43 43 zcells.toArray (0, 0) _ hB8 Try.underlying43 rfl (by kernel_rfl)
      rw [show decO geS (3 :: l) = none from HD.out]
      refine bodyPost_ret (v := .tuple #[.agg zcells.toArray, .int .i64 2]) ?_ rfl ⟨rfl, hbe.grown hg8 hbe.size (fun k hk => by cases hk; exact Nat.le_refl _)⟩
      simp [results, Try.results36, asAddr, hl]

set_option maxRecDepth 100000 in
set_option maxHeartbeats 8000000 in
theorem Decode4_calls (A : Option Addr) (l : List UInt8) (n c : Nat) (w : World) (hn : n = l.length + 1) (hr : Rd w w.heap.size 1 A n (bc (4 :: l))) (hc : n ≤ c) (hcm : c ≤ maxLen) (hl : l.length ≤ 140737488351231) :
    Calls Try.prog 36 #[.slice A n c] w (RetDec w (decO geS (4 :: l))) := by
  have d0 : ((n : Int) == 0) = false := beq_eq_false_iff_ne.2 (by omega)
  have hn0 : (0 : Int) < (n : Int) := by omega
  obtain ⟨m, A', c', em, jm, jm', ⟨rm, km, km'⟩, _, _, _, sm⟩ := sl_from (k := 1) (l := 4 :: l) (c := c) 1 rfl (by rw [List.length_cons, ← hn]; exact hr) (by simp) (by simp; omega) hcm
  rw [List.length_cons, ← hn] at sm jm
  obtain ⟨g, off, rfl, hg, hcell⟩ := hr.at_ (by omega)
  have hml : m = l := by rw [em.out]; rfl
  have hb1 : Below w.heap.size w (w.alloc (.cells #[.int .i64 0, .slice none 0 0, .slice none 0 0, .string ⟨#[]⟩, .slice none 0 0, .string ⟨#[]⟩, .string ⟨#[]⟩, .string ⟨#[]⟩, .int .i64 0, .string ⟨#[]⟩] 43)) := (Below.refl _ _).alloc (Nat.le_refl _) _
  have hb2 := hb1.alloc hb1.size (.cells #[.slice A' m.length c', .int .i64 0] 74)
  have hB1 := Blk.new w 43 zcells
  have hB2 := hB1.alloc (.cells #[.slice A' m.length c', .int .i64 0] 74)
  have hR2 := Blk.new (w.alloc (.cells #[.int .i64 0, .slice none 0 0, .slice none 0 0, .string ⟨#[]⟩, .slice none 0 0, .string ⟨#[]⟩, .string ⟨#[]⟩, .string ⟨#[]⟩, .int .i64 0, .string ⟨#[]⟩] 43)) 74 [.slice A' m.length c', .int .i64 0]
  have s1 : (w.alloc (.cells #[.int .i64 0, .slice none 0 0, .slice none 0 0, .string ⟨#[]⟩, .slice none 0 0, .string ⟨#[]⟩, .string ⟨#[]⟩, .string ⟨#[]⟩, .int .i64 0, .string ⟨#[]⟩] 43)).heap.size = w.heap.size + 1 := by simp
  have s2 : ((w.alloc (.cells #[.int .i64 0, .slice none 0 0, .slice none 0 0, .string ⟨#[]⟩, .slice none 0 0, .string ⟨#[]⟩, .string ⟨#[]⟩, .string ⟨#[]⟩, .int .i64 0, .string ⟨#[]⟩] 43)).alloc (.cells #[.slice A' m.length c', .int .i64 0] 74)).heap.size = w.heap.size + 2 := by simp
  rw [s1] at hR2
  have hRs : Rs ((w.alloc (.cells #[.int .i64 0, .slice none 0 0, .slice none 0 0, .string ⟨#[]⟩, .slice none 0 0, .string ⟨#[]⟩, .string ⟨#[]⟩, .string ⟨#[]⟩, .int .i64 0, .string ⟨#[]⟩] 43)).alloc (.cells #[.slice A' m.length c', .int .i64 0] 74)) (w.heap.size + 1) (w.heap.size + 1) m false := ⟨A', c', hR2, Far.of_rd ((rm.below hb2).more (by omega)) (by omega), km, km', by omega, Nat.le_refl _⟩
  have hx0 : ((w.alloc (.cells #[.int .i64 0, .slice none 0 0, .slice none 0 0, .string ⟨#[]⟩, .slice none 0 0, .string ⟨#[]⟩, .string ⟨#[]⟩, .string ⟨#[]⟩, .int .i64 0, .string ⟨#[]⟩] 43)).alloc (.cells #[.slice A' m.length c', .int .i64 0] 74)).cell? ⟨g, off, none⟩ = some (.int .u8 4) := by
    have := hcell 0 (.int .u8 4) rfl
    rw [← this]
    exact hb2.cell (p := ⟨g, off, none⟩) hg
  have hx1 : w.cell? ⟨g, off, none⟩ = some (.int .u8 4) := hcell 0 (.int .u8 4) rfl
  have hwx : IntKind.i64.wrap 4 = 4 := by rfl
  clear hcell
  have HN := Lib.hid hn
  have HML := Lib.hid hml
  clear hn hml
  go_enter Try.func36, Try.ntmps36
  go_wp2_with fail
  refine (body4_calls (w.heap.size + 1) (w.heap.size + 1) m _ hRs (by omega) (by have := HML.out; rw [this]; omega)).mono ?_
  rintro e w3 ⟨⟨ko, d, en, tr, pa, ta, na, wh, st, te⟩, Ad, cd, Ae, ce, Ap, cp, l3, b3, rfl, hdn, hen, hpn, hR3, hP, hb3, hel, hpl, hps⟩
  have hsh := hP.out.2
  injection hsh with x1 x2 x3 x4 x5 x6 x7 x8 x9 x10
  simp only [Obj.zero] at x1 x2 x3 x4 x5 x6 x7 x8 x9 x10

  subst x1 x2 x3 x4 x5
  have hPo := Lib.hid hP.out.1
  rw [HML.out] at hPo
  clear hP
  dsimp only at hel hpl hps hdn hen hpn ⊢
  go_wp2_with fail
  refine (made4_calls none 0 0 none 0 0 ⟨#[]⟩ none 0 0 ta na wh st te w3).mono ?_
  rintro e w4 ⟨rfl, hb4⟩
  have hs3 := hb3.size
  have hb34 := hb3.trans (hb4.mono (by omega))
  have hR4 := hR3.below hb4
  have hd4' := hdn.below hb4
  have he4' := hen.below hb4
  have hp4' := hpn.below hb4
  have hbo : Below w4.heap.size w4 (w4.alloc (.cells #[.int .i64 4, .slice none 0 0, .slice none 0 0, .string ⟨#[]⟩, .slice none 0 0, .string ta, .string na, .string wh, .int .i64 st, .string te] 43)) := (Below.refl _ _).alloc (Nat.le_refl _) _
  have hO := Blk.new w4 43 [.int .i64 4, .slice none 0 0, .slice none 0 0, .string ⟨#[]⟩, .slice none 0 0, .string ta, .string na, .string wh, .int .i64 st, .string te]
  have hd4 := hd4'.1.alive hbo
  have he4 := he4'.1.alive hbo
  have hp4 := hp4'.1.alive hbo
  have hB4 := hB2.below hb34 (by omega)
  have hE := Encode_calls 4 none [] 0 none [] 0 ⟨#[]⟩ none [] 0 ta na wh st te (w4.alloc (.cells #[.int .i64 4, .slice none 0 0, .slice none 0 0, .string ⟨#[]⟩, .slice none 0 0, .string ta, .string na, .string wh, .int .i64 st, .string te] 43)) Rd.nil Rd.nil Rd.nil (Nat.zero_le _) (Nat.zero_le _) (Lib.hid (by simp))
  obtain ⟨z0, z1, z2, z3, z4, z5, z6, z7, z8, z9⟩ := obj_cells hO
  clear hRs hx0 hx1 hR2 hB1
  go_wp2_with fail
  refine hE.mono ?_
  rintro e w6 ⟨hb6, hR6⟩
  have hb46 := hbo.next hb6
  have hR7 := hR4.below hb46
  have hB7 := hB4.below hb46 hB4.lt
  have hO7 := hO.below hb6 hO.lt
  have hs34 := hb34.size
  have hbe : Below w.heap.size w w6 := hb2.trans ((hb34.mono (by omega)).trans (hb46.mono (by omega)))
  obtain ⟨Ar, cr, hRb, _⟩ := id hR7
  have e1 : w6.cell? ⟨w.heap.size + 1, 1, none⟩ = some (.int .i64 (errB b3)) := by rw [hRb.cell]; rfl
  clear z0 z1 z2 z3 z4 z5 z6 z7 z8 z9 hE
  rcases hR6 with ⟨hck, lo, Ao, co, el, rfl, ho6⟩ | ⟨hck, rfl⟩
  · have hDec := dec_of (ge := geS) hPo.out
    have HCK := Lib.hid hck
    cases b3 with
    | true =>
      have e2 : w6.cell? ⟨w.heap.size + 1, 1, none⟩ = some (.int .i64 2) := e1
      have HD : Hid (decO geS (4 :: l) = none) := by
        unfold Hid
        rw [hDec, if_neg (by simp)]
      clear e1 hDec hck
      go_wp2_with ((refine wpList_store_blk (by rfl) _ (.tmp 2) (.tmp 43) rfl w.heap.size zcells rfl rfl 43 zcells hB7 (by kernel_rfl) rfl (by decide) ?_; intro w8 hB8 hg8))
      have hl := Go.run_loadVar_row (P := Try.prog) w8 w.heap.size 43 43 zcells.toArray (0, 0) _ hB8 Try.underlying43 rfl (by kernel_rfl)
      rw [show decO geS (4 :: l) = none from HD.out]
      refine bodyPost_ret (v := .tuple #[.agg zcells.toArray, .int .i64 2]) ?_ rfl ⟨rfl, hbe.grown hg8 hbe.size (fun k hk => by cases hk; exact Nat.le_refl _)⟩
      simp [results, Try.results36, asAddr, hl]
    | false =>
      have e2 : w6.cell? ⟨w.heap.size + 1, 1, none⟩ = some (.int .i64 0) := e1
      clear e1
      have hr6 := Rd.of_own ho6
      have hrb : Rd w6 w6.heap.size 1 (some ⟨g, off, none⟩) (4 :: l).length (bc (4 :: l)) := by
        have := (hr.below hbe).more hbe.size
        rwa [HN.out] at this
      have hlo : lo.length ≤ 140737488355328 := by
        by_cases h : lo.length ≤ 140737488355328
        · exact h
        · exfalso
          have h1 := el.out
          have h2 := enc_small hck
          rw [← h1] at h2
          omega
      have hnl : n = (4 :: l).length := by rw [List.length_cons]; exact HN.out
      have hq := EqualB_calls Ao lo co (some ⟨g, off, none⟩) (4 :: l) c w6 _ _ hr6 hrb hlo (by simp; omega)
      rw [← hnl] at hq
      have HNL := Lib.hid hnl
      clear hck hnl
      by_cases heq : lo = 4 :: l
      · have HD : Hid (decO geS (4 :: l) = some ⟨4, [], [], ⟨#[]⟩, [], ta, na, wh, st, te⟩) := by
          unfold Hid
          rw [hDec, if_pos ⟨rfl, HCK.out, by rw [← el.out]; exact heq⟩]
        have HQ := Lib.hid heq
        clear hDec heq hr hrb hr6 hlo
        obtain ⟨z0, z1, z2, z3, z4, z5, z6, z7, z8, z9⟩ := obj_cells hO7
        go_wp2_with ((first
          | (go_at_call 61; refine hq.mono ?_; rintro e w7 ⟨v7, n7, rfl, hv7, rfl⟩; obtain rfl := hv7.2 HQ.out)
          | (refine wpList_store_blk (by rfl) _ (.tmp 2) (.tmp 44) rfl w.heap.size [.int .i64 4, .slice none 0 0, .slice none 0 0, .string ⟨#[]⟩, .slice none 0 0, .string ta, .string na, .string wh, .int .i64 st, .string te] rfl rfl 43 zcells (hB7.drewN n7) (by kernel_rfl) rfl (o_one _ _ _ _ _ _ _ _ _ _ rfl rfl rfl) ?_; intro w8 hB8 hg8)))
        have hl := Go.run_loadVar_row (P := Try.prog) w8 w.heap.size 43 43 #[.int .i64 4, .slice none 0 0, .slice none 0 0, .string ⟨#[]⟩, .slice none 0 0, .string ta, .string na, .string wh, .int .i64 st, .string te] (0, 0) _ hB8 Try.underlying43 rfl (by kernel_rfl)
        rw [HD.out]
        have hg9 : w6.grownBy w8 (some w.heap.size) := ⟨hg8.os, hg8.tape, hg8.output, hg8.size, hg8.block⟩
        have hb9 : Below w.heap.size w w8 := hbe.grown hg9 hbe.size (fun k hk => by cases hk; exact Nat.le_refl _)
        refine bodyPost_ret (v := .tuple #[.agg #[.int .i64 4, .slice none 0 0, .slice none 0 0, .string ⟨#[]⟩, .slice none 0 0, .string ta, .string na, .string wh, .int .i64 st, .string te], .int .i64 0]) ?_ rfl ⟨4, none, [], 0, none, [], 0, ⟨#[]⟩, none, [], 0, ta, na, wh, st, te, rfl, rfl, RdN.nil, RdN.nil, RdN.nil, hb9, (Nat.zero_le _), (Nat.zero_le _), (Lib.hid (by simp))⟩
        simp [results, Try.results36, asAddr, hl]
      · have HD : Hid (decO geS (4 :: l) = none) := by
          unfold Hid
          rw [hDec, if_neg (by rintro ⟨_, _, h⟩; exact heq (by rw [el.out, h]))]
        have HQ := Lib.hid heq
        clear hDec heq hr hrb hr6 hlo
        go_wp2_with ((first
          | (go_at_call 61; refine hq.mono ?_; rintro e w7 ⟨v7, n7, rfl, hv7, rfl⟩; obtain rfl : v7 = false := Bool.eq_false_iff.2 fun h => HQ.out (hv7.1 h))
          | (refine wpList_store_blk (by rfl) _ (.tmp 2) (.tmp 43) rfl w.heap.size zcells rfl rfl 43 zcells (hB7.drewN n7) (by kernel_rfl) rfl (by decide) ?_; intro w8 hB8 hg8)))
        have hl := Go.run_loadVar_row (P := Try.prog) w8 w.heap.size 43 43 zcells.toArray (0, 0) _ hB8 Try.underlying43 rfl (by kernel_rfl)
        rw [HD.out]
        have hg9 : w6.grownBy w8 (some w.heap.size) := ⟨hg8.os, hg8.tape, hg8.output, hg8.size, hg8.block⟩
        refine bodyPost_ret (v := .tuple #[.agg zcells.toArray, .int .i64 2]) ?_ rfl ⟨rfl, hbe.grown hg9 hbe.size (fun k hk => by cases hk; exact Nat.le_refl _)⟩
        simp [results, Try.results36, asAddr, hl]
  · have hDec := dec_of (ge := geS) hPo.out
    have HD : Hid (decO geS (4 :: l) = none) := by
      unfold Hid
      rw [hDec, if_neg (by rw [hck]; simp)]
    clear hDec
    cases b3 with
    | true =>
      have e2 : w6.cell? ⟨w.heap.size + 1, 1, none⟩ = some (.int .i64 2) := e1
      clear e1
      go_wp2_with ((refine wpList_store_blk (by rfl) _ (.tmp 2) (.tmp 43) rfl w.heap.size zcells rfl rfl 43 zcells hB7 (by kernel_rfl) rfl (by decide) ?_; intro w8 hB8 hg8))
      have hl := Go.run_loadVar_row (P := Try.prog) w8 w.heap.size 43 43 zcells.toArray (0, 0) _ hB8 Try.underlying43 rfl (by kernel_rfl)
      rw [show decO geS (4 :: l) = none from HD.out]
      refine bodyPost_ret (v := .tuple #[.agg zcells.toArray, .int .i64 2]) ?_ rfl ⟨rfl, hbe.grown hg8 hbe.size (fun k hk => by cases hk; exact Nat.le_refl _)⟩
      simp [results, Try.results36, asAddr, hl]
    | false =>
      have e2 : w6.cell? ⟨w.heap.size + 1, 1, none⟩ = some (.int .i64 0) := e1
      clear e1
      go_wp2_with ((refine wpList_store_blk (by rfl) _ (.tmp 2) (.tmp 43) rfl w.heap.size zcells rfl rfl 43 zcells hB7 (by kernel_rfl) rfl (by decide) ?_; intro w8 hB8 hg8))
      have hl := Go.run_loadVar_row (P := Try.prog) w8 w.heap.size 43 43 zcells.toArray (0, 0) _ hB8 Try.underlying43 rfl (by kernel_rfl)
      rw [show decO geS (4 :: l) = none from HD.out]
      refine bodyPost_ret (v := .tuple #[.agg zcells.toArray, .int .i64 2]) ?_ rfl ⟨rfl, hbe.grown hg8 hbe.size (fun k hk => by cases hk; exact Nat.le_refl _)⟩
      simp [results, Try.results36, asAddr, hl]

theorem Decode_calls (A : Option Addr) (b : List UInt8) (c : Nat) (w : World) (hr : Rd w w.heap.size 1 A b.length (bc b)) (hc : b.length ≤ c) (hcm : c ≤ maxLen) (hl : b.length ≤ 140737488351232) :
    Calls Try.prog 36 #[.slice A b.length c] w (RetDec w (decO geS b)) := by
  cases b with
  | nil => exact Decode0_calls A c w
  | cons x l =>
    have hll : l.length ≤ 140737488351231 := by rw [List.length_cons] at hl; omega
    by_cases h1 : x = 1
    · subst h1
      exact Decode1_calls A l _ c w rfl hr hc hcm hll
    by_cases h2 : x = 2
    · subst h2
      exact Decode2_calls A l _ c w rfl hr hc hcm hll
    by_cases h3 : x = 3
    · subst h3
      exact Decode3_calls A l _ c w rfl hr hc hcm hll
    by_cases h4 : x = 4
    · subst h4
      exact Decode4_calls A l _ c w rfl hr hc hcm hll
    have hd : decO geS (x :: l) = none := by
      have hp : parseO (x :: l) = none := by
        show parseK x l = none
        unfold parseK
        rw [if_neg h1, if_neg h2, if_neg h3, if_neg h4]
      unfold decO
      rw [hp]
    rw [hd]
    exact DecodeN_calls A x l _ c w rfl hr hc hcm h1 h2 h3 h4
end Go.Proofs.Ytcefbhmmijmefaa
