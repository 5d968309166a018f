/- The walk of the law PackSmall. Conditions: the form's reach. -/
import Derived.Test.YtnaakfnbmeimaaaGreatPckAwake
import Derived.Test.YtnaakfnbmeimaaaGreatPackIdsLaw
import Derived.Test.YtnaakfnbmeimaaaGreatPackSmallLaw
import Derived.Deep.DeepCutAuto
namespace Go.Proofs.YtnaakfnbmeimaaaGreat
open Go.RowKit Go.Dol
set_option linter.unusedVariables false
/-- A blob's bytes. -/
theorem blob_ok {d : List UInt8} (h : d.length ≤ 1048576) : checkB geS ⟨1, d, [], ⟨#[]⟩, [], ⟨#[]⟩, ⟨#[]⟩, ⟨#[]⟩, 0, ⟨#[]⟩⟩ = true := by
  unfold checkB noEnts noCommit noTag noTold
  rw [if_pos rfl, decide_eq_true h]
  rfl
theorem blob_calls (A : Option Addr) (d : List UInt8) (c : Nat) (w : World) (hr : Rd w w.heap.size 1 A d.length (bc d)) (h : d.length ≤ 1048576) :
    Calls Tryz.prog 24 #[.agg #[.int .i64 1, .slice A d.length c, .slice none 0 0, .string ⟨#[]⟩, .slice none 0 0, .string ⟨#[]⟩, .string ⟨#[]⟩, .string ⟨#[]⟩, .int .i64 0, .string ⟨#[]⟩]] w
      fun e w' => Below w.heap.size w w' ∧ ∃ (l : List UInt8) (A : Option Addr) (c : Nat), Hid (l = 1 :: d) ∧ e = .returned (.tuple #[.slice A l.length c, .int .i64 0]) ∧ w'.ownsRow w.heap.size 5 1 (.slice A l.length c) l.length (bc l) := by
  refine (Encode_calls 1 A d c none [] 0 ⟨#[]⟩ none [] 0 ⟨#[]⟩ ⟨#[]⟩ ⟨#[]⟩ 0 ⟨#[]⟩ w hr Rd.nil Rd.nil (by simp) (by simp) (by unfold Hid; simp)).mono ?_
  rintro e w' ⟨hb, ⟨_, l, A', c', hl, he, ho⟩ | ⟨hc, _⟩⟩
  · exact ⟨hb, l, A', c', hl, he, ho⟩
  · rw [blob_ok h] at hc; cases hc
/-- The rounds of the first loop. -/
def SmallRel (n : Nat) (w : World) (data most d r i : Value) (wr : World) : Prop :=
  ∃ (k mo dd : Nat) (dt : List UInt8) (Ad : Option Addr) (cd : Nat) (ys : List RowB) (A : Option Addr) (c : Nat), i = .int .i64 k ∧ k ≤ n ∧ k ≤ 40 ∧ most = .int .i64 (mo : Int) ∧ d = .int .i64 (dd : Int) ∧ mo ≤ 10000 ∧ dd ≤ 100 ∧
    data = .slice Ad dt.length cd ∧ dt.length ≤ 4000 + 100 * k ∧ dt.length ≤ cd ∧ cd ≤ maxLen ∧ Far wr w.heap.size Ad dt ∧ r = .slice A ys.length c ∧ ys.length = k + 1 ∧ wr.ownsRow w.heap.size 25 1 (.slice A ys.length c) ys.length (rc ys) ∧ FarS wr w.heap.size ys ∧
    Hid (SmallOk (ys.map (·.l)) dt mo dd) ∧ Below w.heap.size w wr
/-- The rounds of the loop that adds the parts' sizes. -/
def SizeRel (l : List Pt) (s i : Value) : Prop := ∃ k : Nat, i = .int .i64 k ∧ k ≤ l.length ∧ s = .int .i64 (szs (l.take k) : Nat)
theorem max_is (a b : Nat) (w : World) : (Builtin.max_ #[3, 3] 3 #[.int .i64 (a : Int), .int .i64 (b : Int)]).run Tryz.prog w = .ok (.int .i64 ((max a b : Nat) : Int)) w := by
  rw [run_max_int2]
  congr 2
  split <;> omega
theorem min_is (a b : Nat) (w : World) : (Builtin.min_ #[3, 3] 3 #[.int .i64 (a : Int), .int .i64 (b : Int)]).run Tryz.prog w = .ok (.int .i64 ((min a b : Nat) : Int)) w := by
  rw [run_min_int2]
  congr 2
  split <;> omega
theorem szs_big {M : Nat} : ∀ (rs : List (List UInt8)) (prev : List UInt8) (d : Nat), (∀ r ∈ rs, r.length ≤ M) → szs (ptsOf prev d rs) ≤ rs.length * M
  | [], _, _, _ => Nat.zero_le _
  | r :: rs, prev, d, h => by
    have h1 := szs_big rs r (nextD d (keepL prev d r).1) fun q hq => h q (List.mem_cons_of_mem _ hq)
    have h2 := h r (List.mem_cons_self ..)
    have h3 := keepL_len prev d r
    rw [ptsOf, szs_cons, List.length_cons, Nat.add_mul]
    simp only
    omega
set_option maxRecDepth 100000 in
set_option maxHeartbeats 3200000 in
theorem packSmall_walk (A : Option Addr) (b : List UInt8) (c : Nat) (Ae : Option Addr) (es : List EdA) (ce : Nat) (w : World) (hr : Rd w w.heap.size 1 A b.length (bc b)) (hc : b.length ≤ c) (hm : c ≤ maxLen) (hn : b.length ≤ 140737488351232)
    (hre : Rd w w.heap.size 3 Ae es.length (edc es)) (hes : Eds w w.heap.size es) (hne : es.length ≤ 140737488351232) :
    Calls Tryz.prog 8 #[.slice A b.length c, .slice Ae es.length ce] w fun e w' => e = .returned (.bool true) ∧ Below w.heap.size w w' := by
  have HA := Lib.hid (awake_calls w)
  go_enter Tryz.func8, Tryz.ntmps8
  go_wp2_with fail
  refine HA.out.mono ?_
  rintro e w1 ⟨rfl, hb1⟩
  have hs1 := hb1.size
  by_cases hbig : b.length ≤ 4000
  · have d1 : decide ((4000 : Int) < (b.length : Int)) = false := decide_eq_false (by omega)
    have d1' : ¬ (4000 : Int) < (b.length : Int) := by omega
    have hE := Lib.hid (blob_calls A b c w1 ((hr.below hb1).more hs1) (by omega))
    clear HA
    go_wp2_with fail
    refine hE.out.mono ?_
    rintro e w2 ⟨hb2, l2, A2, c2, hl2, rfl, ho2⟩
    have hs2 := hb2.size
    have hol := own_le ho2
    clear hE
    have ht2 : Far w2 w.heap.size A2 l2 := (Far.of_seg (Seg.of_own ho2))
    have hb23 : Below w2.heap.size w2 (w2.alloc (.cells #[.slice A2 l2.length c2] 25)) := (Below.refl _ _).alloc (Nat.le_refl _) _
    clear ho2
    have hb02 := hb1.next hb2
    go_wp2_with (at_builtin; refine appVl rfl (.tmp 41) (.tmp 43) 23 25 _ 24 rfl Tryz.underlying23 info_rw rfl w.heap.size _ 0 [] rfl ⟨by simp, .inl ⟨rfl, rfl⟩⟩ (w2.heap.size + 1) _ 1 1 [.slice A2 l2.length c2] rfl (Rd.new1 w2 _ _) (by intro u hu; obtain rfl := List.mem_singleton.1 hu; rfl) (by unfold maxLen; omega) (by omega) (by simp; omega) ?_; intro A3 c3 w3 hown3 hb3 hg3 i3 i4)
    have hO3 : Other (w2.alloc (.cells #[.slice A2 l2.length c2] 25)) w.heap.size (Value.slice none 0 0).ownBlock := fun k hk => by cases hk
    have hfar3 : FarS w3 w.heap.size [⟨l2, A2, c2⟩] := FarS.keep (FarS.below (fun y hy => by obtain rfl := List.mem_singleton.1 hy; exact ⟨ht2, hol.1, hol.2⟩) hb23) hg3 hO3
    have hb03 : Below w.heap.size w w3 := (hb02.trans (hb23.mono hb02.size)).trans hb3
    have hst : SmallRel es.length w (.slice A b.length c) (.int .i64 (b.length : Int)) (.int .i64 0) (.slice A3 1 c3) (.int .i64 0) w3 :=
      ⟨0, b.length, 0, b, A, c, [⟨l2, A2, c2⟩], A3, c3, rfl, Nat.zero_le _, Nat.zero_le _, rfl, rfl, by omega, by omega, rfl, by omega, hc, hm, Far.of_rd (hr.below hb03) hb03.size, rfl, rfl, hown3, hfar3, by unfold Hid; rw [List.map_cons, List.map_nil, hl2.out]; exact small_start b, hb03⟩
    have HST := Lib.hid hst
    clear hst hown3 hfar3 hb03 hO3 hg3 hb23 ht2 hl2 hol hb3
    go_wp2_with fail
    go_loopw [6, 7, 8, 9, 12] (fun data most d r i wr => SmallRel es.length w data most d r i wr) (fun _ _ _ _ i _ => es.length - (intOf i).toNat)
    case atStart => exact HST.out
    case round =>
      clear HST
      obtain ⟨k, mo, dd, dt, Ad, cd, ys, A4, c4, rfl, hk, hk40, rfl, rfl, hmo, hdd, rfl, hdl, hdc, hdm, hdf, rfl, hyl, hown, hfar, hok, hbel⟩ := hrel
      have HYL := Lib.hid hyl
      have hyl1 : ys.length ≤ k + 1 := by omega
      have hyl2 : k + 1 ≤ ys.length := by omega
      clear hyl
      have hs := hbel.size
      have f1 : IntKind.i64.wrap ((k : Int) + 1) = (k : Int) + 1 := IntWalk.i64_in _ (by omega)
      by_cases h1 : k < es.length ∧ k < 40
      · obtain ⟨h1, h2⟩ := h1
        have d2 : decide ((k : Int) < (es.length : Int)) = true := decide_eq_true (by omega)
        have d2' : (k : Int) < (es.length : Int) := by omega
        have d3 : decide ((k : Int) < 40) = true := decide_eq_true (by omega)
        have d3' : (k : Int) < 40 := by omega
        have hk0 : (0 : Int) ≤ (k : Int) := by omega
        obtain ⟨x, hx⟩ : ∃ x, es[k]? = some x := ⟨es[k], List.getElem?_eq_getElem h1⟩
        obtain ⟨eb, eo, rfl, heb, hcell⟩ := (hre.below hbel).at_ (by omega)
        have q0 : wr.cell? ⟨eb, eo + k * 3, none⟩ = some (.int .i64 x.at') := hcell (k * 3 + 0) _ (edc_get hx 0 (by omega))
        have q1 : wr.cell? ⟨eb, eo + k * 3 + 1, none⟩ = some (.int .i64 x.gone) := hcell (k * 3 + 1) _ (edc_get hx 1 (by omega))
        have q2 : wr.cell? ⟨eb, eo + k * 3 + 2, none⟩ = some (.slice x.A x.l.length x.c) := hcell (k * 3 + 2) _ (edc_get hx 2 (by omega))
        obtain ⟨x1, x2, x3⟩ := hes x (List.mem_of_getElem? hx)
        obtain ⟨r1, hr1', hf1⟩ := i64_low x.at' 65535 (by omega)
        replace hf1 : bits .and .i64 x.at' 65535 = (r1 : Int) := hf1
        obtain ⟨r2, hr2', hf2⟩ := i64_low x.gone 1023 (by omega)
        replace hf2 : bits .and .i64 x.gone 1023 = (r2 : Int) := hf2
        have f2 : IntKind.i64.wrap ((dt.length : Int) + 1) = (dt.length : Int) + 1 := IntWalk.i64_in _ (by omega)
        obtain ⟨p, hp⟩ : ∃ p, p = r1 % (dt.length + 1) := ⟨_, rfl⟩
        have hpl : p ≤ dt.length := by have := Nat.mod_lt r1 (show dt.length + 1 > 0 by omega); omega
        have hpf : (r1 : Int) % ((dt.length : Int) + 1) = (p : Int) := by rw [hp]; simp
        have hz : ((dt.length : Int) + 1 == 0) = false := beq_eq_false_iff_ne.2 (by omega)
        have hzp : (0 : Int) < (dt.length : Int) + 1 := by omega
        obtain ⟨q, hq, hpq, hqb, hmin⟩ : ∃ q : Nat, q = min dt.length (p + r2) ∧ p ≤ q ∧ q ≤ dt.length ∧ ∀ w : World, (Builtin.min_ #[3, 3] 3 #[.int .i64 (dt.length : Int), .int .i64 ((p : Int) + (r2 : Int))]).run Tryz.prog w = .ok (.int .i64 (q : Int)) w := by
          refine ⟨min dt.length (p + r2), rfl, by omega, by omega, fun w => ?_⟩
          have := min_is dt.length (p + r2) w
          rw [Int.natCast_add] at this
          exact this
        have f3 : IntKind.i64.wrap ((p : Int) + (r2 : Int)) = (p : Int) + (r2 : Int) := IntWalk.i64_in _ (by omega)
        have rdt := hdf.1
        have hxr : Rd wr wr.heap.size 1 x.A x.l.length (bc x.l) := (x1.below hbel).more hs
        obtain ⟨xx, ex, jx, jx', ⟨rx, kx, kx'⟩, _, sx⟩ := sl_to (k := p) (p : Int) rfl rdt hpl hdc hdm
        obtain ⟨y, Ay, cy, ey, jy, jy', ⟨ry, ky, ky'⟩, _, _, _, sy⟩ := sl_from (k := q) (q : Int) rfl rdt hqb hdc hdm
        by_cases h100 : x.l.length ≤ 100
        · have d4 : decide ((100 : Int) < (x.l.length : Int)) = false := decide_eq_false (by omega)
          have d4' : ¬ (100 : Int) < (x.l.length : Int) := by omega
          obtain ⟨run, hrne⟩ : ∃ run, run = x.l := ⟨_, rfl⟩
          have rrun : Rd wr wr.heap.size 1 x.A run.length (bc run) := by rw [hrne]; exact hxr
          have hrun : run.length ≤ 100 := by rw [hrne]; exact h100
          rw [← hrne] at q2 d4 d4'
          clear hrne h100 hcell hx x1 hp hq
          go_wp2_with (at_builtin; refine app8 rfl (.tmp 86) (.tmp 89) rfl wr.heap.size _ 0 [] rfl ⟨by simp [bc], .inl ⟨rfl, rfl⟩⟩ wr.heap.size Ad xx.length cd xx rfl rx (by omega) (Nat.le_refl _) ?_)
          intro l1 A1' c1' w5 e1 ho1 hb5 _ _ i1 i2
          have l1l : l1.length ≤ 8000 := by rw [e1.out]; omega
          go_wp2_with (at_builtin; refine app8 rfl (.tmp 91) (.tmp 92) rfl wr.heap.size _ l1.length l1 rfl ho1 wr.heap.size x.A run.length x.c run rfl (rrun.below hb5) (by omega) hb5.size ?_)
          intro l2' A2' c2' w6 e2 ho2 hb6 _ _ i3 i4
          have l2l : l2'.length ≤ 8100 := by rw [e2.out, List.length_append]; omega
          have hb56 := hb5.trans hb6
          go_wp2_with (at_builtin; refine app8 rfl (.tmp 94) (.tmp 97) rfl wr.heap.size _ l2'.length l2' rfl ho2 wr.heap.size Ay y.length cy y rfl (ry.below hb56) (by omega) hb56.size ?_)
          intro l3 A3' c3' w7 e3 ho3 hb7 _ _ i5 i6
          have e3' : Hid (l3 = dt.take p ++ (run ++ dt.drop q)) := by unfold Hid; rw [e3.out, e2.out, e1.out, ex.out, ey.out, List.append_assoc]
          have l3l : l3.length ≤ 4000 + 100 * (k + 1) := by rw [e3'.out]; simp only [List.length_append, List.length_take, List.length_drop]; omega
          have hb57 := hb56.trans hb7
          have hbel7 := hbel.next hb57
          have hs7 := hbel7.size
          obtain ⟨m2, hm2⟩ : ∃ m2, m2 = max mo l3.length := ⟨_, rfl⟩
          obtain ⟨d2, hd2⟩ : ∃ d2, d2 = max dd run.length := ⟨_, rfl⟩
          have hok2 : Hid (SmallOk (ys.map (·.l) ++ [1 :: l3]) l3 m2 d2) := by unfold Hid; rw [hm2, hd2]; exact small_step hok.out hpq hqb (by omega) e3'.out
          have hMX1 : ∀ w : World, (Builtin.max_ #[3, 3] 3 #[.int .i64 (mo : Int), .int .i64 (l3.length : Int)]).run Tryz.prog w = .ok (.int .i64 (m2 : Int)) w := by rw [hm2]; exact max_is mo l3.length
          have hMX2 : ∀ w : World, (Builtin.max_ #[3, 3] 3 #[.int .i64 (dd : Int), .int .i64 (run.length : Int)]).run Tryz.prog w = .ok (.int .i64 (d2 : Int)) w := by rw [hd2]; exact max_is dd run.length
          have hm2l : m2 ≤ 10000 := by omega
          have hd2l : d2 ≤ 100 := by omega
          have hown7 := own_belowW hown hb57
          have hfar7 := hfar.below hb57
          have hd7 : Far w7 w.heap.size A3' l3 := Far.of_seg (Seg.of_own ho3)
          have hE := Lib.hid (blob_calls A3' l3 c3' w7 (Rd.of_own ho3) (by omega))
          clear e1 e2 e3 ho1 ho2 ho3 hb5 hb6 hb7 sx sy rx ry ex ey e3' hb56 hown hfar hok hdf hm2 hd2 rrun hb57 hbel rdt hxr
          go_wp2_with fail
          refine hE.out.mono ?_
          rintro e w8 ⟨hb8, l8, A8, c8, hl8, rfl, ho8⟩
          have hbel8 := hbel7.next hb8
          have hol := own_le ho8
          have ht8 : Far w8 w.heap.size A8 l8 := Far.of_seg (Seg.of_own ho8)
          have hown8 := own_belowW hown7 hb8
          have hfar8 := hfar7.below hb8
          have hd8 := hd7.below hb8
          have hO : Other (w8.alloc (.cells #[.slice A8 l8.length c8] 25)) w.heap.size (Value.slice A4 ys.length c4).ownBlock := Other.own (hown8.alloc _) (by decide) (Nat.le_refl _)
          have hb89 : Below w8.heap.size w8 (w8.alloc (.cells #[.slice A8 l8.length c8] 25)) := (Below.refl _ _).alloc (Nat.le_refl _) _
          have hok3 : Hid (SmallOk ((ys ++ [(⟨l8, A8, c8⟩ : RowB)]).map (·.l)) l3 m2 d2) := by unfold Hid; rw [List.map_append, List.map_cons, List.map_nil, hl8.out]; exact hok2.out
          have hs8 := hbel8.size
          clear hE ho8 hown7 hfar7 hd7 hok2 hl8 hb8 hbel7
          go_wp2_with (at_builtin; refine appVl rfl (.tmp 114) (.tmp 116) 23 25 _ 24 rfl Tryz.underlying23 info_rw rfl w.heap.size _ ys.length (rc ys) rfl (hown8.alloc _) (w8.heap.size + 1) _ 1 1 [.slice A8 l8.length c8] rfl (Rd.new1 w8 _ _) (by intro u hu; obtain rfl := List.mem_singleton.1 hu; rfl) (by unfold maxLen; omega) (by omega) (by simp; omega) ?_; intro A9 c9 w9 hown9 hb9 hg9 i9 i10)
          have hfar9 : FarS w9 w.heap.size (ys ++ [⟨l8, A8, c8⟩]) := ((hfar8.snoc (y := ⟨l8, A8, c8⟩) ht8 hol.1 hol.2).below hb89).keep hg9 hO
          have hd9 := (hd8.below hb89).keep hg9 hO
          have e5 : (ys ++ [⟨l8, A8, c8⟩] : List RowB).length = ys.length + 1 := by simp
          have ec5 : rc ys ++ [.slice A8 l8.length c8] = rc (ys ++ [⟨l8, A8, c8⟩]) := by rw [rc_app]; rfl
          rw [ec5] at hown9
          exact ⟨⟨k + 1, m2, d2, l3, A3', c3', ys ++ [⟨l8, A8, c8⟩], A9, c9, by go_num, by omega, by omega, rfl, rfl, hm2l, hd2l, rfl, l3l, i5, i6, hd9, by rw [e5], by rw [e5, HYL.out], by rw [e5]; exact hown9, hfar9, hok3, (hbel8.trans (hb89.mono hbel8.size)).trans hb9⟩, by simp [intOf]; omega⟩
        · have d4 : decide ((100 : Int) < (x.l.length : Int)) = true := decide_eq_true (by omega)
          have d4' : (100 : Int) < (x.l.length : Int) := by omega
          obtain ⟨run, hrne, jz, jz', ⟨rrun, kz, kz'⟩, _, sz⟩ := sl_to (k := 100) (100 : Int) rfl hxr (by omega) x2 x3
          have hrun : run.length ≤ 100 := by omega
          clear hrne h100 hcell hx x1 hp hq
          go_wp2_with (at_builtin; refine app8 rfl (.tmp 86) (.tmp 89) rfl wr.heap.size _ 0 [] rfl ⟨by simp [bc], .inl ⟨rfl, rfl⟩⟩ wr.heap.size Ad xx.length cd xx rfl rx (by omega) (Nat.le_refl _) ?_)
          intro l1 A1' c1' w5 e1 ho1 hb5 _ _ i1 i2
          have l1l : l1.length ≤ 8000 := by rw [e1.out]; omega
          go_wp2_with (at_builtin; refine app8 rfl (.tmp 91) (.tmp 92) rfl wr.heap.size _ l1.length l1 rfl ho1 wr.heap.size x.A run.length x.c run rfl (rrun.below hb5) (by omega) hb5.size ?_)
          intro l2' A2' c2' w6 e2 ho2 hb6 _ _ i3 i4
          have l2l : l2'.length ≤ 8100 := by rw [e2.out, List.length_append]; omega
          have hb56 := hb5.trans hb6
          go_wp2_with (at_builtin; refine app8 rfl (.tmp 94) (.tmp 97) rfl wr.heap.size _ l2'.length l2' rfl ho2 wr.heap.size Ay y.length cy y rfl (ry.below hb56) (by omega) hb56.size ?_)
          intro l3 A3' c3' w7 e3 ho3 hb7 _ _ i5 i6
          have e3' : Hid (l3 = dt.take p ++ (run ++ dt.drop q)) := by unfold Hid; rw [e3.out, e2.out, e1.out, ex.out, ey.out, List.append_assoc]
          have l3l : l3.length ≤ 4000 + 100 * (k + 1) := by rw [e3'.out]; simp only [List.length_append, List.length_take, List.length_drop]; omega
          have hb57 := hb56.trans hb7
          have hbel7 := hbel.next hb57
          have hs7 := hbel7.size
          obtain ⟨m2, hm2⟩ : ∃ m2, m2 = max mo l3.length := ⟨_, rfl⟩
          obtain ⟨d2, hd2⟩ : ∃ d2, d2 = max dd run.length := ⟨_, rfl⟩
          have hok2 : Hid (SmallOk (ys.map (·.l) ++ [1 :: l3]) l3 m2 d2) := by unfold Hid; rw [hm2, hd2]; exact small_step hok.out hpq hqb (by omega) e3'.out
          have hMX1 : ∀ w : World, (Builtin.max_ #[3, 3] 3 #[.int .i64 (mo : Int), .int .i64 (l3.length : Int)]).run Tryz.prog w = .ok (.int .i64 (m2 : Int)) w := by rw [hm2]; exact max_is mo l3.length
          have hMX2 : ∀ w : World, (Builtin.max_ #[3, 3] 3 #[.int .i64 (dd : Int), .int .i64 (run.length : Int)]).run Tryz.prog w = .ok (.int .i64 (d2 : Int)) w := by rw [hd2]; exact max_is dd run.length
          have hm2l : m2 ≤ 10000 := by omega
          have hd2l : d2 ≤ 100 := by omega
          have hown7 := own_belowW hown hb57
          have hfar7 := hfar.below hb57
          have hd7 : Far w7 w.heap.size A3' l3 := Far.of_seg (Seg.of_own ho3)
          have hE := Lib.hid (blob_calls A3' l3 c3' w7 (Rd.of_own ho3) (by omega))
          clear e1 e2 e3 ho1 ho2 ho3 hb5 hb6 hb7 sx sy rx ry ex ey e3' hb56 hown hfar hok hdf hm2 hd2 rrun hb57 hbel rdt hxr
          go_wp2_with fail
          refine hE.out.mono ?_
          rintro e w8 ⟨hb8, l8, A8, c8, hl8, rfl, ho8⟩
          have hbel8 := hbel7.next hb8
          have hol := own_le ho8
          have ht8 : Far w8 w.heap.size A8 l8 := Far.of_seg (Seg.of_own ho8)
          have hown8 := own_belowW hown7 hb8
          have hfar8 := hfar7.below hb8
          have hd8 := hd7.below hb8
          have hO : Other (w8.alloc (.cells #[.slice A8 l8.length c8] 25)) w.heap.size (Value.slice A4 ys.length c4).ownBlock := Other.own (hown8.alloc _) (by decide) (Nat.le_refl _)
          have hb89 : Below w8.heap.size w8 (w8.alloc (.cells #[.slice A8 l8.length c8] 25)) := (Below.refl _ _).alloc (Nat.le_refl _) _
          have hok3 : Hid (SmallOk ((ys ++ [(⟨l8, A8, c8⟩ : RowB)]).map (·.l)) l3 m2 d2) := by unfold Hid; rw [List.map_append, List.map_cons, List.map_nil, hl8.out]; exact hok2.out
          have hs8 := hbel8.size
          clear hE ho8 hown7 hfar7 hd7 hok2 hl8 hb8 hbel7
          go_wp2_with (at_builtin; refine appVl rfl (.tmp 114) (.tmp 116) 23 25 _ 24 rfl Tryz.underlying23 info_rw rfl w.heap.size _ ys.length (rc ys) rfl (hown8.alloc _) (w8.heap.size + 1) _ 1 1 [.slice A8 l8.length c8] rfl (Rd.new1 w8 _ _) (by intro u hu; obtain rfl := List.mem_singleton.1 hu; rfl) (by unfold maxLen; omega) (by omega) (by simp; omega) ?_; intro A9 c9 w9 hown9 hb9 hg9 i9 i10)
          have hfar9 : FarS w9 w.heap.size (ys ++ [⟨l8, A8, c8⟩]) := ((hfar8.snoc (y := ⟨l8, A8, c8⟩) ht8 hol.1 hol.2).below hb89).keep hg9 hO
          have hd9 := (hd8.below hb89).keep hg9 hO
          have e5 : (ys ++ [⟨l8, A8, c8⟩] : List RowB).length = ys.length + 1 := by simp
          have ec5 : rc ys ++ [.slice A8 l8.length c8] = rc (ys ++ [⟨l8, A8, c8⟩]) := by rw [rc_app]; rfl
          rw [ec5] at hown9
          exact ⟨⟨k + 1, m2, d2, l3, A3', c3', ys ++ [⟨l8, A8, c8⟩], A9, c9, by go_num, by omega, by omega, rfl, rfl, hm2l, hd2l, rfl, l3l, i5, i6, hd9, by rw [e5], by rw [e5, HYL.out], by rw [e5]; exact hown9, hfar9, hok3, (hbel8.trans (hb89.mono hbel8.size)).trans hb9⟩, by simp [intOf]; omega⟩
      · clear hr hre hes
        have hrd := Rd.of_own hown
        have hfew : ∀ y ∈ ys, y.l.length ≤ 10001 := fun y hy => by
          obtain ⟨r, rs, e, _, _, h⟩ := hok.out
          have := h y.l (by rw [← e]; exact List.mem_map.2 ⟨y, hy, rfl⟩)
          omega
        have hB := Build_calls A4 ys c4 wr hrd hfar.rws (by omega) (fun y hy => Nat.le_trans (hfew y hy) (by omega))
        obtain ⟨rs, hrs⟩ : ∃ rs, rs = ys.map (·.l) := ⟨_, rfl⟩
        rw [← hrs] at hB hok
        have hrl : rs.length = ys.length := by rw [hrs]; simp
        have HRL := Lib.hid hrl
        have hrfew : ∀ r ∈ rs, r.length ≤ 10001 := by
          intro r hr
          rw [hrs] at hr
          obtain ⟨x, hx, rfl⟩ := List.mem_map.1 hr
          exact hfew x hx
        have HRF := Lib.hid hrfew
        have HB := Lib.hid hB
        have hfin : ¬ ((k : Int) < (es.length : Int) ∧ (k : Int) < 40) := fun h => h1 ⟨by omega, by omega⟩
        clear hB hrs hrl hown hfar hdf hrd hfew hrfew
        go_upto_region 11 with (fail)
        go_cut [52] (fun v wx => v = .bool false ∧ wx = wr)
        case first =>
          by_cases hkl : k < es.length
          · have d2 : decide ((k : Int) < (es.length : Int)) = true := decide_eq_true (by omega)
            have d2' : (k : Int) < (es.length : Int) := by omega
            have d3 : decide ((k : Int) < 40) = false := decide_eq_false (by omega)
            have d3' : ¬ (k : Int) < 40 := by omega
            clear hfin h1
            go_wp2_with fail
            go_meet
            exact ⟨rfl, rfl⟩
          · have d2 : decide ((k : Int) < (es.length : Int)) = false := decide_eq_false (by omega)
            have d2' : ¬ (k : Int) < (es.length : Int) := by omega
            clear hfin h1
            go_wp2_with fail
            go_meet
            exact ⟨rfl, rfl⟩
        case rest =>
        obtain ⟨rfl, hwx⟩ := hcut
        subst hwx
        clear hfin h1 f1
        go_wp2_with fail
        refine HB.out.mono ?_
        rintro e w3' ⟨hb3', hm3⟩
        clear HB
        have hb03 := hbel.next hb3'
        cases hbl : buildL geS rs with
        | none =>
          rw [hbl] at hm3
          obtain rfl : e = .returned (.tuple #[.slice none 0 0, .int .i64 1]) := hm3
          clear hbl
          go_wp2_with fail
          go_ret
          exact ⟨rfl, hb03⟩
        | some bb =>
          rw [hbl] at hm3
          obtain ⟨bl, A5, c5, hbl3, rfl, ho3, i1, i2⟩ := hm3
          have hblen : bl.length ≤ 100000000 := by rw [hbl3.out]; exact build_len hbl (fun r hr => Nat.le_trans (HRF.out r hr) (by omega)) (by rw [HRL.out]; omega)
          have hP := Parse_calls A5 bl c5 w3' (Rd.of_own ho3) i1 i2 (by omega)
          rw [show parseL geS bl = some (ptsOf [] 0 rs) by rw [hbl3.out]; exact parse_build obj_few hbl] at hP
          have HP := Lib.hid hP
          clear hP hbl ho3 i1 i2 hbl3 hblen
          go_wp2_with fail
          refine HP.out.mono ?_
          rintro e w4 ⟨hb4, g, ps, A6, c6, m, hps, rfl, hpk⟩
          have hpl : ps.length = ys.length := by
            rw [← HRL.out, ← pts_length rs [] 0, ← hps.out]; simp [ptp]
          have HPL3 := Lib.hid hpl
          have hpl1 : ps.length ≤ ys.length := by omega
          have HPP := Lib.hid (Parts_calls hpk (by omega))
          clear hpl
          have HID : Hid (ptp ps = ptsOf [] 0 rs) := hps
          have hsz := small_end hok.out
          rw [HRL.out, ← HID.out] at hsz
          have hsb := szs_big rs [] 0 HRF.out
          rw [← HID.out, HRL.out] at hsb
          have hsb2 : szs (ptp ps) ≤ 41 * 10001 := Nat.le_trans hsb (Nat.mul_le_mul_right _ (by omega))
          obtain ⟨M, hM⟩ : ∃ M, M = (ys.length + 7) / 8 := ⟨_, rfl⟩
          have hM2 : M ≤ 6 := by omega
          have hMul : M * (mo + 1) ≤ 6 * 10001 := Nat.mul_le_mul hM2 (by omega)
          have hMul2 : ys.length * (dd + 40) ≤ 41 * 140 := Nat.mul_le_mul (by omega) (by omega)
          rw [← hM] at hsz
          obtain ⟨P1, hP1⟩ : ∃ P1, P1 = M * (mo + 1) := ⟨_, rfl⟩
          obtain ⟨P2, hP2⟩ : ∃ P2, P2 = ys.length * (dd + 40) := ⟨_, rfl⟩
          rw [← hP1] at hsz hMul
          rw [← hP2] at hsz hMul2
          have g1 : IntKind.i64.wrap ((ys.length : Int) + 7) = (ys.length : Int) + 7 := IntWalk.i64_in _ (by omega)
          have g2 : ((ys.length : Int) + 7) / 8 = (M : Int) := by omega
          have g2' : ((ys.length : Int) + 7).tdiv 8 = (M : Int) := by rw [Int.tdiv_eq_ediv_of_nonneg (by omega)]; exact g2
          have g3 : IntKind.i64.wrap ((mo : Int) + 1) = (mo : Int) + 1 := IntWalk.i64_in _ (by omega)
          have g4 : (M : Int) * ((mo : Int) + 1) = (P1 : Int) := by rw [hP1]; simp
          have g5 : IntKind.i64.wrap (P1 : Int) = (P1 : Int) := IntWalk.i64_in _ (by omega)
          have g5b : IntKind.i64.wrap (M : Int) = (M : Int) := IntWalk.i64_in _ (by omega)
          have g6 : IntKind.i64.wrap ((dd : Int) + 40) = (dd : Int) + 40 := IntWalk.i64_in _ (by omega)
          have g7 : (ys.length : Int) * ((dd : Int) + 40) = (P2 : Int) := by rw [hP2]; simp
          have g8 : IntKind.i64.wrap (P2 : Int) = (P2 : Int) := IntWalk.i64_in _ (by omega)
          have g9 : IntKind.i64.wrap ((P1 : Int) + (P2 : Int)) = (P1 : Int) + (P2 : Int) := IntWalk.i64_in _ (by omega)
          have g10 : decide ((szs (ptp ps) : Int) ≤ (P1 : Int) + (P2 : Int)) = true := decide_eq_true (by omega)
          have g10' : (szs (ptp ps) : Int) ≤ (P1 : Int) + (P2 : Int) := by omega
          clear hsz hsb hMul hMul2 hP1 hP2 hM HP hpk hps hok
          go_wp2_with fail
          refine HPP.out.mono ?_
          rintro e w5 ⟨A7, c7, rfl, ho5, hb5⟩
          have hrd5 := Rd.of_own ho5
          have hb05 := (hb03.next hb4).next hb5
          clear HPP ho5 hb5 hb4
          go_wp2_with fail
          have hpl2 : (ptp ps).length = ps.length := by simp [ptp]
          have HPL := Lib.hid hpl2
          clear hpl2
          go_loop [24, 26] (fun s i => SizeRel (ptp ps) s i) (fun _ i => ps.length - (intOf i).toNat)
          case atStart => exact ⟨0, rfl, Nat.zero_le _, rfl⟩
          case round =>
            obtain ⟨j, rfl, hj, rfl⟩ := hrel
            rw [HPL.out] at hj
            have hpl := HPL3.out
            have f2 : IntKind.i64.wrap ((j : Int) + 1) = (j : Int) + 1 := IntWalk.i64_in _ (by omega)
            by_cases h2 : j < ps.length
            · have d2 : decide ((j : Int) < (ps.length : Int)) = true := decide_eq_true (by omega)
              have d2' : (j : Int) < (ps.length : Int) := by omega
              have hj0 : (0 : Int) ≤ (j : Int) := by omega
              obtain ⟨p, hp⟩ : ∃ p, ps[j]? = some p := ⟨ps[j], List.getElem?_eq_getElem h2⟩
              have hpp : (ptp ps)[j]? = some p.p := by simp [ptp, hp]
              obtain ⟨pb, po, rfl, hpb, hcp⟩ := hrd5.at_ (by omega)
              have q2 : w5.cell? ⟨pb, po + j * 4 + 3, none⟩ = some (.int .i64 (p.p.size : Nat)) := hcp (j * 4 + 3) _ (ptc_get hp 3 (by omega))
              have hst := szs_take hpp
              have hsm := szs_mono (l := ptp ps) (j + 1)
              obtain ⟨s1, hs1'⟩ : ∃ s1, s1 = szs ((ptp ps).take j) := ⟨_, rfl⟩
              obtain ⟨s2, hs2'⟩ : ∃ s2, s2 = szs ((ptp ps).take (j + 1)) := ⟨_, rfl⟩
              rw [← hs1', ← hs2'] at hst
              rw [← hs2'] at hsm
              rw [← hs1']
              have f3 : IntKind.i64.wrap ((s1 : Int) + (p.p.size : Int)) = (s1 : Int) + (p.p.size : Int) := IntWalk.i64_in _ (by omega)
              have HST := Lib.hid hst
              have HS2 := Lib.hid hs2'
              have HJ : Hid (j + 1 ≤ (ptp ps).length) := by unfold Hid; rw [HPL.out]; omega
              clear hcp hp hpp hst hsm hs1' hs2' hpl
              go_wp2_with fail
              exact ⟨⟨j + 1, by go_num, HJ.out, by rw [← HS2.out, HST.out]; simp⟩, by simp [intOf]; omega⟩
            · have d2 : decide ((j : Int) < (ps.length : Int)) = false := decide_eq_false (by omega)
              have d2' : ¬ (j : Int) < (ps.length : Int) := by omega
              have hj2 : j = (ptp ps).length := by rw [HPL.out]; omega
              have hj3 : (ptp ps).take j = ptp ps := by rw [hj2, List.take_length]
              rw [hj3]
              clear hj2 hj3 h2 hpl hrd5
              go_wp2_with fail
              go_ret
              exact ⟨rfl, hb05⟩
  · have d1 : decide ((4000 : Int) < (b.length : Int)) = true := decide_eq_true (by omega)
    have d1' : (4000 : Int) < (b.length : Int) := by omega
    go_wp2_with fail
    go_ret
    exact ⟨rfl, hb1⟩
end Go.Proofs.YtnaakfnbmeimaaaGreat
