/- The walk of the law LooseHolds: what was put is got. Conditions: objects that read. -/
import Derived.Test.YtecpbcmpncgokaaGreatAppS
namespace Go.Proofs.YtecpbcmpncgokaaGreat
open Go.RowKit Go.Dol
set_option linter.unusedVariables false
/-- Two rows of texts that lie apart. -/
structure TwoS (w : World) (base : Nat) (A : Option Addr) (c : Nat) (xs : List ByteArray) (A2 : Option Addr) (c2 : Nat) (ys : List ByteArray) : Prop where
  one : w.ownsRow base 9 1 (.slice A xs.length c) xs.length (sc xs)
  two : w.ownsRow base 9 1 (.slice A2 ys.length c2) ys.length (sc ys)
  apart : ∀ k, (Value.slice A xs.length c).ownBlock = some k → (Value.slice A2 ys.length c2).ownBlock ≠ some k
section
variable {w w' : World} {g m base : Nat} {D : Dk} {A A2 : Option Addr} {c c2 : Nat} {xs ys : List ByteArray}
theorem TwoS.nil (w : World) (base : Nat) : TwoS w base none 0 [] none 0 [] := ⟨World.ownsRow_nil _ _ _ _, World.ownsRow_nil _ _ _ _, fun k h => by cases h⟩
theorem TwoS.below (h : TwoS w base A c xs A2 c2 ys) (hb : Below w.heap.size w w') : TwoS w' base A c xs A2 c2 ys := ⟨own_belowW h.one hb, own_belowW h.two hb, h.apart⟩
theorem TwoS.tw (h : TwoS w base A c xs A2 c2 ys) (hD : Dsk w g m D) (ht : Tw w w' g m) : TwoS w' base A c xs A2 c2 ys := ⟨own_tw hD ht h.one (by decide), own_tw hD ht h.two (by decide), h.apart⟩
theorem TwoS.app1 {x : ByteArray} {A' : Option Addr} {c' : Nat} (h : TwoS w base A c xs A2 c2 ys) (ho : w'.ownsRow base 9 1 (.slice A' (xs.length + 1) c') (xs.length + 1) (sc xs ++ [.string x])) (hg : w.grownBy w' (Value.slice A xs.length c).ownBlock)
    (hl : (Value.slice A' (xs.length + 1) c').ownBlock = (Value.slice A xs.length c).ownBlock ∨ (Value.slice A' (xs.length + 1) c').ownBlock = some w.heap.size) : TwoS w' base A' c' (xs ++ [x]) A2 c2 ys := by
  have e : (xs ++ [x]).length = xs.length + 1 := by simp
  refine ⟨by rw [e, sc_snoc]; exact ho, own_block h.two fun k hk => hg.block k (own_blockLt h.two k hk).2 fun e2 => h.apart k e2.symm hk, fun k hk h2 => ?_⟩
  rw [e] at hk
  rcases hl with h3 | h3
  · exact h.apart k (h3.symm.trans hk) h2
  · rw [h3] at hk
    injection hk with hk
    have := (own_blockLt h.two k h2).2
    omega
theorem TwoS.app2 {y : ByteArray} {A' : Option Addr} {c' : Nat} (h : TwoS w base A c xs A2 c2 ys) (ho : w'.ownsRow base 9 1 (.slice A' (ys.length + 1) c') (ys.length + 1) (sc ys ++ [.string y])) (hg : w.grownBy w' (Value.slice A2 ys.length c2).ownBlock)
    (hl : (Value.slice A' (ys.length + 1) c').ownBlock = (Value.slice A2 ys.length c2).ownBlock ∨ (Value.slice A' (ys.length + 1) c').ownBlock = some w.heap.size) : TwoS w' base A c xs A' c' (ys ++ [y]) := by
  have e : (ys ++ [y]).length = ys.length + 1 := by simp
  refine ⟨own_block h.one fun k hk => hg.block k (own_blockLt h.one k hk).2 fun e2 => h.apart k hk e2.symm, by rw [e, sc_snoc]; exact ho, fun k hk h2 => ?_⟩
  rw [e] at h2
  rcases hl with h3 | h3
  · exact h.apart k hk (h3.symm.trans h2)
  · rw [h3] at h2
    injection h2 with h2
    have := (own_blockLt h.one k hk).2
    omega
end
/-- A calm disk of objects alone that holds these ones. -/
structure HoOk (D : Dk) (k : Nat) (ps : List (List UInt8)) : Prop where
  calm : CalmD D
  fo : FO D
  room : 1099511627776 - 2621600 * (k : Int) ≤ frD D
  has : ∀ p ∈ ps, isObjL geS p = true ∧ getO geS D (idO p) = .ok p
theorem HoOk.next {D : Dk} {k : Nat} {ps : List (List UInt8)} (h : HoOk D k ps) : HoOk D (k + 1) ps := ⟨h.calm, h.fo, by have := h.room; omega, h.has⟩
theorem HoOk.put {D : Dk} {k : Nat} {ps : List (List UInt8)} (h : HoOk D k ps) (hk : k < 30) {raw : List UInt8} (h1 : isObjL geS raw = true) :
    (putO geS D raw = (.error 7, D) ∧ HoOk D (k + 1) ps) ∨ ∃ D', putO geS D raw = (.ok (idO raw), D') ∧ HoOk D' (k + 1) (ps ++ [raw]) := by
  have hp := press_few h1
  have hroom := h.room
  rcases put_good h.calm h.fo h1 (by omega) with ⟨b, _, _, e⟩ | ⟨hg, e⟩ | ⟨D', hg, e, c1, c2, _, _, _, c6, c7, c8⟩
  · exact .inl ⟨e, h.next⟩
  · refine .inr ⟨D, e, h.calm, h.fo, h.next.room, fun p hp => ?_⟩
    rcases List.mem_append.1 hp with hp | hp
    · exact h.has p hp
    · obtain rfl := List.mem_singleton.1 hp
      exact ⟨h1, hg⟩
  · refine .inr ⟨D', e, c1, c2, by omega, fun p hp => ?_⟩
    rcases List.mem_append.1 hp with hp | hp
    · obtain ⟨p1, p2⟩ := h.has p hp
      refine ⟨p1, ?_⟩
      by_cases he : idO p = idO raw
      · rw [he, hg] at p2
        cases p2
      · rw [c7 _ (idO_size p) he]
        exact p2
    · obtain rfl := List.mem_singleton.1 hp
      exact ⟨h1, c6⟩
theorem put_there {D : Dk} {p : List UInt8} (h1 : isObjL geS p = true) (h : getO geS D (idO p) = .ok p) : putO geS D p = (.ok (idO p), D) := by
  rw [putO_in h1, h]
  simp only
  rw [if_pos trivial]
theorem own_apartT {w : World} {b1 b2 : Nat} {e1 e2 : TypeId} {s1 s2 n1 n2 : Nat} {v1 v2 : Value} {xs ys : List Value} (h1 : w.ownsRow b1 e1 s1 v1 n1 xs) (h2 : w.ownsRow b2 e2 s2 v2 n2 ys) (he : e1 ≠ e2) : v2.ownBlock = none ∨ v2.ownBlock ≠ v1.ownBlock := by
  rcases h2.2 with ⟨rfl, _⟩ | ⟨k2, cap, cur2, rfl, _, hh2, _⟩
  · exact .inl rfl
  · refine .inr fun e' => ?_
    rcases h1.2 with ⟨rfl, _⟩ | ⟨k1, cap1, cur1, rfl, _, hh1, _⟩
    · cases e'
    · have e3 : k2 = k1 := by simpa [Value.ownBlock] using e'
      rw [e3, hh1] at hh2
      injection hh2 with hh2
      injection hh2 with _ hh2
      exact he hh2
def HoRel (l : List ObA) (g m : Nat) (w : World) (v1 v2 i : Value) (wr : World) : Prop :=
  ∃ (k : Nat) (D : Dk) (ps : List (List UInt8)) (n : Nat) (A1 : Option Addr) (c1 : Nat) (A2 : Option Addr) (c2 : Nat), i = .int .i64 k ∧ k ≤ l.length ∧ k ≤ 30 ∧ v1 = .slice A1 n c1 ∧ v2 = .slice A2 n c2 ∧ Hid (ps.length = n) ∧ n ≤ k ∧ Hid (TwoS wr w.heap.size A1 c1 (ps.map idO) A2 c2 (ps.map idS)) ∧ Dsk wr g m D ∧ HoOk D k ps ∧ Below w.heap.size w wr
def HoRel2 (D : Dk) (ps : List (List UInt8)) (n : Nat) (A1 : Option Addr) (c1 : Nat) (A2 : Option Addr) (c2 g m : Nat) (w : World) (i : Value) (wr : World) : Prop :=
  ∃ k : Nat, i = .int .i64 k ∧ k ≤ n ∧ Hid (TwoS wr w.heap.size A1 c1 (ps.map idO) A2 c2 (ps.map idS)) ∧ Dsk wr g m D ∧ Below w.heap.size w wr
set_option maxRecDepth 100000 in
set_option maxHeartbeats 6400000 in
theorem looseHolds_walk (A : Option Addr) (l : List ObA) (c : Nat) (w : World) (hr : Rd w w.heap.size 10 A l.length (oc l)) (hos : Obs w w.heap.size l) (hl : l.length ≤ 140737488351232) :
    Calls Tryz.prog 7 #[.slice A l.length c] w fun e w' => e = .returned (.bool true) ∧ Below w.heap.size w w' := by
  have HA := Lib.hid (awake7_calls w)
  go_enter Tryz.func7, Tryz.ntmps7
  go_wp2_with fail
  refine HA.out.mono ?_
  rintro e w1 ⟨rfl, hb1⟩
  go_wp2_with fail
  refine (DNew_calls 1099511627776 w1 (by omega) (by omega)).mono ?_
  rintro e w2 ⟨g, m, rfl, hD2, hg2, hm2, hb2⟩
  have hb02 := hb1.next hb2
  have hs1 := hb1.size
  have hgw : w.heap.size ≤ g := by omega
  have hmw : w.heap.size ≤ m := by omega
  have hO2 : HoOk (newD 1099511627776) 0 [] := ⟨newD_calm _ (by omega) (by omega), newD_FO _, by rw [newD_free _ (by omega) (by omega)]; omega, fun p hp => (List.not_mem_nil hp).elim⟩
  clear HA
  go_wp2_with fail
  go_loopw [6, 7, 8] (fun v1 v2 i wr => HoRel l g m w v1 v2 i wr) (fun _ _ i _ => l.length - (intOf i).toNat)
  case atStart => exact ⟨0, _, [], 0, none, 0, none, 0, rfl, Nat.zero_le _, Nat.zero_le _, rfl, rfl, rfl, Nat.le_refl _, TwoS.nil _ _, hD2, hO2, hb02⟩
  case round =>
    clear hD2 hO2 hb02 hb1 hb2 hs1
    obtain ⟨k, D, ps, n, A1, c1, A2, c2, rfl, hk, hk30, rfl, rfl, hpn, hnk, hT, hD, hO, hb⟩ := hrel
    have hs := hb.size
    have f1 : IntKind.i64.wrap ((k : Int) + 1) = (k : Int) + 1 := IntWalk.i64_in _ (by omega)
    by_cases h1 : k < l.length ∧ k < 30
    · obtain ⟨h1, h2⟩ := h1
      have d1 : decide ((k : Int) < (l.length : Int)) = true := decide_eq_true (by omega)
      have d1' : (k : Int) < (l.length : Int) := by omega
      have d2 : decide ((k : Int) < 30) = true := decide_eq_true (by omega)
      have d2' : (k : Int) < 30 := by omega
      have hk0 : (0 : Int) ≤ (k : Int) := by omega
      obtain ⟨x, hx⟩ : ∃ x, l[k]? = some x := ⟨l[k], List.getElem?_eq_getElem h1⟩
      obtain ⟨bb, off, rfl, hbb, hcell⟩ := (hr.below hb).at_ (by omega)
      obtain ⟨x1, x2, x3, x4, x5, x6⟩ := hos x (List.mem_of_getElem? hx)
      obtain ⟨q0, q1, q2, q3, q4, q5, q6, q7, q8, q9⟩ := obs_cells hcell hx
      have hE := Encode_calls x.k x.Ad x.d x.cd x.Ae x.en x.ce x.tr x.Ap x.pa x.cp x.ta x.na x.wh x.st x.te wr ((x1.below hb).more hs) ((x2.below hb).more hs) ((x3.below hb).more hs) x4 x5 (Lib.hid x6.out.2)
      have HE := Lib.hid hE
      clear hE hcell hx x1 x2 x3 x4 x5 x6
      go_wp2_with fail
      refine HE.out.mono ?_
      rintro e w4 ⟨hb4, ⟨hc, raw, A4, c4, el, rfl, ho4⟩ | ⟨hc, rfl⟩⟩
      · have hobj : isObjL geS raw = true := by rw [el.out]; exact (by unfold isObjL; rw [dec_enc hc]; rfl)
        have hfew := obj_few raw hobj
        have hol := own_le ho4
        have hD4 := hD.below hb4
        have hT4 := hT.out.below hb4
        have hb04 := hb.next hb4
        have hKW := hO.calm.ok.toW
        have hlen := hO.calm.ok.lenW
        have hP := PutO_calls hD4 hKW (by omega) A4 raw c4 (Rd.of_own ho4) hol.1 hol.2 (by omega)
        have HO4 := Lib.hid hobj
        clear HE hc el hT
        rcases hO.put h2 hobj with ⟨he, hO5⟩ | ⟨D', he, hO5⟩
        · rw [he] at hP
          have HP := Lib.hid hP
          clear hP he hO
          go_wp2_with fail
          refine HP.out.mono ?_
          intro e w5 h9
          obtain ⟨rfl, hD5, ht5⟩ := h9.err
          have hT5 := Lib.hid (hT4.tw hD4 ht5)
          have hb05 := Tw.new hb04 ht5 hgw hmw
          go_wp2_with fail
          exact ⟨⟨k + 1, D, ps, n, A1, c1, A2, c2, by go_num, by omega, by omega, rfl, rfl, hpn, by omega, hT5, hD5, hO5, hb05⟩, by simp [intOf]; omega⟩
        · rw [he] at hP
          have HP := Lib.hid hP
          clear hP he hO
          go_wp2_with fail
          refine HP.out.mono ?_
          intro e w5 h9
          obtain ⟨rfl, hD5, ht5⟩ := h9.ok
          have hT5 := hT4.tw hD4 ht5
          have ho5 := own_tw hD4 ht5 ho4 (by decide)
          have hb05 := Tw.new hb04 ht5 hgw hmw
          have HS := Lib.hid (SumO_calls A4 raw c4 w5 (Rd.of_own ho5) (by omega))
          have hn1 : (ps.map idO).length = n := by rw [List.length_map]; exact hpn.out
          have hn2 : (ps.map idS).length = n := by rw [List.length_map]; exact hpn.out
          clear hT4 HP
          go_wp2_with fail
          refine HS.out.mono ?_
          rintro e w6 ⟨rfl, hb6⟩
          have hT6 := hT5.below hb6
          have ho6 := own_belowW ho5 hb6
          have hD6 := hD5.below hb6
          have hb06 := hb05.next hb6
          have hs6 := hb06.size
          have hR1 := Rd.new1 w6 9 (.string (idO raw))
          have hb67 : Below w6.heap.size w6 (w6.alloc (.cells #[.string (idO raw)] 9)) := (Below.refl _ _).alloc (Nat.le_refl _) _
          have hT7 := hT6.below hb67
          have ho1 := hT7.one
          rw [hn1] at ho1
          clear hT5 HS
          go_wp2_with (first
            | (at_builtin; refine appVl2 rfl _ _ 38 9 (.string ⟨#[]⟩) 16 rfl Tryz.underlying38 info_stC rfl w.heap.size (.slice A1 n c1) n (sc (ps.map idO)) rfl ho1 _ _ 1 1 [.string (idO raw)] rfl hR1 (by intro u hu; obtain rfl := List.mem_singleton.1 hu; rfl) (by unfold maxLen; omega) (by omega) (by simp; omega) ?_
               intro A7 c7 w7 ho7 hb7 hg7 hl7 _ _
               have hT8 := hT7.app1 (x := idO raw) (A' := A7) (c' := c7) (by rw [hn1]; exact ho7) (by rw [hn1]; exact hg7) (by rw [hn1]; exact hl7.out)
               have hb8 : Below w7.heap.size w7 (w7.alloc (.cells #[.string (idS raw)] 9)) := (Below.refl _ _).alloc (Nat.le_refl _) _
               have hT9 := hT8.below hb8
               have ho9 := hT9.two
               rw [hn2] at ho9
               have ho7r := (own_belowW ho6 hb67).kept hg7 (own_apartT ho1 (own_belowW ho6 hb67) (by decide))
               have cv : (convert 36 9 (.slice A4 raw.length c4)).run Tryz.prog w7 = .ok (.string (idS raw)) w7 := conv8f (Rd.of_own ho7r)
               have hR9 := Rd.new1 w7 9 (.string (idS raw))
               have hs7 := hg7.size)
            | (at_builtin; refine appVl2 rfl _ _ 38 9 (.string ⟨#[]⟩) 16 rfl Tryz.underlying38 info_stC rfl w.heap.size (.slice A2 n c2) n (sc (ps.map idS)) rfl ho9 _ _ 1 1 [.string (idS raw)] rfl hR9 (by intro u hu; obtain rfl := List.mem_singleton.1 hu; rfl) (by unfold maxLen; omega) (by omega) (by simp at hs7 ⊢; omega) ?_
               intro A9 c9 w9 ho10 hb9 hg9 hl9 _ _))
          have hT10 := hT9.app2 (y := idS raw) (A' := A9) (c' := c9) (by rw [hn2]; exact ho10) (by rw [hn2]; exact hg9) (by rw [hn2]; exact hl9.out)
          have hD7 := (hD6.below hb67).own ho1 (by decide) (by decide) hg7
          have hD9 := (hD7.below hb8).own ho9 (by decide) (by decide) hg9
          have hb09 := (((hb06.next hb67).trans hb7).next hb8).trans hb9
          refine ⟨⟨k + 1, D', ps ++ [raw], n + 1, A7, c7, A9, c9, by go_num, by omega, by omega, rfl, rfl, ?_, by omega, ?_, hD9, hO5, hb09⟩, by simp [intOf]; omega⟩
          · unfold Hid
            rw [List.length_append, hpn.out]
            rfl
          · unfold Hid
            rw [List.map_append, List.map_append]
            exact hT10
      · have hT4 := Lib.hid (hT.out.below hb4)
        clear HE
        go_wp2_with fail
        exact ⟨⟨k + 1, D, ps, n, A1, c1, A2, c2, by go_num, by omega, by omega, rfl, rfl, hpn, by omega, hT4, hD.below hb4, hO.next, hb.next hb4⟩, by simp [intOf]; omega⟩
    · have hfin : ¬ ((k : Int) < (l.length : Int) ∧ (k : Int) < 30) := fun h => h1 ⟨by omega, by omega⟩
      go_upto_region 6 with (fail)
      go_cut [31] (fun v wx => v = .bool false ∧ wx = wr)
      case first =>
        by_cases hkl : k < l.length
        · have d1 : decide ((k : Int) < (l.length : Int)) = true := decide_eq_true (by omega)
          have d1' : (k : Int) < (l.length : Int) := by omega
          have d2 : decide ((k : Int) < 30) = false := decide_eq_false (by omega)
          have d2' : ¬ (k : Int) < 30 := by omega
          clear hfin h1
          go_wp2_with fail
          go_meet
          exact ⟨rfl, rfl⟩
        · have d1 : decide ((k : Int) < (l.length : Int)) = false := decide_eq_false (by omega)
          have d1' : ¬ (k : Int) < (l.length : Int) := by omega
          clear hfin h1
          go_wp2_with fail
          go_meet
          exact ⟨rfl, rfl⟩
      case rest =>
      obtain ⟨rfl, hwx⟩ := hcut
      obtain rfl := hwx.symm
      have hn30 : n ≤ 30 := by omega
      clear hfin h1 f1 hk hk30 hnk hr hos hl
      have HOp := Lib.hid (Ops_calls hD)
      go_wp2_with fail
      refine HOp.out.mono ?_
      rintro e w3 ⟨rfl, hw3⟩
      obtain rfl := hw3.symm
      clear HOp
      go_wp2_with fail
      have hK := hO.calm.ok
      have hlen := hK.lenW
      have HH := Lib.hid hO.has
      clear hO
      go_loopw [14] (fun i wq => HoRel2 D ps n A1 c1 A2 c2 g m w i wq) (fun i _ => n - (intOf i).toNat)
      case atStart => exact ⟨0, rfl, Nat.zero_le _, hT, hD, hb⟩
      case round =>
        clear hT hD hb hs
        obtain ⟨k, rfl, hk, hT, hD, hb⟩ := hrel
        have f1 : IntKind.i64.wrap ((k : Int) + 1) = (k : Int) + 1 := IntWalk.i64_in _ (by omega)
        by_cases h1 : k < n
        · have d1 : decide ((k : Int) < (n : Int)) = true := decide_eq_true (by omega)
          have d1' : (k : Int) < (n : Int) := by omega
          have hk0 : (0 : Int) ≤ (k : Int) := by omega
          obtain ⟨p, hp⟩ : ∃ p, ps[k]? = some p := ⟨_, List.getElem?_eq_getElem (by rw [hpn.out]; exact h1)⟩
          obtain ⟨p1, p2⟩ := HH.out p (List.mem_of_getElem? hp)
          have hfew := obj_few p p1
          have e1 : (ps.map idO).length = n := by rw [List.length_map]; exact hpn.out
          have e2 : (ps.map idS).length = n := by rw [List.length_map]; exact hpn.out
          have hr1 := Rd.of_own hT.out.one
          have hr2 := Rd.of_own hT.out.two
          rw [e1] at hr1
          rw [e2] at hr2
          have hg1 : (sc (ps.map idO))[k]? = some (.string (idO p)) := by rw [sc, List.getElem?_map, List.getElem?_map, hp]; rfl
          have hg2 : (sc (ps.map idS))[k]? = some (.string (idS p)) := by rw [sc, List.getElem?_map, List.getElem?_map, hp]; rfl
          have hi32 := idO_size p
          have hGo := GetO_calls hD hK.toW (idO p) (by omega)
          rw [p2] at hGo
          have HG := Lib.hid hGo
          have HP1 := Lib.hid p1
          have HP2 := Lib.hid p2
          obtain ⟨bb, off, hA1, hbb, hcell⟩ := hr1.at_ (by omega)
          obtain ⟨bb2, off2, hA2, hbb2, hcell2⟩ := hr2.at_ (by omega)
          subst hA1 hA2
          have q1 : wr.cell? ⟨bb, off + k, none⟩ = some (.string (idO p)) := hcell _ _ hg1
          clear hp p1 p2 hGo hcell hcell2 hr1 hr2
          go_wp2_with fail
          refine HG.out.mono ?_
          rintro e w4 ⟨hb4, q, A4, c4, hq, rfl, ho4, _, _⟩
          have hD4 := hD.below hb4
          have hT4 := hT.out.below hb4
          have hr4 := Rd.of_own hT4.two
          rw [e2] at hr4
          obtain ⟨b3, o3, hA3, _, hcell4⟩ := hr4.at_ (by omega)
          injection hA3 with hA3
          injection hA3 with hA3 hA4
          subst hA3 hA4
          have q2 : w4.cell? ⟨bb2, off2 + k, none⟩ = some (.string (idS p)) := hcell4 _ _ hg2
          obtain ⟨A5, c5, w5, hcv, hr5, hb5, hc5, hcm5⟩ := conv_sb p w4 (by omega)
          change (convert 9 36 (.string (idS p))).run Tryz.prog w4 = .ok (.slice A5 p.length c5) w5 at hcv
          have hD5 := hD4.below hb5
          have hP := PutO_calls hD5 hK.toW (by omega) A5 p c5 hr5.1 hc5 hcm5 (by omega)
          rw [put_there HP1.out HP2.out] at hP
          have HP := Lib.hid hP
          obtain rfl : q = p := hq.out
          clear hP hq hr4 hcell4 HG
          go_wp2_with fail
          refine HP.out.mono ?_
          intro e w6 h9
          obtain ⟨rfl, hD6, ht6⟩ := h9.ok
          have hT6 := (hT4.below hb5).tw hD5 ht6
          have ho6 := own_tw hD5 ht6 (own_belowW ho4 hb5) (by decide)
          have hb06 := Tw.new ((hb.next hb4).next hb5) ht6 (by omega) (by omega)
          have hr61 := Rd.of_own hT6.one
          have hr62 := Rd.of_own hT6.two
          rw [e1] at hr61
          rw [e2] at hr62
          obtain ⟨b7, o7, hA7, _, hc7⟩ := hr61.at_ (by omega)
          injection hA7 with hA7
          injection hA7 with hA7 hA8
          subst hA7 hA8
          obtain ⟨b8, o8, hA8, _, hc8⟩ := hr62.at_ (by omega)
          injection hA8 with hA8
          injection hA8 with hA8 hA9
          subst hA8 hA9
          have y1 : w6.cell? ⟨bb, off + k, none⟩ = some (.string (idO q)) := hc7 _ _ hg1
          have y2 : w6.cell? ⟨bb2, off2 + k, none⟩ = some (.string (idS q)) := hc8 _ _ hg2
          have cv : ∀ j, (convert 36 9 (.slice A4 q.length c4)).run Tryz.prog (w6.drewN j) = .ok (.string (idS q)) (w6.drewN j) := fun j => conv8f ((Rd.of_own ho6).drewN j)
          clear hc7 hc8 hr61 hr62 HP hcv hr5 hg1 hg2 q1 q2
          go_wp2_with fail
          go_quiet (fail)
          go_wp2_with fail
          exact ⟨⟨k + 1, by go_num, by omega, Lib.hid (hT6.below ((Below.refl _ _).drewN' nq)), hD6.drewN nq, hb06.drewN' nq⟩, by simp [intOf]; omega⟩
        · have d1 : decide ((k : Int) < (n : Int)) = false := decide_eq_false (by omega)
          have d1' : ¬ (k : Int) < (n : Int) := by omega
          have HOp := Lib.hid (Ops_calls hD)
          go_wp2_with fail
          refine HOp.out.mono ?_
          rintro e w5 ⟨rfl, hw5⟩
          obtain rfl := hw5.symm
          go_wp2_with fail
          go_ret
          exact ⟨by simp, hb⟩
end Go.Proofs.YtecpbcmpncgokaaGreat
