/- The walks of the layer 'object', its sixth part: a commit's and a tree's bytes. Conditions: bytes that are made fit 2^47. -/
import Derived.Test.YtcefbhmmijmefaaObj5
namespace Go.Dol
def parsN (l : List ByteArray) : List UInt8 := l.flatMap fun p => p.data.toList
theorem parsN_succ {l : List ByteArray} {k : Nat} (h : k < l.length) : parsN (l.take (k + 1)) = parsN (l.take k) ++ (l[k]).data.toList := by
  rw [List.take_succ_eq_append_getElem h]
  simp only [parsN, List.flatMap_append, List.flatMap_cons, List.flatMap_nil, List.append_nil]
theorem parsN_le (l : List ByteArray) (k : Nat) : (parsN (l.take k)).length ≤ (parsN l).length := by
  conv => rhs; rw [← List.take_append_drop k l]
  simp only [parsN, List.flatMap_append, List.length_append]
  omega
theorem entsN_succ {l : List Ent} {k : Nat} (h : k < l.length) : (l.take (k + 1)).flatMap entB = (l.take k).flatMap entB ++ entB l[k] := by
  rw [List.take_succ_eq_append_getElem h]
  simp only [List.flatMap_append, List.flatMap_cons, List.flatMap_nil, List.append_nil]
theorem entsN_le (l : List Ent) (k : Nat) : ((l.take k).flatMap entB).length ≤ (l.flatMap entB).length := by
  conv => rhs; rw [← List.take_append_drop k l]
  simp only [List.flatMap_append, List.length_append]
  omega
theorem ent_part {l : List Ent} {k : Nat} (h : k < l.length) : ((l.take k).flatMap entB).length + (entB l[k]).length ≤ (l.flatMap entB).length := by
  have := entsN_le l (k + 1)
  rw [entsN_succ h, List.length_append] at this
  exact this
theorem entB_length (e : Ent) : e.name.size + 1 + e.id.size ≤ (entB e).length := by
  unfold entB tx text
  simp only [List.length_append, List.length_cons, str_len]
  omega
end Go.Dol
namespace Go.Proofs.Ytcefbhmmijmefaa
open Go.RowKit Go.Dol
set_option linter.unusedVariables false

theorem com_cells {w : World} {g : Nat} {tr who text : ByteArray} {stamp : Int} {v : Value} (h : Blk w g 100 [.string tr, v, .string who, .int .i64 stamp, .string text]) : w.cell? ⟨g, 0, none⟩ = some (.string tr) ∧ w.cell? ⟨g, 1, none⟩ = some v ∧ w.cell? ⟨g, 2, none⟩ = some (.string who) ∧ w.cell? ⟨g, 3, none⟩ = some (.int .i64 stamp) ∧ w.cell? ⟨g, 4, none⟩ = some (.string text) :=
  ⟨by rw [h.cell]; rfl, by rw [h.cell]; rfl, by rw [h.cell]; rfl, by rw [h.cell]; rfl, by rw [h.cell]; rfl⟩

def ComLay (base g : Nat) (T : List UInt8) (tr : ByteArray) (A2 : Option Addr) (ps : List ByteArray) (c2 : Nat) (who : ByteArray) (stamp : Int) (text : ByteArray) (w : World) (b i : Value) (wr : World) : Prop :=
  ∃ (k : Nat) (l : List UInt8) (A : Option Addr) (c : Nat), i = .int .i64 k ∧ b = .slice A l.length c ∧ k ≤ ps.length ∧ Hid (l = T ++ parsN (ps.take k)) ∧ wr.ownsRow base 5 1 (.slice A l.length c) l.length (bc l) ∧ l.length ≤ c ∧ c ≤ maxLen ∧
    Blk wr g 100 [.string tr, .slice A2 ps.length c2, .string who, .int .i64 stamp, .string text] ∧ Below base w wr

set_option maxRecDepth 100000 in
set_option maxHeartbeats 4000000 in
theorem commitLay_calls (base : Nat) (tr : ByteArray) (A2 : Option Addr) (ps : List ByteArray) (c2 : Nat) (who : ByteArray) (stamp : Int) (text : ByteArray) (A : Option Addr) (l : List UInt8) (c : Nat) (w : World) (hown : w.ownsRow base 5 1 (.slice A l.length c) l.length (bc l)) (hr2 : Rd w base 1 A2 ps.length (pc ps))
    (hps : ps.length ≤ 140737488355328) (hl : l.length + tr.size + (parsN ps).length + 3000 + who.size + text.size ≤ 140737488355328) (hbase : base ≤ w.heap.size) :
    Calls Try.prog 114 #[.agg #[.string tr, .slice A2 ps.length c2, .string who, .int .i64 stamp, .string text], .slice A l.length c] w (RetO base w (l ++ (tr.data.toList ++ (parsL ps ++ (tx who ++ (num (clampN stamp) ++ tx text)))))) := by
  have hB := Blk.new w 100 [.string tr, .slice A2 ps.length c2, .string who, .int .i64 stamp, .string text]
  have hb0 : Below base w (w.alloc (.cells #[.string tr, .slice A2 ps.length c2, .string who, .int .i64 stamp, .string text] 100)) := (Below.refl _ _).alloc hbase _
  have hown0 := hown.alloc (.cells #[.string tr, .slice A2 ps.length c2, .string who, .int .i64 stamp, .string text] 100)
  have hcl : Hid (clampN (ps.length : Int) = ps.length) := by unfold Hid clampN; omega
  go_enter Try.func114, Try.ntmps114
  go_wp2_with fail
  obtain ⟨g, hg⟩ : ∃ g, g = w.heap.size := ⟨_, rfl⟩
  obtain ⟨w0, hw0⟩ : ∃ w0, w0 = w.alloc (.cells #[.string tr, .slice A2 ps.length c2, .string who, .int .i64 stamp, .string text] 100) := ⟨_, rfl⟩
  change Blk (w.alloc (.cells #[.string tr, .slice A2 ps.length c2, .string who, .int .i64 stamp, .string text] 100)) _ _ _ at hB
  rw [← hw0] at hB hb0 hown0 ⊢
  rw [← hg] at hB ⊢
  have HG := Lib.hid hg
  clear hw0 hg hown
  obtain ⟨c0, c1, c2', c3, c4⟩ := com_cells hB
  have hgl := hB.lt
  have hne : some g ≠ (Value.slice A l.length c).ownBlock := fun e => own_ne hown0 hB (by decide) e.symm
  have hown0d : w0.drew.ownsRow base 5 1 (.slice A l.length c) l.length (bc l) := hown0
  have hq0 : l.length + tr.size ≤ 140737488355328 := by omega
  have hz0 : base ≤ w0.heap.size := hb0.size |> Nat.le_trans hbase
  go_region_held3 (fun w' => w'.cell? ⟨g, 0, none⟩ = some (.string tr) ∧ w'.cell? ⟨g, 1, none⟩ = some (.slice A2 ps.length c2) ∧ w'.cell? ⟨g, 2, none⟩ = some (.string who) ∧ w'.cell? ⟨g, 3, none⟩ = some (.int .i64 stamp) ∧ w'.cell? ⟨g, 4, none⟩ = some (.string text)) (first | exact com_cells (hB1.below hb2 hgl1) | exact com_cells hB1 | go_keep)
    ((first
      | (refine app8sr (by rfl) (.tmp 7) (.tmp 9) (by rfl) base _ l.length l (by rfl) (w := World.drew w0) hown0d tr (by rfl) hq0 hz0 ?_; intro l1 A1 c1' w1 e1 ho1 hb1 hg1 i1 i2; have hB1 := hB.drew.grown hg1 hne; have hgl1 := hB1.lt; have hl1 : l1.length ≤ l.length + tr.size := (by rw [e1.out, List.length_append, str_len]; omega); have hro1 := Rd.of_own ho1; have hq1 : l1.length + 9 ≤ 140737488355328 := (by omega))
      | (go_at_call 16; (with_reducible refine (PutNum_calls A1 l1 c1' _ w1 hro1 hq1).mono ?_); rintro e w2 ⟨l2, A2', c2'', e2, rfl, ho2, hb2, i3, i4⟩)))
  have hz1 : base ≤ w1.heap.size := Nat.le_trans hz0 hb1.size
  have hz2 : base ≤ w2.heap.size := Nat.le_trans hz1 hb2.size
  have hbw : Below base w w2 := hb0.trans ((Below.refl base w0).drew.trans (hb1.trans (hb2.mono hz1)))
  have hT : Hid (l2 = (l ++ (tr.data.toList ++ num ps.length)) ++ parsN (ps.take 0)) := by
    unfold Hid
    rw [e2.out, e1.out, hcl.out]
    simp [parsN]
  obtain ⟨T, hTe⟩ : ∃ T, T = l ++ (tr.data.toList ++ num ps.length) := ⟨_, rfl⟩
  have hTl : T.length ≤ l.length + tr.size + 9 := by
    rw [hTe]
    simp only [List.length_append, str_len]
    have := num_length_le 8 ps.length (by omega)
    omega
  rw [← hTe] at hT
  have HTE := Lib.hid hTe
  have hB2 := hB1.below hb2 hgl1
  have ho2' := ho2.base hz1
  clear hTe e1 e2 ho1 ho2 hb1 hb2 hro1 hB hB1 hown0 hown0d c0 c1 c2' c3 c4 hg1 hb0 hne hz0 hz1
  obtain ⟨k0, k1, k2, k3, k4⟩ := com_cells hB2
  go_wp2_with fail
  clear k0 k1 k2 k3 k4
  go_loopw [1, 18] (fun b i wr => ComLay base g T tr A2 ps c2 who stamp text w b i wr) (fun _ i _ => ps.length - (intOf i).toNat)
  case atStart => exact ⟨0, l2, A2', c2'', rfl, rfl, Nat.zero_le _, hT, ho2', i3, i4, hB2, hbw⟩
  case round =>
    clear hT ho2' hB2 hbw i3 i4
    obtain ⟨k, l3, A3, c3, rfl, rfl, hk, hT, hown, i3, i4, hB, hbel⟩ := hrel
    obtain ⟨k0, k1, k2, k3, k4⟩ := com_cells hB
    have hs := hbel.size
    have hl3 : l3.length ≤ T.length + (parsN ps).length := by rw [hT.out, List.length_append]; have := parsN_le ps k; omega
    have f1 : IntKind.i64.wrap ((k : Int) + 1) = (k : Int) + 1 := IntWalk.i64_in _ (by omega)
    by_cases h1 : k < ps.length
    · have d1 : decide ((k : Int) < (ps.length : Int)) = true := decide_eq_true (by omega)
      have d1' : (k : Int) < (ps.length : Int) := by omega
      have hk0 : (0 : Int) ≤ (k : Int) := by omega
      have hlen1 : ps.length ≤ 9223372036854775807 := by omega
      have hrw := hr2.below hbel
      obtain ⟨bb, off, rfl, hbb, hcell⟩ := hrw.at_ (by omega)
      have q0 := hcell _ _ (pc_get h1)
      obtain ⟨p, hp⟩ : ∃ p, p = ps[k] := ⟨_, rfl⟩
      rw [← hp] at q0
      have hsucc : Hid (parsN (ps.take (k + 1)) = parsN (ps.take k) ++ p.data.toList) := by unfold Hid; rw [parsN_succ h1, hp]
      have hfit : l3.length + p.size ≤ 140737488355328 := by
        have h5 := parsN_le ps (k + 1)
        rw [hsucc.out, List.length_append, str_len] at h5
        have h6 := congrArg List.length hT.out
        rw [List.length_append] at h6
        omega
      have hne : some g ≠ (Value.slice A3 l3.length c3).ownBlock := fun e => own_ne hown hB (by decide) e.symm
      clear hp hcell
      go_wp2_with (at_builtin; refine app8s rfl (.tmp 22) (.tmp 23) rfl base _ l3.length l3 rfl hown p rfl hfit (Nat.le_trans hbase hs) ?_)
      intro l4 A4 c4 w4 e4 ho4 hb4 hg4 i5 i6
      go_wp2_with fail
      refine ⟨⟨k + 1, l4, A4, c4, by go_num, rfl, h1, ?_, ho4, i5, i6, hB.grown hg4 hne, hbel.trans hb4⟩, by simp [intOf]; omega⟩
      unfold Hid
      rw [e4.out, hT.out, hsucc.out, List.append_assoc]
    · have d1 : decide ((k : Int) < (ps.length : Int)) = false := decide_eq_false (by omega)
      have d1' : ¬ (k : Int) < (ps.length : Int) := by omega
      have hkl : k = ps.length := by omega
      have hT2 : Hid (l3 = T ++ parsN ps) := by unfold Hid; rw [hT.out, hkl, List.take_length]
      clear hkl
      have hq : l3.length + 1000 + who.size + text.size ≤ 140737488355328 := by omega
      go_wp2_with (go_at_call 112; refine (toldLay_calls who stamp text A3 l3 c3 wr (Rd.of_own hown) hq).mono ?_; rintro e w4 ⟨l4, A4, c4, e4, rfl, ho4, hb4, i5, i6⟩)
      go_ret
      refine ⟨l4, A4, c4, ?_, rfl, ho4.base (Nat.le_trans hbase hs), hbel.trans (hb4.mono (Nat.le_trans hbase hs)), i5, i6⟩
      unfold Hid
      rw [e4.out, hT2.out, HTE.out]
      unfold parsL parsN
      simp only [List.append_assoc]

def TreeLay (base g : Nat) (T : List UInt8) (A2 : Option Addr) (es : List Ent) (c2 : Nat) (w : World) (b i : Value) (wr : World) : Prop :=
  ∃ (k : Nat) (l : List UInt8) (A : Option Addr) (c : Nat), i = .int .i64 k ∧ b = .slice A l.length c ∧ k ≤ es.length ∧ Hid (l = T ++ (es.take k).flatMap entB) ∧ wr.ownsRow base 5 1 (.slice A l.length c) l.length (bc l) ∧ l.length ≤ c ∧ c ≤ maxLen ∧
    Blk wr g 96 [.slice A2 es.length c2] ∧ Below base w wr

set_option maxRecDepth 100000 in
set_option maxHeartbeats 4000000 in
theorem treeLay_calls (base : Nat) (A2 : Option Addr) (es : List Ent) (c2 : Nat) (A : Option Addr) (l : List UInt8) (c : Nat) (w : World) (hr : Rd w w.heap.size 1 A l.length (bc l)) (hr2 : Rd w base 3 A2 es.length (ec es))
    (hes : es.length ≤ 140737488355328) (hl : l.length + 1000 + (es.flatMap entB).length ≤ 140737488355328) (hbase : base ≤ w.heap.size) :
    Calls Try.prog 108 #[.agg #[.slice A2 es.length c2], .slice A l.length c] w (RetO base w (l ++ entsL es)) := by
  have hB := Blk.new w 96 [.slice A2 es.length c2]
  have hb0 : Below base w (w.alloc (.cells #[.slice A2 es.length c2] 96)) := (Below.refl _ _).alloc hbase _
  have hbx : Below w.heap.size w (w.alloc (.cells #[.slice A2 es.length c2] 96)) := (Below.refl _ _).alloc (Nat.le_refl _) _
  have hr0 := hr.alive hbx
  have hcl : Hid (clampN (es.length : Int) = es.length) := by unfold Hid clampN; omega
  go_enter Try.func108, Try.ntmps108
  go_wp2_with fail
  obtain ⟨g, hg⟩ : ∃ g, g = w.heap.size := ⟨_, rfl⟩
  obtain ⟨w0, hw0⟩ : ∃ w0, w0 = w.alloc (.cells #[.slice A2 es.length c2] 96) := ⟨_, rfl⟩
  change Blk (w.alloc (.cells #[.slice A2 es.length c2] 96)) _ _ _ at hB
  rw [← hw0] at hB hb0 hr0 ⊢
  rw [← hg] at hB ⊢
  have HG := Lib.hid hg
  clear hw0 hg hr hbx
  refine (PutNum_calls A l c _ w0 hr0 (by omega)).mono ?_
  rintro e w1 ⟨l1, A1, c1, e1, rfl, ho1, hb1, i1, i2⟩
  have hz0 : base ≤ w0.heap.size := hb0.size |> Nat.le_trans hbase
  have hB1 := hB.below hb1 hB.lt
  have hbw := hb0.trans (hb1.mono hz0)
  have ho1' := ho1.base hz0
  obtain ⟨T, hTe⟩ : ∃ T, T = l ++ num es.length := ⟨_, rfl⟩
  have hT : Hid (l1 = T ++ (es.take 0).flatMap entB) := by unfold Hid; rw [e1.out, hcl.out, hTe]; simp
  have hTl : T.length ≤ l.length + 9 := by
    rw [hTe]
    simp only [List.length_append]
    have := num_length_le 8 es.length (by omega)
    omega
  have HTE := Lib.hid hTe
  have k0 : w1.cell? ⟨g, 0, none⟩ = some (.slice A2 es.length c2) := by rw [hB1.cell]; rfl
  clear hTe e1 ho1 hb1 hr0 hB hcl hb0
  go_wp2_with fail
  clear k0
  go_loopw [1, 15] (fun b i wr => TreeLay base g T A2 es c2 w b i wr) (fun _ i _ => es.length - (intOf i).toNat)
  case atStart => exact ⟨0, l1, A1, c1, rfl, rfl, Nat.zero_le _, hT, ho1', i1, i2, hB1, hbw⟩
  case round =>
    clear hT ho1' hB1 hbw i1 i2
    obtain ⟨k, l3, A3, c3, rfl, rfl, hk, hT, hown, i3, i4, hB, hbel⟩ := hrel
    have hs := hbel.size
    have hzr := Nat.le_trans hbase hs
    have f1 : IntKind.i64.wrap ((k : Int) + 1) = (k : Int) + 1 := IntWalk.i64_in _ (by omega)
    by_cases h1 : k < es.length
    · have d1 : decide ((k : Int) < (es.length : Int)) = true := decide_eq_true (by omega)
      have d1' : (k : Int) < (es.length : Int) := by omega
      have hk0 : (0 : Int) ≤ (k : Int) := by omega
      have hlen1 : es.length ≤ 9223372036854775807 := by omega
      have hrw := hr2.below hbel
      obtain ⟨bb, off, rfl, hbb, hcell⟩ := hrw.at_ (by omega)
      obtain ⟨p0, p1, p2⟩ := ec_get h1
      have q0 := hcell _ _ p0
      have q1 : wr.cell? ⟨bb, off + k * 3 + 1, none⟩ = _ := hcell _ _ p1
      have q2 : wr.cell? ⟨bb, off + k * 3 + 2, none⟩ = _ := hcell _ _ p2
      have hpart := ent_part h1
      have hel := entB_length es[k]
      obtain ⟨x, hx⟩ : ∃ x, x = es[k] := ⟨_, rfl⟩
      have hsucc : Hid ((es.take (k + 1)).flatMap entB = (es.take k).flatMap entB ++ entB x) := by unfold Hid; rw [entsN_succ h1, hx]
      rw [← hx] at q0 q1 q2 hpart hel
      have hl3 : l3.length + x.name.size + 1 + x.id.size ≤ T.length + (es.flatMap entB).length := by
        have h6 := congrArg List.length hT.out
        rw [List.length_append] at h6
        omega
      obtain ⟨x0, x1, x2⟩ := x
      simp only at q0 q1 q2 hl3
      have hb5 : Below wr.heap.size wr (wr.alloc (.cells #[.string x0, .bool x1, .string x2] 56)) := (Below.refl _ _).alloc (Nat.le_refl _) _
      have hB5 := Blk.new wr 56 [.string x0, .bool x1, .string x2]
      have hr5 := (Rd.of_own hown).alive hb5
      have hBt := hB.alloc (.cells #[.string x0, .bool x1, .string x2] 56)
      clear hx hcell p0 p1 p2 hpart hel
      go_wp2_with fail
      obtain ⟨ge, hge⟩ : ∃ ge, ge = wr.heap.size := ⟨_, rfl⟩
      obtain ⟨w5, hw5⟩ : ∃ w5, w5 = wr.alloc (.cells #[.string x0, .bool x1, .string x2] 56) := ⟨_, rfl⟩
      change Blk (wr.alloc (.cells #[.string x0, .bool x1, .string x2] 56)) _ _ _ at hB5
      rw [← hw5] at hb5 hB5 hr5 hBt ⊢
      rw [← hge] at hB5 ⊢
      have HGE := Lib.hid hge
      clear hw5 hge
      refine (PutText_calls A3 l3 c3 x0 w5 hr5 (by omega)).mono ?_
      rintro e w6 ⟨l6, A6, c6, e6, rfl, ho6, hb6, i5, i6⟩
      have hl6 : l6.length ≤ l3.length + 9 + x0.size := by rw [e6.out, List.length_append]; have := tx_length (s := x0) (by omega); unfold tx at this; omega
      have hb56 := hb5.next hb6
      have hB6 := hB5.below hb6 hB5.lt
      have hBt6 := hBt.below hb6 hBt.lt
      have ho6' := ho6.base (base' := wr.heap.size) hb5.size
      have k1 : w6.cell? ⟨ge, 1, none⟩ = some (.bool x1) := by rw [hB6.cell]; rfl
      clear hr5 hb5 hb6 ho6 hB5 hBt
      cases x1 with
      | true =>
        go_wp2_with (at_builtin; refine push8 rfl (.tmp 25) (.tmp 26) rfl wr.heap.size _ l6.length l6 rfl ho6' rfl (by decide) (by decide) (by omega) hb56.size ?_)
        intro d7 l7 A7 c7 w7 ed7 e7 ho7 hb7 hg7 _ i7 i8
        have hb57 := hb56.trans hb7
        have hB7 := hB6.grown hg7 (fun e => own_ne ho6' hB6 (by decide) e.symm)
        have hBt7 := hBt6.grown hg7 (fun e => own_ne ho6' hBt6 (by decide) e.symm)
        have k2 : w7.cell? ⟨ge, 2, none⟩ = some (.string x2) := by rw [hB7.cell]; rfl
        have hl7 : l7.length ≤ l6.length + 1 := by rw [e7.out, List.length_append]; exact Nat.le_refl _
        go_wp2_with (at_builtin; refine app8s rfl (.tmp 31) (.tmp 33) rfl wr.heap.size _ l7.length l7 rfl ho7 x2 rfl (by omega) hb57.size ?_)
        intro l8 A8 c8 w8 e8 ho8 hb8 hg8 i9 i10
        go_wp2_with fail
        refine ⟨⟨k + 1, l8, A8, c8, by go_num, rfl, h1, ?_, ho8.base hzr, i9, i10, hBt7.grown hg8 (fun e => own_ne ho7 hBt7 (by decide) e.symm), hbel.trans ((hb57.trans hb8).mono hzr)⟩, by simp [intOf]; omega⟩
        have hd : d7 = 1 := byte_of (n := 1) ed7 rfl
        unfold Hid
        rw [e8.out, e7.out, e6.out, hT.out, hsucc.out, hd]
        unfold entB tx
        simp only [List.append_assoc, List.cons_append, List.nil_append, if_true]
      | false =>
        go_wp2_with (at_builtin; refine push8 rfl (.tmp 28) (.tmp 29) rfl wr.heap.size _ l6.length l6 rfl ho6' rfl (by decide) (by decide) (by omega) hb56.size ?_)
        intro d7 l7 A7 c7 w7 ed7 e7 ho7 hb7 hg7 _ i7 i8
        have hb57 := hb56.trans hb7
        have hB7 := hB6.grown hg7 (fun e => own_ne ho6' hB6 (by decide) e.symm)
        have hBt7 := hBt6.grown hg7 (fun e => own_ne ho6' hBt6 (by decide) e.symm)
        have k2 : w7.cell? ⟨ge, 2, none⟩ = some (.string x2) := by rw [hB7.cell]; rfl
        have hl7 : l7.length ≤ l6.length + 1 := by rw [e7.out, List.length_append]; exact Nat.le_refl _
        go_wp2_with (at_builtin; refine app8s rfl (.tmp 31) (.tmp 33) rfl wr.heap.size _ l7.length l7 rfl ho7 x2 rfl (by omega) hb57.size ?_)
        intro l8 A8 c8 w8 e8 ho8 hb8 hg8 i9 i10
        go_wp2_with fail
        refine ⟨⟨k + 1, l8, A8, c8, by go_num, rfl, h1, ?_, ho8.base hzr, i9, i10, hBt7.grown hg8 (fun e => own_ne ho7 hBt7 (by decide) e.symm), hbel.trans ((hb57.trans hb8).mono hzr)⟩, by simp [intOf]; omega⟩
        have hd : d7 = 0 := UInt8.toNat_inj.1 ed7.out
        unfold Hid
        rw [e8.out, e7.out, e6.out, hT.out, hsucc.out, hd]
        unfold entB tx
        simp [List.append_assoc]
    · have d1 : decide ((k : Int) < (es.length : Int)) = false := decide_eq_false (by omega)
      have d1' : ¬ (k : Int) < (es.length : Int) := by omega
      have hkl : k = es.length := by omega
      have hT2 : Hid (l3 = l ++ entsL es) := by
        unfold Hid
        rw [hT.out, hkl, List.take_length, HTE.out]
        unfold entsL
        rw [List.append_assoc]
      clear hkl
      go_wp2_with fail
      go_ret
      exact ⟨l3, A3, c3, hT2, rfl, hown, hbel, i3, i4⟩
end Go.Proofs.Ytcefbhmmijmefaa
