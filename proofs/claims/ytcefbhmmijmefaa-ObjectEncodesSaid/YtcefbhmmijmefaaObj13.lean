/- The walks of the layer 'object', its thirteenth part: the ids that an object names. Conditions: lengths below 2^47. -/
import Derived.Test.YtcefbhmmijmefaaObj10
import Derived.Test.YtcefbhmmijmefaaAppV
namespace Go.Dol
theorem pc_take (l : List ByteArray) (k : Nat) : (pc l).take k = pc (l.take k) := by simp [pc, List.map_take]
theorem pc_append (a b : List ByteArray) : pc (a ++ b) = pc a ++ pc b := by simp [pc]
theorem pc_one (l : List ByteArray) : ∀ u ∈ pc l, u.oneCell' = true := by
  intro u hu
  obtain ⟨_, _, rfl⟩ := List.mem_map.1 hu
  rfl
def idsN (l : List Ent) (k : Nat) : List ByteArray := (l.take k).map (·.id)
theorem idsN_length {l : List Ent} {k : Nat} (h : k ≤ l.length) : (idsN l k).length = k := by simp [idsN]; omega
theorem idsN_succ {l : List Ent} {k : Nat} (h : k < l.length) : idsN l (k + 1) = idsN l k ++ [l[k].id] := by
  unfold idsN
  rw [List.take_succ_eq_append_getElem h, List.map_append]
  rfl
end Go.Dol
namespace Go.Proofs.Ytcefbhmmijmefaa
open Go.RowKit Go.Dol
set_option linter.unusedVariables false

theorem info_str : (Try.prog.info? 9).map (fun i => (i.zero, i.size, i.bytes)) = some (some (.string ⟨#[]⟩), 1, 16) := by kernel_rfl
theorem m_links1 (xs : Array Value) (w : World) : (method 226 94 (.agg xs) "dolmen/object.links").run Try.prog w = .ok (106, .agg xs) w := by kernel_rfl
theorem m_links2 (xs : Array Value) (w : World) : (method 226 96 (.agg xs) "dolmen/object.links").run Try.prog w = .ok (109, .agg xs) w := by kernel_rfl
theorem m_links3 (xs : Array Value) (w : World) : (method 226 100 (.agg xs) "dolmen/object.links").run Try.prog w = .ok (115, .agg xs) w := by kernel_rfl
theorem m_links4 (xs : Array Value) (w : World) : (method 226 102 (.agg xs) "dolmen/object.links").run Try.prog w = .ok (118, .agg xs) w := by kernel_rfl

/-- What a call hands back that makes a list of texts. -/
def RetL (base : Nat) (w : World) (L : List ByteArray) (e : Ending) (w' : World) : Prop :=
  ∃ (l : List ByteArray) (A : Option Addr) (c : Nat), Hid (l = L) ∧ e = .returned (.slice A l.length c) ∧ w'.ownsRow base 9 1 (.slice A l.length c) l.length (pc l) ∧ Below base w w'

set_option maxRecDepth 100000 in
theorem links1_calls (Ad : Option Addr) (n cd : Nat) (w : World) : Calls Try.prog 106 #[.agg #[.slice Ad n cd]] w (RetL w.heap.size w []) := by
  have hb0 : Below w.heap.size w (w.alloc (.cells #[.slice Ad n cd] 94)) := (Below.refl _ _).alloc (Nat.le_refl _) _
  go_enter Try.func106, Try.ntmps106
  go_wp2_with fail
  go_ret
  exact ⟨[], none, 0, rfl, rfl, World.ownsRow_nil _ _ _ _, hb0⟩

set_option maxRecDepth 100000 in
theorem links4_calls (ta na wh : ByteArray) (st : Int) (te : ByteArray) (w : World) : Calls Try.prog 118 #[.agg #[.string ta, .string na, .string wh, .int .i64 st, .string te]] w (RetL w.heap.size w [ta]) := by
  have hb0 : Below w.heap.size w (w.alloc (.cells #[.string ta, .string na, .string wh, .int .i64 st, .string te] 102)) := (Below.refl _ _).alloc (Nat.le_refl _) _
  have hb1 := hb0.alloc hb0.size (.cells #[.string ta] 9)
  have ho := own_new (w.alloc (.cells #[.string ta, .string na, .string wh, .int .i64 st, .string te] 102)) 9 w.heap.size 1 [.string ta] rfl hb0.size (by decide)
  have hs : (w.alloc (.cells #[.string ta, .string na, .string wh, .int .i64 st, .string te] 102)).heap.size = w.heap.size + 1 := by simp
  rw [hs] at ho
  go_enter Try.func118, Try.ntmps118
  go_wp2_with fail
  go_ret
  exact ⟨[ta], _, _, rfl, rfl, ho, hb1⟩

set_option maxRecDepth 100000 in
set_option maxHeartbeats 800000 in
theorem links3_calls (tr : ByteArray) (Ap : Option Addr) (pa : List ByteArray) (cp : Nat) (wh : ByteArray) (st : Int) (te : ByteArray) (w : World) (hp : Rd w w.heap.size 1 Ap pa.length (pc pa)) (hpl : pa.length ≤ 4) :
    Calls Try.prog 115 #[.agg #[.string tr, .slice Ap pa.length cp, .string wh, .int .i64 st, .string te]] w (RetL w.heap.size w (tr :: pa)) := by
  have hb0 : Below w.heap.size w (w.alloc (.cells #[.string tr, .slice Ap pa.length cp, .string wh, .int .i64 st, .string te] 100)) := (Below.refl _ _).alloc (Nat.le_refl _) _
  have hb1 := hb0.alloc hb0.size (.cells #[.string tr] 9)
  have hp1 := hp.alive hb1
  have hB := (Blk.new w 100 [.string tr, .slice Ap pa.length cp, .string wh, .int .i64 st, .string te]).alloc (.cells #[.string tr] 9)
  have ho := own_new (w.alloc (.cells #[.string tr, .slice Ap pa.length cp, .string wh, .int .i64 st, .string te] 100)) 9 w.heap.size 1 [.string tr] rfl hb0.size (by decide)
  have hs : (w.alloc (.cells #[.string tr, .slice Ap pa.length cp, .string wh, .int .i64 st, .string te] 100)).heap.size = w.heap.size + 1 := by simp
  rw [hs] at ho
  obtain ⟨k0, k1, k2, k3, k4⟩ := com_cells hB
  go_enter Try.func115, Try.ntmps115
  go_wp2_with (at_builtin; refine appVl rfl (.tmp 5) (.tmp 7) 41 9 _ 16 rfl Try.underlying41 info_str rfl w.heap.size _ 1 [.string tr] rfl ho _ Ap pa.length cp (pc pa) rfl hp1 (pc_one _) (by unfold maxLen; omega) (by omega) hb1.size ?_)
  intro A c w2 ho2 hb2 hg2 i1 i2
  go_wp2_with fail
  go_ret
  have e : 1 + pa.length = (tr :: pa).length := by rw [List.length_cons]; omega
  rw [e] at ho2 ⊢
  exact ⟨tr :: pa, A, c, rfl, rfl, ho2, hb1.trans hb2⟩

def LinkRel (g : Nat) (A2 : Option Addr) (es : List Ent) (c2 : Nat) (w : World) (b i : Value) (wr : World) : Prop :=
  ∃ (k : Nat) (A : Option Addr) (c : Nat), i = .int .i64 k ∧ b = .slice A k c ∧ k ≤ es.length ∧ wr.ownsRow w.heap.size 9 1 (.slice A k c) k (pc (idsN es k)) ∧ Blk wr g 96 [.slice A2 es.length c2] ∧ Below w.heap.size w wr

set_option maxRecDepth 100000 in
set_option maxHeartbeats 2000000 in
theorem links2_calls (A2 : Option Addr) (es : List Ent) (c2 : Nat) (w : World) (hr2 : Rd w w.heap.size 3 A2 es.length (ec es)) (hes : es.length ≤ 4096) :
    Calls Try.prog 109 #[.agg #[.slice A2 es.length c2]] w (RetL w.heap.size w (es.map (·.id))) := by
  have hB := Blk.new w 96 [.slice A2 es.length c2]
  have hb0 : Below w.heap.size w (w.alloc (.cells #[.slice A2 es.length c2] 96)) := (Below.refl _ _).alloc (Nat.le_refl _) _
  go_enter Try.func109, Try.ntmps109
  go_wp2_with fail
  obtain ⟨g, hg⟩ : ∃ g, g = w.heap.size := ⟨_, rfl⟩
  obtain ⟨w0, hw0⟩ : ∃ w0, w0 = w.alloc (.cells #[.slice A2 es.length c2] 96) := ⟨_, rfl⟩
  change Blk (w.alloc (.cells #[.slice A2 es.length c2] 96)) _ _ _ at hB
  rw [← hw0] at hB hb0 ⊢
  rw [← hg] at hB
  have HG := Lib.hid hg
  clear hw0 hg
  go_loopw [3, 9] (fun b i wr => LinkRel g A2 es c2 w b i wr) (fun _ i _ => es.length - (intOf i).toNat)
  case atStart => exact ⟨0, none, 0, rfl, rfl, Nat.zero_le _, World.ownsRow_nil _ _ _ _, hB, hb0⟩
  case round =>
    clear hB hb0
    obtain ⟨k, A3, c3, rfl, rfl, hk, hown, hB, hbel⟩ := hrel
    have f1 : IntKind.i64.wrap ((k : Int) + 1) = (k : Int) + 1 := IntWalk.i64_in _ (by omega)
    by_cases h1 : k < es.length
    · have d1 : decide ((k : Int) < (es.length : Int)) = true := decide_eq_true (by omega)
      have d1' : (k : Int) < (es.length : Int) := by omega
      have hk0 : (0 : Int) ≤ (k : Int) := by omega
      have hlen1 : es.length ≤ 9223372036854775807 := by omega
      have hrw := hr2.below hbel
      obtain ⟨bb, off, rfl, hbb, hcell⟩ := hrw.at_ (by omega)
      obtain ⟨p0, p1, p2⟩ := ec_get h1
      have q0 := hcell _ _ p0
      have q1 : wr.cell? ⟨bb, off + k * 3 + 1, none⟩ = _ := hcell _ _ p1
      have q2 : wr.cell? ⟨bb, off + k * 3 + 2, none⟩ = _ := hcell _ _ p2
      have hsucc := Lib.hid (idsN_succ h1)
      obtain ⟨x, hx⟩ : ∃ x, x = es[k] := ⟨_, rfl⟩
      rw [← hx] at q0 q1 q2 hsucc
      obtain ⟨x0, x1, x2⟩ := x
      simp only at q0 q1 q2
      have hb5 := hbel.alloc hbel.size (.cells #[.string x0, .bool x1, .string x2] 56)
      have hb6 := hb5.alloc hb5.size (.cells #[.string x2] 9)
      have hB6 := (hB.alloc (.cells #[.string x0, .bool x1, .string x2] 56)).alloc (.cells #[.string x2] 9)
      have ho6 := (hown.alloc (.cells #[.string x0, .bool x1, .string x2] 56)).alloc (.cells #[.string x2] 9)
      have hr6 := Rd.new1 (wr.alloc (.cells #[.string x0, .bool x1, .string x2] 56)) 9 (.string x2)
      have hs : (wr.alloc (.cells #[.string x0, .bool x1, .string x2] 56)).heap.size = wr.heap.size + 1 := by simp
      rw [hs] at hr6
      have hne : some g ≠ (Value.slice A3 k c3).ownBlock := fun e => own_ne ho6 hB6 (by decide) e.symm
      clear hx hcell p0 p1 p2
      go_wp2_with (at_builtin; refine appVl rfl (.tmp 13) (.tmp 16) 41 9 _ 16 rfl Try.underlying41 info_str rfl w.heap.size _ k _ rfl ho6 _ _ 1 1 [.string x2] rfl hr6 (by intro u hu; obtain rfl := List.mem_singleton.1 hu; rfl) (by unfold maxLen; omega) (by omega) hb6.size ?_)
      intro A4 c4 w4 ho4 hb4 hg4 i5 i6
      go_wp2_with fail
      refine ⟨⟨k + 1, A4, c4, by go_num, rfl, h1, ?_, hB6.grown hg4 hne, hb6.trans hb4⟩, by simp [intOf]; omega⟩
      rw [hsucc.out, pc_append]
      exact ho4
    · have d1 : decide ((k : Int) < (es.length : Int)) = false := decide_eq_false (by omega)
      have d1' : ¬ (k : Int) < (es.length : Int) := by omega
      have hkl : k = (idsN es k).length := (idsN_length hk).symm
      have hke : Hid (idsN es k = es.map (·.id)) := by
        unfold Hid idsN
        rw [List.take_of_length_le (by omega)]
      have HK := Lib.hid hkl
      clear hkl
      go_wp2_with fail
      go_ret
      refine ⟨idsN es k, A3, c3, hke, ?_, ?_, hbel⟩
      · rw [← HK.out]
        rfl
      · rw [← HK.out]
        exact hown

set_option maxRecDepth 100000 in
set_option maxHeartbeats 4000000 in
theorem Links1_calls (Ad : Option Addr) (d : List UInt8) (cd : Nat) (Ae : Option Addr) (en : List Ent) (ce : Nat) (tr : ByteArray) (Ap : Option Addr) (pa : List ByteArray) (cp : Nat) (ta na wh : ByteArray) (st : Int) (te : ByteArray) (w : World) (hd : Rd w w.heap.size 1 Ad d.length (bc d)) (he : Rd w w.heap.size 3 Ae en.length (ec en)) (hp : Rd w w.heap.size 1 Ap pa.length (pc pa)) (hel : en.length ≤ 140737488355328) (hpl : pa.length ≤ 140737488355328) (hsz : Hid (∀ p ∈ pa, p.size ≤ maxLen)) (HC : Hid (checkB geS ⟨1, d, en, tr, pa, ta, na, wh, st, te⟩ = true)) :
    Calls Try.prog 41 #[.agg #[.int .i64 1, .slice Ad d.length cd, .slice Ae en.length ce, .string tr, .slice Ap pa.length cp, .string ta, .string na, .string wh, .int .i64 st, .string te]] w (RetL w.heap.size w (linksO ⟨1, d, en, tr, pa, ta, na, wh, st, te⟩)) := by
  have h3 := m_links1
  have hb0 : Below w.heap.size w (w.alloc (.cells #[.int .i64 1, .slice Ad d.length cd, .slice Ae en.length ce, .string tr, .slice Ap pa.length cp, .string ta, .string na, .string wh, .int .i64 st, .string te] 43)) := (Below.refl _ _).alloc (Nat.le_refl _) _
  have hB := Blk.new w 43 [.int .i64 1, .slice Ad d.length cd, .slice Ae en.length ce, .string tr, .slice Ap pa.length cp, .string ta, .string na, .string wh, .int .i64 st, .string te]
  have hd0 := hd.alive hb0
  have he0 := he.alive hb0
  have hp0 := hp.alive hb0
  have hEC : Hid (errC (checkB geS ⟨1, d, en, tr, pa, ta, na, wh, st, te⟩) = 0) := Lib.hid (by rw [HC.out]; rfl)
  skip
  go_enter Try.func41, Try.ntmps41
  go_wp2_with fail
  refine (Check_calls 1 Ad d cd Ae en ce tr Ap pa cp ta na wh st te _ hd0 he0 hp0 hel hpl hsz).mono ?_
  rintro e w1 ⟨rfl, hb1⟩
  rw [hEC.out]
  have hB1 := hB.below hb1 hB.lt
  have hbw := hb0.next hb1
  have hd1 := hd0.alive hb1
  have he1 := he0.alive hb1
  have hp1 := hp0.alive hb1
  obtain ⟨c0, c1, c2, c3, c4, c5, c6, c7, c8, c9⟩ := obj_cells hB1
  go_wp2_with fail
  refine (of1_calls Ad d.length cd Ae en.length ce tr Ap pa.length cp ta na wh st te _).mono ?_
  rintro e w2 ⟨rfl, hb2⟩
  have hbx := hbw.next hb2
  have he2 := he1.alive hb2
  have hp2 := hp1.alive hb2
  go_wp2_with fail
  refine (links1_calls Ad d.length cd _).mono ?_
  rintro e w3 ⟨l, A, c, el, rfl, ho, hb3⟩
  go_wp2_with fail
  go_ret
  exact ⟨l, A, c, el, rfl, ho.base hbx.size, hbx.next hb3⟩

set_option maxRecDepth 100000 in
set_option maxHeartbeats 4000000 in
theorem Links2_calls (Ad : Option Addr) (d : List UInt8) (cd : Nat) (Ae : Option Addr) (en : List Ent) (ce : Nat) (tr : ByteArray) (Ap : Option Addr) (pa : List ByteArray) (cp : Nat) (ta na wh : ByteArray) (st : Int) (te : ByteArray) (w : World) (hd : Rd w w.heap.size 1 Ad d.length (bc d)) (he : Rd w w.heap.size 3 Ae en.length (ec en)) (hp : Rd w w.heap.size 1 Ap pa.length (pc pa)) (hel : en.length ≤ 140737488355328) (hpl : pa.length ≤ 140737488355328) (hsz : Hid (∀ p ∈ pa, p.size ≤ maxLen)) (HC : Hid (checkB geS ⟨2, d, en, tr, pa, ta, na, wh, st, te⟩ = true)) :
    Calls Try.prog 41 #[.agg #[.int .i64 2, .slice Ad d.length cd, .slice Ae en.length ce, .string tr, .slice Ap pa.length cp, .string ta, .string na, .string wh, .int .i64 st, .string te]] w (RetL w.heap.size w (linksO ⟨2, d, en, tr, pa, ta, na, wh, st, te⟩)) := by
  have h3 := m_links2
  have hb0 : Below w.heap.size w (w.alloc (.cells #[.int .i64 2, .slice Ad d.length cd, .slice Ae en.length ce, .string tr, .slice Ap pa.length cp, .string ta, .string na, .string wh, .int .i64 st, .string te] 43)) := (Below.refl _ _).alloc (Nat.le_refl _) _
  have hB := Blk.new w 43 [.int .i64 2, .slice Ad d.length cd, .slice Ae en.length ce, .string tr, .slice Ap pa.length cp, .string ta, .string na, .string wh, .int .i64 st, .string te]
  have hd0 := hd.alive hb0
  have he0 := he.alive hb0
  have hp0 := hp.alive hb0
  have hEC : Hid (errC (checkB geS ⟨2, d, en, tr, pa, ta, na, wh, st, te⟩) = 0) := Lib.hid (by rw [HC.out]; rfl)
  have hc2 := (entsB_parts (check2_parts rfl HC.out)).2
  go_enter Try.func41, Try.ntmps41
  go_wp2_with fail
  refine (Check_calls 2 Ad d cd Ae en ce tr Ap pa cp ta na wh st te _ hd0 he0 hp0 hel hpl hsz).mono ?_
  rintro e w1 ⟨rfl, hb1⟩
  rw [hEC.out]
  have hB1 := hB.below hb1 hB.lt
  have hbw := hb0.next hb1
  have hd1 := hd0.alive hb1
  have he1 := he0.alive hb1
  have hp1 := hp0.alive hb1
  obtain ⟨c0, c1, c2, c3, c4, c5, c6, c7, c8, c9⟩ := obj_cells hB1
  go_wp2_with fail
  refine (of2_calls Ad d.length cd Ae en.length ce tr Ap pa.length cp ta na wh st te _).mono ?_
  rintro e w2 ⟨rfl, hb2⟩
  have hbx := hbw.next hb2
  have he2 := he1.alive hb2
  have hp2 := hp1.alive hb2
  go_wp2_with fail
  refine (links2_calls Ae en ce _ he2 hc2).mono ?_
  rintro e w3 ⟨l, A, c, el, rfl, ho, hb3⟩
  go_wp2_with fail
  go_ret
  exact ⟨l, A, c, el, rfl, ho.base hbx.size, hbx.next hb3⟩

set_option maxRecDepth 100000 in
set_option maxHeartbeats 4000000 in
theorem Links3_calls (Ad : Option Addr) (d : List UInt8) (cd : Nat) (Ae : Option Addr) (en : List Ent) (ce : Nat) (tr : ByteArray) (Ap : Option Addr) (pa : List ByteArray) (cp : Nat) (ta na wh : ByteArray) (st : Int) (te : ByteArray) (w : World) (hd : Rd w w.heap.size 1 Ad d.length (bc d)) (he : Rd w w.heap.size 3 Ae en.length (ec en)) (hp : Rd w w.heap.size 1 Ap pa.length (pc pa)) (hel : en.length ≤ 140737488355328) (hpl : pa.length ≤ 140737488355328) (hsz : Hid (∀ p ∈ pa, p.size ≤ maxLen)) (HC : Hid (checkB geS ⟨3, d, en, tr, pa, ta, na, wh, st, te⟩ = true)) :
    Calls Try.prog 41 #[.agg #[.int .i64 3, .slice Ad d.length cd, .slice Ae en.length ce, .string tr, .slice Ap pa.length cp, .string ta, .string na, .string wh, .int .i64 st, .string te]] w (RetL w.heap.size w (linksO ⟨3, d, en, tr, pa, ta, na, wh, st, te⟩)) := by
  have h3 := m_links3
  have hb0 : Below w.heap.size w (w.alloc (.cells #[.int .i64 3, .slice Ad d.length cd, .slice Ae en.length ce, .string tr, .slice Ap pa.length cp, .string ta, .string na, .string wh, .int .i64 st, .string te] 43)) := (Below.refl _ _).alloc (Nat.le_refl _) _
  have hB := Blk.new w 43 [.int .i64 3, .slice Ad d.length cd, .slice Ae en.length ce, .string tr, .slice Ap pa.length cp, .string ta, .string na, .string wh, .int .i64 st, .string te]
  have hd0 := hd.alive hb0
  have he0 := he.alive hb0
  have hp0 := hp.alive hb0
  have hEC : Hid (errC (checkB geS ⟨3, d, en, tr, pa, ta, na, wh, st, te⟩) = 0) := Lib.hid (by rw [HC.out]; rfl)
  have hc3 := (parsB_parts (check3_parts rfl HC.out).2.1).2
  go_enter Try.func41, Try.ntmps41
  go_wp2_with fail
  refine (Check_calls 3 Ad d cd Ae en ce tr Ap pa cp ta na wh st te _ hd0 he0 hp0 hel hpl hsz).mono ?_
  rintro e w1 ⟨rfl, hb1⟩
  rw [hEC.out]
  have hB1 := hB.below hb1 hB.lt
  have hbw := hb0.next hb1
  have hd1 := hd0.alive hb1
  have he1 := he0.alive hb1
  have hp1 := hp0.alive hb1
  obtain ⟨c0, c1, c2, c3, c4, c5, c6, c7, c8, c9⟩ := obj_cells hB1
  go_wp2_with fail
  refine (of3_calls Ad d.length cd Ae en.length ce tr Ap pa.length cp ta na wh st te _).mono ?_
  rintro e w2 ⟨rfl, hb2⟩
  have hbx := hbw.next hb2
  have he2 := he1.alive hb2
  have hp2 := hp1.alive hb2
  go_wp2_with fail
  refine (links3_calls tr Ap pa cp wh st te _ hp2 hc3).mono ?_
  rintro e w3 ⟨l, A, c, el, rfl, ho, hb3⟩
  go_wp2_with fail
  go_ret
  exact ⟨l, A, c, el, rfl, ho.base hbx.size, hbx.next hb3⟩

set_option maxRecDepth 100000 in
set_option maxHeartbeats 4000000 in
theorem Links4_calls (Ad : Option Addr) (d : List UInt8) (cd : Nat) (Ae : Option Addr) (en : List Ent) (ce : Nat) (tr : ByteArray) (Ap : Option Addr) (pa : List ByteArray) (cp : Nat) (ta na wh : ByteArray) (st : Int) (te : ByteArray) (w : World) (hd : Rd w w.heap.size 1 Ad d.length (bc d)) (he : Rd w w.heap.size 3 Ae en.length (ec en)) (hp : Rd w w.heap.size 1 Ap pa.length (pc pa)) (hel : en.length ≤ 140737488355328) (hpl : pa.length ≤ 140737488355328) (hsz : Hid (∀ p ∈ pa, p.size ≤ maxLen)) (HC : Hid (checkB geS ⟨4, d, en, tr, pa, ta, na, wh, st, te⟩ = true)) :
    Calls Try.prog 41 #[.agg #[.int .i64 4, .slice Ad d.length cd, .slice Ae en.length ce, .string tr, .slice Ap pa.length cp, .string ta, .string na, .string wh, .int .i64 st, .string te]] w (RetL w.heap.size w (linksO ⟨4, d, en, tr, pa, ta, na, wh, st, te⟩)) := by
  have h3 := m_links4
  have hb0 : Below w.heap.size w (w.alloc (.cells #[.int .i64 4, .slice Ad d.length cd, .slice Ae en.length ce, .string tr, .slice Ap pa.length cp, .string ta, .string na, .string wh, .int .i64 st, .string te] 43)) := (Below.refl _ _).alloc (Nat.le_refl _) _
  have hB := Blk.new w 43 [.int .i64 4, .slice Ad d.length cd, .slice Ae en.length ce, .string tr, .slice Ap pa.length cp, .string ta, .string na, .string wh, .int .i64 st, .string te]
  have hd0 := hd.alive hb0
  have he0 := he.alive hb0
  have hp0 := hp.alive hb0
  have hEC : Hid (errC (checkB geS ⟨4, d, en, tr, pa, ta, na, wh, st, te⟩) = 0) := Lib.hid (by rw [HC.out]; rfl)
  skip
  go_enter Try.func41, Try.ntmps41
  go_wp2_with fail
  refine (Check_calls 4 Ad d cd Ae en ce tr Ap pa cp ta na wh st te _ hd0 he0 hp0 hel hpl hsz).mono ?_
  rintro e w1 ⟨rfl, hb1⟩
  rw [hEC.out]
  have hB1 := hB.below hb1 hB.lt
  have hbw := hb0.next hb1
  have hd1 := hd0.alive hb1
  have he1 := he0.alive hb1
  have hp1 := hp0.alive hb1
  obtain ⟨c0, c1, c2, c3, c4, c5, c6, c7, c8, c9⟩ := obj_cells hB1
  go_wp2_with fail
  refine (of4_calls Ad d.length cd Ae en.length ce tr Ap pa.length cp ta na wh st te _).mono ?_
  rintro e w2 ⟨rfl, hb2⟩
  have hbx := hbw.next hb2
  have he2 := he1.alive hb2
  have hp2 := hp1.alive hb2
  go_wp2_with fail
  refine (links4_calls ta na wh st te _).mono ?_
  rintro e w3 ⟨l, A, c, el, rfl, ho, hb3⟩
  go_wp2_with fail
  go_ret
  exact ⟨l, A, c, el, rfl, ho.base hbx.size, hbx.next hb3⟩

set_option maxRecDepth 100000 in
set_option maxHeartbeats 4000000 in
theorem Links_wrong (k : Int) (Ad : Option Addr) (d : List UInt8) (cd : Nat) (Ae : Option Addr) (en : List Ent) (ce : Nat) (tr : ByteArray) (Ap : Option Addr) (pa : List ByteArray) (cp : Nat) (ta na wh : ByteArray) (st : Int) (te : ByteArray) (w : World) (hd : Rd w w.heap.size 1 Ad d.length (bc d)) (he : Rd w w.heap.size 3 Ae en.length (ec en)) (hp : Rd w w.heap.size 1 Ap pa.length (pc pa)) (hel : en.length ≤ 140737488355328) (hpl : pa.length ≤ 140737488355328) (hsz : Hid (∀ p ∈ pa, p.size ≤ maxLen)) (HC : Hid (checkB geS ⟨k, d, en, tr, pa, ta, na, wh, st, te⟩ = false)) :
    Calls Try.prog 41 #[.agg #[.int .i64 k, .slice Ad d.length cd, .slice Ae en.length ce, .string tr, .slice Ap pa.length cp, .string ta, .string na, .string wh, .int .i64 st, .string te]] w fun e w' => e = .returned (.slice none 0 0) ∧ Below w.heap.size w w' := by
  have hb0 : Below w.heap.size w (w.alloc (.cells #[.int .i64 k, .slice Ad d.length cd, .slice Ae en.length ce, .string tr, .slice Ap pa.length cp, .string ta, .string na, .string wh, .int .i64 st, .string te] 43)) := (Below.refl _ _).alloc (Nat.le_refl _) _
  have hd0 := hd.alive hb0
  have he0 := he.alive hb0
  have hp0 := hp.alive hb0
  have hEC : Hid (errC (checkB geS ⟨k, d, en, tr, pa, ta, na, wh, st, te⟩) = 1) := Lib.hid (by rw [HC.out]; rfl)
  go_enter Try.func41, Try.ntmps41
  go_wp2_with fail
  refine (Check_calls k Ad d cd Ae en ce tr Ap pa cp ta na wh st te _ hd0 he0 hp0 hel hpl hsz).mono ?_
  rintro e w1 ⟨rfl, hb1⟩
  rw [hEC.out]
  go_wp2_with fail
  go_ret
  exact ⟨rfl, hb0.next hb1⟩

theorem Links_right (k : Int) (Ad : Option Addr) (d : List UInt8) (cd : Nat) (Ae : Option Addr) (en : List Ent) (ce : Nat) (tr : ByteArray) (Ap : Option Addr) (pa : List ByteArray) (cp : Nat) (ta na wh : ByteArray) (st : Int) (te : ByteArray) (w : World) (hd : Rd w w.heap.size 1 Ad d.length (bc d)) (he : Rd w w.heap.size 3 Ae en.length (ec en)) (hp : Rd w w.heap.size 1 Ap pa.length (pc pa)) (hel : en.length ≤ 140737488355328) (hpl : pa.length ≤ 140737488355328) (hsz : Hid (∀ p ∈ pa, p.size ≤ maxLen)) (HC : Hid (checkB geS ⟨k, d, en, tr, pa, ta, na, wh, st, te⟩ = true)) :
    Calls Try.prog 41 #[.agg #[.int .i64 k, .slice Ad d.length cd, .slice Ae en.length ce, .string tr, .slice Ap pa.length cp, .string ta, .string na, .string wh, .int .i64 st, .string te]] w (RetL w.heap.size w (linksO ⟨k, d, en, tr, pa, ta, na, wh, st, te⟩)) := by
  rcases check_kind HC.out with h | h | h | h
  · have h' : k = 1 := h
    subst h'
    exact Links1_calls Ad d cd Ae en ce tr Ap pa cp ta na wh st te w hd he hp hel hpl hsz HC
  · have h' : k = 2 := h
    subst h'
    exact Links2_calls Ad d cd Ae en ce tr Ap pa cp ta na wh st te w hd he hp hel hpl hsz HC
  · have h' : k = 3 := h
    subst h'
    exact Links3_calls Ad d cd Ae en ce tr Ap pa cp ta na wh st te w hd he hp hel hpl hsz HC
  · have h' : k = 4 := h
    subst h'
    exact Links4_calls Ad d cd Ae en ce tr Ap pa cp ta na wh st te w hd he hp hel hpl hsz HC
/-- The ids that an object names, or none. -/
def linksOf (o : Go.Dol.Obj) : List ByteArray := if checkB geS o = true then linksO o else []
theorem Links_calls (k : Int) (Ad : Option Addr) (d : List UInt8) (cd : Nat) (Ae : Option Addr) (en : List Ent) (ce : Nat) (tr : ByteArray) (Ap : Option Addr) (pa : List ByteArray) (cp : Nat) (ta na wh : ByteArray) (st : Int) (te : ByteArray) (w : World) (hd : Rd w w.heap.size 1 Ad d.length (bc d)) (he : Rd w w.heap.size 3 Ae en.length (ec en)) (hp : Rd w w.heap.size 1 Ap pa.length (pc pa)) (hel : en.length ≤ 140737488355328) (hpl : pa.length ≤ 140737488355328) (hsz : Hid (∀ p ∈ pa, p.size ≤ maxLen)) :
    Calls Try.prog 41 #[.agg #[.int .i64 k, .slice Ad d.length cd, .slice Ae en.length ce, .string tr, .slice Ap pa.length cp, .string ta, .string na, .string wh, .int .i64 st, .string te]] w (RetL w.heap.size w (linksOf ⟨k, d, en, tr, pa, ta, na, wh, st, te⟩)) := by
  cases hc : checkB geS ⟨k, d, en, tr, pa, ta, na, wh, st, te⟩ with
  | true =>
    rw [show linksOf ⟨k, d, en, tr, pa, ta, na, wh, st, te⟩ = linksO ⟨k, d, en, tr, pa, ta, na, wh, st, te⟩ by unfold linksOf; rw [if_pos hc]]
    exact Links_right k Ad d cd Ae en ce tr Ap pa cp ta na wh st te w hd he hp hel hpl hsz (Lib.hid hc)
  | false =>
    rw [show linksOf ⟨k, d, en, tr, pa, ta, na, wh, st, te⟩ = [] by unfold linksOf; rw [hc]; rfl]
    exact (Links_wrong k Ad d cd Ae en ce tr Ap pa cp ta na wh st te w hd he hp hel hpl hsz (Lib.hid hc)).mono fun e w' ⟨h1, h2⟩ => ⟨[], none, 0, rfl, h1, World.ownsRow_nil _ _ _ _, h2⟩
end Go.Proofs.Ytcefbhmmijmefaa
