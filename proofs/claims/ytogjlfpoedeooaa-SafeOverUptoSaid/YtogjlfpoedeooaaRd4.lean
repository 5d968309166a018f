/- The walks of the document's 'disk', its fourth part: a file is put in its place, or is gone. Conditions: lengths below 2^46. -/
import Derived.Test.YtogjlfpoedeooaaRd3
namespace Go.Proofs.Ytogjlfpoedeooaa
open Go.RowKit Go.Dol
set_option linter.unusedVariables false
/-- Two values that were just made, as one element. -/
theorem Rd.file (w : World) (x : FilA) : Rd (w.alloc (.cells x.cells.toArray 82)) (w.heap.size + 1) 2 (some ⟨w.heap.size, 0, none⟩) 1 (fc [x]) := by
  have hB := Blk.new w 82 x.cells
  refine ⟨rfl, fun _ => ⟨w.heap.size, 0, rfl, by omega, fun j u hu => ?_⟩⟩
  rw [Nat.zero_add, hB.cell]
  have e : fc [x] = x.cells := by simp [fc]
  rw [e] at hu
  exact hu
section
variable {w w' : World} {g : Nat} {D : Dk}

set_option maxRecDepth 100000 in
set_option maxHeartbeats 2000000 in
theorem put_calls (h : Rdk w g D) (n : ByteArray) (B : Nat) (Ab : Option Addr) (b : List UInt8) (cb : Nat) (hl : D.l.length + 1 ≤ 3518437208883) (hb : Rd w B 1 Ab b.length (bc b)) (hbl : b.length ≤ 140737488355328) :
    Calls Try.prog 58 #[.pointer (some ⟨g, 0, none⟩), .string n, .slice Ab b.length cb] w fun e w' => e = .returned (.tuple #[]) ∧ Rdk w' g { D with l := putF D.l n b } ∧ w.grownBy w' (some g) := by
  have HFd := Lib.hid (find_calls h n (by omega))
  obtain ⟨i, hi⟩ : ∃ i, i = findF D.l n := ⟨_, rfl⟩
  obtain ⟨is, his⟩ : ∃ is, is = (lookF D.l n).isSome := ⟨_, rfl⟩
  rw [← hi, ← his] at HFd
  have hil : i ≤ D.l.length := by rw [hi]; exact find_le _ _
  have hput : Hid (putF D.l n b = D.l.take i ++ (n, b) :: D.l.drop (i + if is = true then 1 else 0)) := by unfold Hid; rw [put_at, ← hi, ← his]
  have hin : is = true → i < D.l.length := by
    intro hs
    rw [his, look_at, ← hi] at hs
    rcases Nat.lt_or_ge i D.l.length with h1 | h1
    · exact h1
    · rw [List.getElem?_eq_none h1] at hs
      cases hs
  go_enter Try.func58, Try.ntmps58
  go_wp2_with fail
  refine HFd.out.mono ?_
  rintro e w0 ⟨nq, rfl, hw0⟩
  have hb0 : Below w.heap.size w w0 := by rw [hw0]; exact (Below.refl _ _).drewN' nq
  have h0 : Rdk w0 g D := by rw [hw0]; exact h.drewN nq
  have hs0 : w.heap.size ≤ w0.heap.size := hb0.size
  clear hw0 hi his
  obtain ⟨fs, A, c, hB, hO, hF, hL⟩ := id h0
  have hcO := own_le hO
  have hlen : fs.length = D.l.length := by rw [← hL.out, List.length_map]
  have hr := Rd.of_own hO
  have hle1 : fs.length ≤ D.l.length := by omega
  have hle2 : D.l.length ≤ fs.length := by omega
  clear hlen
  have k1 : w0.cell? ⟨g, 1, none⟩ = some (.slice A fs.length c) := by rw [hB.cell]; rfl
  have hsl : ∀ W : World, (Instr.sliceAt 22 (.slice A fs.length c) none (some (.int .i64 (i : Nat))) none).run Try.prog W = .ok (.slice A i c) W := fun W => slf_to W (by omega) hcO.1 hcO.2
  have hr1 : Rd w0 w0.heap.size 2 A i (fc (fs.take i)) := by
    refine ⟨by rw [fc_length, List.length_take]; omega, fun h0 => ?_⟩
    obtain ⟨b1, off, e, hb1, hc1⟩ := hr.at_ (by omega)
    refine ⟨b1, off, e, hb1, fun j u hu => hc1 j u ?_⟩
    rw [← fc_take] at hu
    rw [List.getElem?_take] at hu
    split at hu
    · exact hu
    · cases hu
  have hgl := hB.lt
  go_wp2_with (at_builtin; refine appF rfl (.tmp 15) (.tmp 21) rfl w0.heap.size _ [] 0 rfl rfl (World.ownsRow_nil _ _ _ _) _ A i c (fs.take i) rfl (by rw [List.length_take]; omega) hr1 (by omega) (Nat.le_refl _) ?_)
  intro y1 A1 c1 w1 e1 o1 b1 _
  have e1' : Hid (y1 = fs.take i) := e1
  have b1e : Below w0.heap.size w0 w1 := b1
  have hs1 := b1e.size
  have hbA : Below w1.heap.size w1 (w1.alloc (.cells #[] 5)) := (Below.refl _ _).alloc (Nat.le_refl _) _
  have hrb1 : Rd (w1.alloc (.cells #[] 5)) (w1.alloc (.cells #[] 5)).heap.size 1 Ab b.length (bc b) := by
    refine ⟨hb.len, fun h0 => ?_⟩
    obtain ⟨q, off, e, hq, hcell⟩ := hb.at_ h0
    have hql : q < w.heap.size := World.block_lt_of_cell? w _ (hcell 0 _ (bc_get b 0 (by omega)))
    have hbb := hb0.trans (b1e.mono hs0)
    refine ⟨q, off, e, by simp; omega, fun j u hu => ?_⟩
    rw [World.cell?_alloc_lt _ _ _ (by show q < w1.heap.size; omega)]
    exact (hbb.cell (p := ⟨q, off + j, none⟩) hql).trans (hcell j u hu)
  have oE := own_empty w1
  clear hsl hr1 k1
  go_wp2_with (at_builtin; refine app8 rfl (.tmp 25) (.tmp 26) rfl w1.heap.size _ 0 [] rfl oE _ Ab b.length cb b rfl hrb1 (by omega) (by simp) ?_)
  intro l2 A2 c2 w2 e2 o2 b2 _ _ j1 j2
  have e2' : Hid (l2 = b) := e2
  have b2e : Below w1.heap.size w1 w2 := hbA.trans b2
  have hs2 := b2e.size
  have o1' := own_belowW o1 b2e
  have hxr := Rd.file w2 ⟨n, l2, A2, c2⟩
  have o1'' := o1'.alloc (.cells #[.string n, .slice A2 l2.length c2] 82)
  have hy1 : y1.length ≤ i := by rw [e1'.out, List.length_take]; omega
  change Rd (w2.alloc (.cells #[.string n, .slice A2 l2.length c2] 82)) _ _ _ _ _ at hxr
  go_wp2_with (at_builtin; refine appF rfl (.tmp 23) (.tmp 29) rfl w0.heap.size _ y1 y1.length rfl rfl o1'' _ _ 1 1 [⟨n, l2, A2, c2⟩] rfl rfl hxr (by omega) (by simp; omega) ?_)
  intro y3 A3 c3 w3 e3 o3 b3 g3
  have hs2a : w0.heap.size ≤ (w2.alloc (.cells #[.string n, .slice A2 l2.length c2] 82)).heap.size := by simp; omega
  have bA : Below w2.heap.size w2 (w2.alloc (.cells #[.string n, .slice A2 l2.length c2] 82)) := (Below.refl _ _).alloc (Nat.le_refl _) _
  have b02 : Below w0.heap.size w0 (w2.alloc (.cells #[.string n, .slice A2 l2.length c2] 82)) := (b1e.trans (b2e.mono hs1)).trans (bA.mono (by omega))
  have b3e : Below w0.heap.size w0 w3 := b02.trans b3
  have hs03 := b3e.size
  have hB3 := hB.below b3e hgl
  have k3 : w3.cell? ⟨g, 1, none⟩ = some (.slice A fs.length c) := by rw [hB3.cell]; rfl
  have hF3 := (hF.below b02).keep g3 (Other.own o1'' (by decide) (Nat.zero_le _))
  have hL2 : Far w2 0 A2 l2 := Far.of_seg (Seg.of_own o2)
  have hL3 := (hL2.below bA).keep g3 (Other.own o1'' (by decide) (Nat.zero_le _))
  have hr3 := hr.belowW b3e (Nat.le_refl _)
  have hy3 : y3.length ≤ i + 1 := by rw [e3.out, List.length_append, e1'.out, List.length_take]; simp; omega
  clear hF hr hB hO b02 b3 b2e b1e b1 b2 oE hrb1 hxr o1' o1'' hL2 bA
  cases is with
  | true =>
    have hi1 := hin rfl
    have f1 : IntKind.i64.wrap ((i : Int) + 1) = (i : Int) + 1 := IntWalk.i64_in _ (by omega)
    have hsl3 : ∀ W : World, (Instr.sliceAt 22 (.slice A fs.length c) (some (.int .i64 ((i : Int) + 1))) none none).run Try.prog W = .ok (.slice (if c = i + 1 then A else A.map (·.add ((i + 1) * 2))) (fs.length - (i + 1)) (c - (i + 1))) W := fun W => by have := slf_from (A := A) (n := fs.length) (c := c) (k := i + 1) W (by omega) hcO.1 hcO.2; exact this
    have hrt := (hr3.cut (lo := i + 1) (hi := fs.length) (cap := c) (by omega) (Nat.le_refl _) hcO.1)
    rw [fc_drop, List.take_of_length_le (by rw [fc_length, List.length_drop]; omega)] at hrt
    obtain ⟨A4, hA4⟩ : ∃ A4, A4 = (if c = i + 1 then A else A.map (·.add ((i + 1) * 2))) := ⟨_, rfl⟩
    rw [← hA4] at hrt hsl3
    obtain ⟨n4, hn4⟩ : ∃ n4, n4 = fs.length - (i + 1) := ⟨_, rfl⟩
    obtain ⟨c4, hc4⟩ : ∃ c4, c4 = c - (i + 1) := ⟨_, rfl⟩
    rw [← hn4] at hrt hsl3
    rw [← hc4] at hsl3
    have hn4' : n4 = (fs.drop (i + 1)).length := by rw [List.length_drop]; exact hn4
    have HN4 := Lib.hid hn4'
    have hn4le : n4 + i ≤ fs.length := by omega
    clear hA4 hn4 hc4 hn4'
    go_wp2_with (at_builtin; refine appF rfl (.tmp 35) (.tmp 41) rfl w0.heap.size _ y3 y3.length rfl rfl o3 _ A4 n4 c4 (fs.drop (i + 1)) rfl HN4.out hrt (by omega) hs03 ?_)
    intro y5 A5 c5 w5 e5 o5 b5 g5
    have hB5 := hB3.grown g5 (own_ne o3 hB3 (by decide)).symm
    have k5 : w5.cell? ⟨g, 1, none⟩ = some (.slice A fs.length c) := by rw [hB5.cell]; rfl
    have z5 := hB5.free 1
    have hF5 := hF3.keep g5 (Other.own o3 (by decide) (Nat.zero_le _))
    have hL5 := hL3.keep g5 (Other.own o3 (by decide) (Nat.zero_le _))
    go_wp2_with fail
    go_end0
    have hg6 : w5.grownBy (w5.setCell ⟨g, 1, none⟩ (.slice A5 y5.length c5)) (some g) := grown_setCell (World.grownBy.refl w5 _) 1 _
    have hO6 := Other.blk (B := 0) hB5 (by decide) (Nat.zero_le _)
    have b50 : Below w0.heap.size w0 w5 := b3e.trans b5
    refine ⟨rfl, ⟨y5, A5, c5, hB5.set 1 _, (own_other o5 hB5 (by decide) hg6).base (Nat.zero_le _), ?_, Lib.hid ?_⟩, grown_step (grown_of_below (hb0.trans (b50.mono hs0)) _) hg6⟩
    · intro x hx
      rw [e5.out, e3.out, e1'.out] at hx
      rcases List.mem_append.1 hx with hx | hx
      · rcases List.mem_append.1 hx with hx | hx
        · exact hF5.keep hg6 hO6 x (List.mem_of_mem_take hx)
        · rw [List.mem_singleton.1 hx]
          exact ⟨hL5.keep hg6 hO6, j1, j2⟩
      · exact hF5.keep hg6 hO6 x (List.mem_of_mem_drop hx)
    · show y5.map FilA.f = putF D.l n b
      rw [e5.out, e3.out, e1'.out, hput.out, ← hL.out]
      simp only [List.map_append, List.map_take, List.map_drop, List.map_cons, List.append_assoc, List.cons_append, List.nil_append]
      show _ ++ (n, l2) :: _ = _
      rw [e2'.out]
      rfl
  | false =>
    have hsl3 : ∀ W : World, (Instr.sliceAt 22 (.slice A fs.length c) (some (.int .i64 ((i : Nat)))) none none).run Try.prog W = .ok (.slice (if c = i then A else A.map (·.add ((i) * 2))) (fs.length - (i)) (c - (i))) W := fun W => slf_from W (by omega) hcO.1 hcO.2
    have hrt := (hr3.cut (lo := i) (hi := fs.length) (cap := c) (by omega) (Nat.le_refl _) hcO.1)
    rw [fc_drop, List.take_of_length_le (by rw [fc_length, List.length_drop]; omega)] at hrt
    obtain ⟨A4, hA4⟩ : ∃ A4, A4 = (if c = i then A else A.map (·.add ((i) * 2))) := ⟨_, rfl⟩
    rw [← hA4] at hrt hsl3
    obtain ⟨n4, hn4⟩ : ∃ n4, n4 = fs.length - (i) := ⟨_, rfl⟩
    obtain ⟨c4, hc4⟩ : ∃ c4, c4 = c - (i) := ⟨_, rfl⟩
    rw [← hn4] at hrt hsl3
    rw [← hc4] at hsl3
    have hn4' : n4 = (fs.drop (i)).length := by rw [List.length_drop]; exact hn4
    have HN4 := Lib.hid hn4'
    have hn4le : n4 + i ≤ fs.length := by omega
    clear hA4 hn4 hc4 hn4'
    go_wp2_with (at_builtin; refine appF rfl (.tmp 35) (.tmp 41) rfl w0.heap.size _ y3 y3.length rfl rfl o3 _ A4 n4 c4 (fs.drop (i)) rfl HN4.out hrt (by omega) hs03 ?_)
    intro y5 A5 c5 w5 e5 o5 b5 g5
    have hB5 := hB3.grown g5 (own_ne o3 hB3 (by decide)).symm
    have k5 : w5.cell? ⟨g, 1, none⟩ = some (.slice A fs.length c) := by rw [hB5.cell]; rfl
    have z5 := hB5.free 1
    have hF5 := hF3.keep g5 (Other.own o3 (by decide) (Nat.zero_le _))
    have hL5 := hL3.keep g5 (Other.own o3 (by decide) (Nat.zero_le _))
    go_wp2_with fail
    go_end0
    have hg6 : w5.grownBy (w5.setCell ⟨g, 1, none⟩ (.slice A5 y5.length c5)) (some g) := grown_setCell (World.grownBy.refl w5 _) 1 _
    have hO6 := Other.blk (B := 0) hB5 (by decide) (Nat.zero_le _)
    have b50 : Below w0.heap.size w0 w5 := b3e.trans b5
    refine ⟨rfl, ⟨y5, A5, c5, hB5.set 1 _, (own_other o5 hB5 (by decide) hg6).base (Nat.zero_le _), ?_, Lib.hid ?_⟩, grown_step (grown_of_below (hb0.trans (b50.mono hs0)) _) hg6⟩
    · intro x hx
      rw [e5.out, e3.out, e1'.out] at hx
      rcases List.mem_append.1 hx with hx | hx
      · rcases List.mem_append.1 hx with hx | hx
        · exact hF5.keep hg6 hO6 x (List.mem_of_mem_take hx)
        · rw [List.mem_singleton.1 hx]
          exact ⟨hL5.keep hg6 hO6, j1, j2⟩
      · exact hF5.keep hg6 hO6 x (List.mem_of_mem_drop hx)
    · show y5.map FilA.f = putF D.l n b
      rw [e5.out, e3.out, e1'.out, hput.out, ← hL.out]
      simp only [List.map_append, List.map_take, List.map_drop, List.map_cons, List.append_assoc, List.cons_append, List.nil_append]
      show _ ++ (n, l2) :: _ = _
      rw [e2'.out]
      rfl
end
end Go.Proofs.Ytogjlfpoedeooaa
