/- The walks of the layer 'disk', its seventh part: bytes are laid behind a file's. Conditions: the disk is in good order; lengths below 2^46. -/
import Derived.Test.YtogjlfpoedeooaaDisk8
namespace Go.Proofs.Ytogjlfpoedeooaa
open Go.RowKit Go.Dol
set_option linter.unusedVariables false
/-- Two values that were just made. -/
theorem Rd.new2v (w : World) (T : TypeId) (u v : Value) : Rd (w.alloc (.cells #[u, v] T)) (w.heap.size + 1) 1 (some ⟨w.heap.size, 0, none⟩) 2 [u, v] := by
  have hB := Blk.new w T [u, v]
  refine ⟨rfl, fun _ => ⟨w.heap.size, 0, rfl, by omega, fun j x hx => ?_⟩⟩
  rw [Nat.zero_add]
  rw [show ([u, v] : List Value).toArray = #[u, v] from rfl] at hB
  rw [hB.cell]
  exact hx
section
variable {w w' : World} {g m : Nat} {D : Dk}

set_option maxRecDepth 100000 in
set_option maxHeartbeats 1600000 in
theorem appF_calls (xo xb xd xn : Nat) (n : ByteArray) (hn : n.size ≤ maxLen) (al : List (Value × Value)) (o b : List UInt8) (Ao Ab : Option Addr) (co cb : Nat) (w : World) (hM : MapL Try.prog 9 w m al) (h1 : w.cell? ⟨g, 1, none⟩ = some (.map (some m)))
    (ho : w.cell? ⟨xo, 0, none⟩ = some (.slice Ao o.length co)) (hb : w.cell? ⟨xb, 0, none⟩ = some (.slice Ab b.length cb)) (hd : w.cell? ⟨xd, 0, none⟩ = some (.pointer (some ⟨g, 0, none⟩))) (hN : w.cell? ⟨xn, 0, none⟩ = some (.string n))
    (hro : Rd w w.heap.size 1 Ao o.length (bc o)) (hrb : Rd w w.heap.size 1 Ab b.length (bc b)) (hl : o.length + b.length ≤ 140737488355328) (ne : xo ≠ m ∧ xb ≠ m ∧ xd ≠ m ∧ xn ≠ m ∧ g ≠ m) :
    Calls Try.prog 54 #[.pointer (some ⟨xo, 0, none⟩), .pointer (some ⟨xb, 0, none⟩), .pointer (some ⟨xd, 0, none⟩), .pointer (some ⟨xn, 0, none⟩)] w fun e w' =>
      e = .returned (.tuple #[]) ∧ ∃ al' v, MapL Try.prog 9 w' m al' ∧ MPut al (.string n) v al' ∧ Byt w' v (o ++ b) ∧ w.grownBy w' (some m) := by
  obtain ⟨kl, hkl⟩ := str_key n hn
  have l1 := World.block_lt_of_cell? w _ h1
  have l2 := World.block_lt_of_cell? w _ ho
  have l3 := World.block_lt_of_cell? w _ hb
  have l4 := World.block_lt_of_cell? w _ hd
  have l5 := World.block_lt_of_cell? w _ hN
  have hba : Below w.heap.size w (World.drew (w.alloc (.cells #[.slice Ao o.length co, .slice Ab b.length cb] 23))) := ((Below.refl w.heap.size w).alloc (Nat.le_refl _) _).drew
  have hro1 := hro.belowW hba (Nat.le_refl _)
  have hrb1 := hrb.belowW hba (Nat.le_refl _)
  have hsz : (World.drew (w.alloc (.cells #[.slice Ao o.length co, .slice Ab b.length cb] 23))).heap.size = w.heap.size + 1 := World.size_alloc ..
  have hrA := (Rd.new2v w 23 (.slice Ao o.length co) (.slice Ab b.length cb)).drew
  have hcl : catL [(o, Ao, co), (b, Ab, cb)] = o ++ b := by simp [catL]
  have hC := Concat_calls (some ⟨w.heap.size, 0, none⟩) [(o, Ao, co), (b, Ab, cb)] 2 2 rfl (World.drew (w.alloc (.cells #[.slice Ao o.length co, .slice Ab b.length cb] 23))) (by rw [hsz]; exact hrA) (by rw [hcl, List.length_append]; exact hl) (by omega)
    (Lib.hid (by
      intro x hx
      rw [hsz]
      rcases List.mem_cons.1 hx with rfl | hx
      · exact hro1.more (by omega)
      · obtain rfl := List.mem_singleton.1 hx
        exact hrb1.more (by omega)))
  rw [hcl] at hC
  have HC := Lib.hid hC
  clear hC hcl hrA hro1 hrb1 hro hrb
  obtain ⟨n1, n2, n3, n4, n5⟩ := ne
  go_enter Try.func54, Try.ntmps54
  go_wp2_with fail
  go_region_held3 (fun w' => w'.cell? ⟨g, 1, none⟩ = some (.map (some m)) ∧ w'.cell? ⟨xo, 0, none⟩ = some (.slice Ao o.length co) ∧ w'.cell? ⟨xb, 0, none⟩ = some (.slice Ab b.length cb) ∧ w'.cell? ⟨xd, 0, none⟩ = some (.pointer (some ⟨g, 0, none⟩)) ∧ w'.cell? ⟨xn, 0, none⟩ = some (.string n))
    (first | exact ⟨q1, q2, q3, q4, q5⟩ | exact ⟨p1, p2, p3, p4, p5⟩ | go_keep) ((first
      | (go_at_call 55; (with_reducible refine HC.out.mono ?_); rintro e w3 ⟨l', A', c', he, rfl, ho3, hb3, _, _⟩;
          have hb4 := hba.trans (hb3.mono (by simp));
          have p1 : w3.cell? ⟨g, 1, none⟩ = some (.map (some m)) := (hb4.cell (p := ⟨g, 1, none⟩) l1).trans h1;
          have p2 : w3.cell? ⟨xo, 0, none⟩ = some (.slice Ao o.length co) := (hb4.cell (p := ⟨xo, 0, none⟩) l2).trans ho;
          have p3 : w3.cell? ⟨xb, 0, none⟩ = some (.slice Ab b.length cb) := (hb4.cell (p := ⟨xb, 0, none⟩) l3).trans hb;
          have p4 : w3.cell? ⟨xd, 0, none⟩ = some (.pointer (some ⟨g, 0, none⟩)) := (hb4.cell (p := ⟨xd, 0, none⟩) l4).trans hd;
          have p5 : w3.cell? ⟨xn, 0, none⟩ = some (.string n) := (hb4.cell (p := ⟨xn, 0, none⟩) l5).trans hN;
          have hM3 := hM.belowW hb4;
          obtain ⟨al', w4, hrun, hM4, hp4, hg4⟩ := hM3.update str_law Try.underlying65 hkl (.slice A' l'.length c');
          have q1 : w4.cell? ⟨g, 1, none⟩ = some (.map (some m)) := (World.cell?_of_block (hg4.block g (World.block_lt_of_cell? w3 _ p1) (fun e => by injection e with e; exact n5 e))).trans p1;
          have q2 : w4.cell? ⟨xo, 0, none⟩ = some (.slice Ao o.length co) := (World.cell?_of_block (hg4.block xo (World.block_lt_of_cell? w3 _ p2) (fun e => by injection e with e; exact n1 e))).trans p2;
          have q3 : w4.cell? ⟨xb, 0, none⟩ = some (.slice Ab b.length cb) := (World.cell?_of_block (hg4.block xb (World.block_lt_of_cell? w3 _ p3) (fun e => by injection e with e; exact n2 e))).trans p3;
          have q4 : w4.cell? ⟨xd, 0, none⟩ = some (.pointer (some ⟨g, 0, none⟩)) := (World.cell?_of_block (hg4.block xd (World.block_lt_of_cell? w3 _ p4) (fun e => by injection e with e; exact n3 e))).trans p4;
          have q5 : w4.cell? ⟨xn, 0, none⟩ = some (.string n) := (World.cell?_of_block (hg4.block xn (World.block_lt_of_cell? w3 _ p5) (fun e => by injection e with e; exact n4 e))).trans p5)))
  all_goals go_wp2_with fail
  all_goals go_end0
  refine ⟨rfl, al', _, hM4, hp4, ?_, ?_⟩
  · have h5 := Byt.own ho3
    rw [he.out] at h5
    rw [he.out]
    exact h5.keep hg4 (Other.map hM3)
  · exact grown_step (grown_of_below hb4 _) hg4

/-- A raw write that lays bytes behind a file's. -/
theorem appSpend_calls (h : Dsk w g m D) (hK : OkD D) (n : ByteArray) (hnb : nameB n = true) (B : Nat) (o b : List UInt8) (Ao Ab : Option Addr) (co cb : Nat) (ho : (lookF D.l n).getD [] = o) (hbl : b.length ≤ 64) (more : Int) (hmore : more = appMore D n b) (hroom : ¬ (0 < more ∧ frD D < more)) (xo xb xd xn : Nat)
    (ne : xo ≠ m ∧ xb ≠ m ∧ xd ≠ m ∧ xn ≠ m) (ng : xo ≠ g ∧ xb ≠ g ∧ xd ≠ g ∧ xn ≠ g) (hfo : Far w 0 Ao o) (hfb : Far w B Ab b) (hBg : B ≤ g)
    (h2 : w.cell? ⟨xo, 0, none⟩ = some (.slice Ao o.length co)) (h3 : w.cell? ⟨xb, 0, none⟩ = some (.slice Ab b.length cb)) (h4 : w.cell? ⟨xd, 0, none⟩ = some (.pointer (some ⟨g, 0, none⟩))) (h5 : w.cell? ⟨xn, 0, none⟩ = some (.string n)) :
    Calls Try.prog 44 #[.pointer (some ⟨g, 0, none⟩), .int .i64 more, .func (.func 54) #[] #[.pointer (some ⟨xo, 0, none⟩), .pointer (some ⟨xb, 0, none⟩), .pointer (some ⟨xd, 0, none⟩), .pointer (some ⟨xn, 0, none⟩)]] w (RetOp w g m (spendD D (putF D.l n (o ++ b)))) := by
  have hn := nameB_size hnb
  have hol : o.length ≤ 1099511627776 := by
    rw [← ho]
    cases hl : lookF D.l n with
    | none => simp
    | some c =>
      have h1 := hK.look hl
      have h2 := hK.cap1
      simp only [Option.getD_some]
      omega
  have l2 := World.block_lt_of_cell? w _ h2
  have l3 := World.block_lt_of_cell? w _ h3
  have l4 := World.block_lt_of_cell? w _ h4
  have l5 := World.block_lt_of_cell? w _ h5
  have hcost : costs (putF D.l n (o ++ b)) = costs D.l + more := by
    rw [costs_putF hK.ord, hmore, ← ho]
    unfold appMore
    cases lookF D.l n with
    | none => simp; omega
    | some c => simp; omega
  by_cases hl : D.left = 0
  · have HF : spendD D (putF D.l n (o ++ b)) = (5, { D with dark := true, left := -1 }) := if_pos hl
    rw [HF]
    exact spend_cut h more _ hroom hl
  · have HF : spendD D (putF D.l n (o ++ b)) = (0, { D with left := lessD D.left, done := D.done + 1, l := putF D.l n (o ++ b) }) := if_neg hl
    rw [HF]
    refine (spend_done h more _ #[.pointer (some ⟨xo, 0, none⟩), .pointer (some ⟨xb, 0, none⟩), .pointer (some ⟨xd, 0, none⟩), .pointer (some ⟨xn, 0, none⟩)] (enters_of Try.func54 (by kernel_rfl) rfl _) hroom hl hK.left0 hK.left1 (fun w1 => Dsk w1 g m { D with left := lessD D.left, done := D.done + 1, l := putF D.l n (o ++ b) } ∧ Tw w w1 g m) (fun w1 hB hg => ?_)).mono ?_
    · obtain ⟨al, hB0, hM, hF⟩ := id h
      have hgm := hM.blk_ne hB0
      have hM1 := hM.grown hg (fun e => by injection e with e; exact hgm e.symm)
      have hO0 := Other.blk (B := 0) hB0 (by decide) (Nat.zero_le _)
      have hF1 := hF.keep hg hO0
      have k1 : w1.cell? ⟨g, 1, none⟩ = some (.map (some m)) := by rw [hB.cell]; rfl
      have hfo1 := hfo.keep hg hO0
      have hfb1 := hfb.keep hg (Other.blk hB0 (by decide) hBg)
      have e2 := (World.cell?_of_block (hg.block xo l2 (fun e => by injection e with e; exact ng.1 e))).trans h2
      have e3 := (World.cell?_of_block (hg.block xb l3 (fun e => by injection e with e; exact ng.2.1 e))).trans h3
      have e4 := (World.cell?_of_block (hg.block xd l4 (fun e => by injection e with e; exact ng.2.2.1 e))).trans h4
      have e5 := (World.cell?_of_block (hg.block xn l5 (fun e => by injection e with e; exact ng.2.2.2 e))).trans h5
      refine (appF_calls xo xb xd xn n (by unfold maxLen; omega) al o b Ao Ab co cb w1 hM1 k1 e2 e3 e4 e5 hfo1.1 hfb1.1 (by omega) ⟨ne.1, ne.2.1, ne.2.2.1, ne.2.2.2, hgm⟩).mono ?_
      rintro e w2 ⟨rfl, al', v, hM2, hp2, hv2, hg2⟩
      refine ⟨rfl, ⟨al', ?_, hM2, ?_⟩, (Tw.grown hg).step (Tw.grownM hg2)⟩
      · have e1 : frD { D with left := lessD D.left, done := D.done + 1, l := putF D.l n (o ++ b) } = IntKind.i64.wrap (frD D - more) := free_turn rfl hcost
        rw [e1]
        exact hB.grown hg2 (fun e => by injection e with e; exact hgm e)
      · exact (hF1.keep hg2 (Other.map hM1)).put hK.ord hp2 hv2
    · rintro e w1 ⟨rfl, h1, h2⟩
      exact ⟨rfl, h1, h2⟩
end
end Go.Proofs.Ytogjlfpoedeooaa
