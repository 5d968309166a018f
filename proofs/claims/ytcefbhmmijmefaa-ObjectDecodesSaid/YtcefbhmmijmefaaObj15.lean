/- The walks of the layer 'object', its fifteenth part: what its reader does many times. Conditions: lengths below 2^47. -/
import Derived.Test.YtcefbhmmijmefaaObj14
import Derived.Test.YtcefbhmmijmefaaRegLast
import Derived.Test.YtcefbhmmijmefaaObjRd2
import Derived.Test.YtcefbhmmijmefaaAppV
import Derived.Deep.DeepAppendWide
namespace Go.Dol
open Go.RowKit
/-- append onto a row that the call owns, at a step of a region that draws. -/
theorem appNr {P : Program} {w : World} {ops : Array Oper} {o : Oper} {a : Act} {K : Act → World → Prop} {Q : Exit → Act → World → Prop} {E : Prop} (hgd : o.guard = none) (s x : Operand) (t e : TypeId) (z : Value) (size bytes : Nat)
    (ho : o.op = .call { callee := .builtin .append, args := #[s, x], argTypes := #[t, t] })
    (ht : P.underlying t = some (.slice e)) (hi : (P.info? e).map (fun i => (i.zero, i.size, i.bytes)) = some (some z, size, bytes)) (hzs : z.cells.size = size) (hsz : 0 < size)
    (base : Nat) (v : Value) (n : Nat) (xs : List Value) (hs : a.eval s = v) (hown : w.ownsRow base e size v n xs)
    (B : Nat) (A : Option Addr) (m c : Nat) (news : List Value) (hx : a.eval x = .slice A m c) (hr : Rd w B size A m news) (h1 : ∀ u ∈ news, u.oneCell' = true)
    (hmax : n + m ≤ maxLen) (hlen : ((n + m) + (n + m) / 4 + 192) * bytes ≤ 281474976710656) (hbase : base ≤ w.heap.size)
    (h : ∀ (A' : Option Addr) (c' : Nat) (w' : World), w'.ownsRow base e size (.slice A' (n + m) c') (n + m) (xs ++ news) → Below base w w' → w.grownBy w' v.ownBlock →
      n + m ≤ c' → c' ≤ maxLen → K (a.put o.dst (.slice A' (n + m) c')) w') : if Region.wanted o (yielded ops a.tmps) = true then Oper.wp P o a w K Q else E := by
  have hw : Region.wanted o (yielded ops a.tmps) = true := by simp [Region.wanted, hgd]
  rw [if_pos hw]
  obtain ⟨i, hi0, hz0, hz1, hz2⟩ := info_parts hi
  rcases Nat.eq_zero_or_pos m with h0 | h0
  · subst h0
    obtain rfl := hr.xs_nil
    obtain ⟨A', c', rfl, hc1, hc2⟩ := own_form hown
    have hrun := run_append_nothing (P := P) w base t o.type e i size ht hi0 _ n xs hown A c
    unfold Oper.wp execOp
    simp only [ho, resolve, invoke, builtin, Sem.run_bind, Sem.run_pure, Result.andThen_ok, List.map_toArray, List.map_cons, List.map_nil, hs, hx, hrun]
    exact h A' c' w (by simpa using hown) (Below.refl _ _) (World.grownBy.refl w _) hc1 hc2
  · obtain ⟨b, off, rfl, _, hcells⟩ := hr.at_ h0
    refine wp_append_own_wide w s x t ho base e i z size bytes ht hi0 hz0 hz1 hz2 hzs hsz v n xs hs hown ⟨b, off, none⟩ m c news hx hr.len (fun j u hu => by rw [Addr.add_lit]; exact hcells j u hu) h1 hmax hlen hbase ?_
    intro v' w' h2 h3 _
    obtain ⟨A', c', rfl, hc1, hc2⟩ := own_form h2
    exact h _ c' w' h2 ((Below.refl _ _).grown h3 hbase (fun k hk => (hown.lt k hk).1)) h3 hc1 hc2
/-- The cells of one element that was just made. -/
theorem Rd.new3 (w : World) (T : TypeId) (u v x : Value) : Rd (w.alloc (.cells #[u, v, x] T)) (w.heap.size + 1) 3 (some ⟨w.heap.size, 0, none⟩) 1 [u, v, x] := by
  refine ⟨by simp, fun _ => ⟨w.heap.size, 0, rfl, by omega, fun j u' hu => ?_⟩⟩
  have hB := Blk.new w T [u, v, x]
  rw [Nat.zero_add]
  exact (hB.cell j).trans hu
end Go.Dol
namespace Go.Proofs.Ytcefbhmmijmefaa
open Go.RowKit Go.Dol
set_option linter.unusedVariables false

theorem info_ent : (Try.prog.info? 56).map (fun i => (i.zero, i.size, i.bytes)) = some (some (.agg #[.string ⟨#[]⟩, .bool false, .string ⟨#[]⟩]), 3, 40) := by kernel_rfl
theorem info_st : (Try.prog.info? 9).map (fun i => (i.zero, i.size, i.bytes)) = some (some (.string ⟨#[]⟩), 1, 16) := by kernel_rfl
theorem ec_append (a b : List Ent) : ec (a ++ b) = ec a ++ ec b := by simp [ec]
theorem pc_app (a b : List ByteArray) : pc (a ++ b) = pc a ++ pc b := by simp [pc]

theorem blk_apart {w : World} {g g' : Nat} {T T' : TypeId} {cs cs' : List Value} (h : Blk w g T cs) (h' : Blk w g' T' cs') (hT : T ≠ T') : some g ≠ some g' := fun e => by
  injection e with e
  subst e
  unfold Blk at h h'
  rw [h] at h'
  injection h' with h'
  injection h' with _ h'
  exact hT h'
/-- A reader that is captured, and the tree that is being read. -/
def TreeSt (w : World) (B gx gr g : Nat) (en : List Ent) (l : List UInt8) (b : Bool) : Prop :=
  ∃ (A : Option Addr) (c : Nat), Blk w gx 96 [.slice A en.length c] ∧ w.ownsRow B 56 3 (.slice A en.length c) en.length (ec en) ∧ Blk w gr 72 [.pointer (some ⟨g, 0, none⟩)] ∧ Rs w B g l b ∧ B ≤ gx ∧ B ≤ gr ∧ B ≤ w.heap.size
theorem TreeSt.calm {w w' : World} {B gx gr g : Nat} {en : List Ent} {l l' : List UInt8} {b b' : Bool} (h : TreeSt w B gx gr g en l b) (hR : Rs w' B g l' b') (hg : w.grownBy w' (some g)) : TreeSt w' B gx gr g en l' b' := by
  obtain ⟨A, c, h1, h2, h3, h4, h5, h6, h7⟩ := h
  obtain ⟨Ar, cr, h8, _⟩ := h4
  have n1 := blk_apart h1 h8 (by decide)
  have n2 := blk_apart h3 h8 (by decide)
  exact ⟨A, c, h1.grown hg n1, own_other h2 h8 (by decide) hg, h3.grown hg n2, hR, h5, h6, Nat.le_trans h7 hg.size⟩

def RetEntry (B gx gr g : Nat) (en : List Ent) (l : List UInt8) (b : Bool) (w : World) (e : Ending) (w' : World) : Prop :=
  ∃ (v : Ent) (l' : List UInt8) (b' : Bool), e = .returned (.tuple #[]) ∧ TreeSt w' B gx gr g (en ++ [v]) l' b' ∧ Hid (Took (takeEnt l) b v l' b') ∧ Below B w w' ∧ l'.length ≤ l.length

set_option maxRecDepth 100000 in
set_option maxHeartbeats 4000000 in
theorem entry_calls (B gx gr g : Nat) (en : List Ent) (l : List UInt8) (b : Bool) (w : World) (h : TreeSt w B gx gr g en l b) (hen : en.length + 1 ≤ 5000000000000) :
    Calls Try.prog 75 #[.pointer (some ⟨gx, 0, none⟩), .pointer (some ⟨gr, 0, none⟩)] w (RetEntry B gx gr g en l b w) := by
  obtain ⟨A, c, hX, hE, hG, hR, hBx, hBr, hBw⟩ := h
  obtain ⟨_, hBg⟩ := hR.lt
  obtain ⟨Ar, cr, hRb, _⟩ := id hR
  have n1 := blk_apart hX hRb (by decide)
  have n2 := blk_apart hG hRb (by decide)
  have z0 : w.cell? ⟨gx, 0, none⟩ = some (.slice A en.length c) := by rw [hX.cell]; rfl
  have y0 : w.cell? ⟨gr, 0, none⟩ = some (.pointer (some ⟨g, 0, none⟩)) := by rw [hG.cell]; rfl
  go_enter Try.func75, Try.ntmps75
  go_wp2_with fail
  refine wp_region_last (S := fun w' => w'.cell? ⟨gx, 0, none⟩ = some (.slice A en.length c) ∧ w'.cell? ⟨gr, 0, none⟩ = some (.pointer (some ⟨g, 0, none⟩))) 13 _ (by kernel_rfl) rfl (by kernel_rfl) rfl rfl ⟨z0, y0⟩ (fun hHeld => ?_)
  simp only [List.setIfInBounds_toArray, List.set_cons_zero, List.set_cons_succ, idle, List.getElem_toArray, List.getElem_cons_succ, List.getElem_cons_zero]
  refine wpAnyH_take (i := 0) (oi := _) (v := .pointer (some ⟨gx, 0, none⟩)) rfl (by kernel_rfl) (by kernel_rfl) (by kernel_rfl) (fun _ _ _ h => h) (Or.inl ⟨by rfl, fun w' hS => ?_⟩) hHeld ?_
  · obtain ⟨s0, s1⟩ := hS
    go_simp
  try simp only [Act.put, List.setIfInBounds_toArray]
  refine wpAnyH_take (i := 1) (oi := _) (v := .slice A en.length c) rfl (by kernel_rfl) (by kernel_rfl) (by kernel_rfl) (fun _ _ _ h => h) (Or.inl ⟨by rfl, fun w' hS => ?_⟩) hHeld ?_
  · obtain ⟨s0, s1⟩ := hS
    go_simp
  try simp only [Act.put]
  refine wpAnyH_take (i := 2) (oi := _) (v := .pointer (some ⟨g, 0, none⟩)) rfl (by kernel_rfl) (by kernel_rfl) (by kernel_rfl) (fun _ _ _ h => h) (Or.inl ⟨by rfl, fun w' hS => ?_⟩) hHeld ?_
  · obtain ⟨s0, s1⟩ := hS
    go_simp
  try simp only [Act.put]
  refine wpAnyH_take (i := 4) (oi := _) (v := .pointer (some ⟨g, 0, none⟩)) rfl (by kernel_rfl) (by kernel_rfl) (by kernel_rfl) (fun _ _ _ h => h) (Or.inl ⟨by rfl, fun w' hS => ?_⟩) hHeld ?_
  · obtain ⟨s0, s1⟩ := hS
    go_simp
  try simp only [Act.put]
  refine wpAnyH_take (i := 7) (oi := _) (v := .pointer (some ⟨g, 0, none⟩)) rfl (by kernel_rfl) (by kernel_rfl) (by kernel_rfl) (fun _ _ _ h => h) (Or.inl ⟨by rfl, fun w' hS => ?_⟩) hHeld ?_
  · obtain ⟨s0, s1⟩ := hS
    go_simp
  try simp only [Act.put]
  refine wpAnyH_ready (rs := [3]) (by kernel_rfl) (by simp) (AllReadyH.cons (o := _) rfl (fun K hK => ?_) AllReadyH.nil)
  go_simp
  refine (rdText_calls B g l b w.drew hR.drew).mono ?_
  rintro e w1 ⟨nm, l1, b1, rfl, h1, t1, g1, q1, _⟩
  have hE1 := own_other (w := w.drew) hE hRb.drew (by decide) g1
  obtain ⟨Ar1, cr1, hRb1, _⟩ := id h1
  have hX1 := hX.drew.grown g1 n1
  have hG1 := hG.drew.grown g1 n2
  have z1 : w1.cell? ⟨gx, 0, none⟩ = some (.slice A en.length c) := by rw [hX1.cell]; rfl
  have y1 : w1.cell? ⟨gr, 0, none⟩ = some (.pointer (some ⟨g, 0, none⟩)) := by rw [hG1.cell]; rfl
  unfold mkS
  refine hK.out _ _ ⟨z1, y1⟩ (fun hHeld => ?_)
  clear hK K
  try simp only [Act.put, List.setIfInBounds_toArray, List.set_cons_zero, List.set_cons_succ]
  refine wpAnyH_ready (rs := [5]) (by kernel_rfl) (by simp) (AllReadyH.cons (o := _) rfl (fun K hK => ?_) AllReadyH.nil)
  go_simp
  refine (rdBytes_calls B g 1 1 rfl l1 b1 w1 h1).mono ?_
  rintro e w2 ⟨dd, l2, b2, rfl, h2, t2, g2, q2, _⟩
  have hE2 := own_other hE1 hRb1 (by decide) g2
  obtain ⟨Ar2, cr2, hRb2, _⟩ := id h2
  have hX2 := hX1.grown g2 n1
  have hG2 := hG1.grown g2 n2
  have z2 : w2.cell? ⟨gx, 0, none⟩ = some (.slice A en.length c) := by rw [hX2.cell]; rfl
  have y2 : w2.cell? ⟨gr, 0, none⟩ = some (.pointer (some ⟨g, 0, none⟩)) := by rw [hG2.cell]; rfl
  unfold mkS
  refine hK.out _ _ ⟨z2, y2⟩ (fun hHeld => ?_)
  clear hK K
  try simp only [Act.put, List.setIfInBounds_toArray, List.set_cons_zero, List.set_cons_succ]
  refine wpAnyH_take (i := 6) (oi := _) (v := .bool (dd == [1])) rfl (by kernel_rfl) (by kernel_rfl) (by kernel_rfl) (fun _ _ _ h => h) (Or.inl ⟨by rfl, fun w' hS => ?_⟩) hHeld ?_
  · obtain ⟨s0, s1⟩ := hS
    go_simp
  try simp only [Act.put, List.setIfInBounds_toArray]
  refine wpAnyH_ready (rs := [8]) (by kernel_rfl) (by simp) (AllReadyH.cons (o := _) rfl (fun K hK => ?_) AllReadyH.nil)
  go_simp
  refine (rdBytes_calls B g 32 32 rfl l2 b2 w2 h2).mono ?_
  rintro e w3 ⟨ii, l3, b3, rfl, h3, t3, g3, q3, _⟩
  have hE3 := own_other hE2 hRb2 (by decide) g3
  have hX3 := hX2.grown g3 n1
  have hG3 := hG2.grown g3 n2
  have z3 : w3.cell? ⟨gx, 0, none⟩ = some (.slice A en.length c) := by rw [hX3.cell]; rfl
  have y3 : w3.cell? ⟨gr, 0, none⟩ = some (.pointer (some ⟨g, 0, none⟩)) := by rw [hG3.cell]; rfl
  unfold mkS
  refine hK.out _ _ ⟨z3, y3⟩ (fun hHeld => ?_)
  clear hK K
  try simp only [Act.put, List.setIfInBounds_toArray, List.set_cons_zero, List.set_cons_succ]
  refine wpAnyH_take (i := 9) (oi := _) (v := .agg #[.string ⟨nm.toArray⟩, .bool (dd == [1]), .string ⟨ii.toArray⟩]) rfl (by kernel_rfl) (by kernel_rfl) (by kernel_rfl) (fun _ _ _ h => h) (Or.inl ⟨by rfl, fun w' hS => ?_⟩) hHeld ?_
  · obtain ⟨s0, s1⟩ := hS
    go_simp
  try simp only [Act.put, List.setIfInBounds_toArray]
  have hE4 := hE3.alloc (.cells #[.string ⟨nm.toArray⟩, .bool (dd == [1]), .string ⟨ii.toArray⟩] 56)
  have hr4 := Rd.new3 w3 56 (.string ⟨nm.toArray⟩) (.bool (dd == [1])) (.string ⟨ii.toArray⟩)
  have h14 : ∀ u ∈ [Value.string ⟨nm.toArray⟩, .bool (dd == [1]), .string ⟨ii.toArray⟩], u.oneCell' = true := by
    intro u hu
    simp only [List.mem_cons, List.not_mem_nil, or_false] at hu
    rcases hu with rfl | rfl | rfl <;> rfl
  have s1 : w.heap.size ≤ w1.heap.size := g1.size
  have s2 := g2.size
  have s3 := g3.size
  have hb4 : Below w3.heap.size w3 (w3.alloc (.cells #[.string ⟨nm.toArray⟩, .bool (dd == [1]), .string ⟨ii.toArray⟩] 56)) := (Below.refl _ _).alloc (Nat.le_refl _) _
  have hBw4 : B ≤ (w3.alloc (.cells #[.string ⟨nm.toArray⟩, .bool (dd == [1]), .string ⟨ii.toArray⟩] 56)).heap.size := Nat.le_trans (by omega) hb4.size
  have h4 := h3.below hb4
  have hX4 := hX3.alloc (.cells #[.string ⟨nm.toArray⟩, .bool (dd == [1]), .string ⟨ii.toArray⟩] 56)
  have hG4 := hG3.alloc (.cells #[.string ⟨nm.toArray⟩, .bool (dd == [1]), .string ⟨ii.toArray⟩] 56)
  have z4 : (w3.alloc (.cells #[.string ⟨nm.toArray⟩, .bool (dd == [1]), .string ⟨ii.toArray⟩] 56)).cell? ⟨gx, 0, none⟩ = some (.slice A en.length c) := by rw [hX4.cell]; rfl
  have n3 : some gx ≠ (Value.slice A en.length c).ownBlock := fun e => own_ne hE4 hX4 (by decide) e.symm
  have n4 : some gr ≠ (Value.slice A en.length c).ownBlock := fun e => own_ne hE4 hG4 (by decide) e.symm
  obtain ⟨Ar4, cr4, hRb4, _⟩ := id h4
  have n5 : some g ≠ (Value.slice A en.length c).ownBlock := fun e => own_ne hE4 hRb4 (by decide) e.symm
  have hO4 : Other _ B (Value.slice A en.length c).ownBlock := Other.own hE4 (by decide) (Nat.le_refl _)
  have y4 : (w3.alloc (.cells #[.string ⟨nm.toArray⟩, .bool (dd == [1]), .string ⟨ii.toArray⟩] 56)).cell? ⟨gr, 0, none⟩ = some (.pointer (some ⟨g, 0, none⟩)) := by rw [hG4.cell]; rfl
  refine wpAnyH_ready (rs := [10]) (by kernel_rfl) (by simp) (AllReadyH.cons (o := _) rfl (fun K hK => ?_) AllReadyH.nil)
  go_simp
  refine hK.out _ _ ⟨z4, y4⟩ (fun hHeld => ?_)
  clear hK K
  try simp only [Act.put, List.setIfInBounds_toArray, List.set_cons_zero, List.set_cons_succ]
  refine wpAnyH_ready (rs := [11]) (by kernel_rfl) (by simp) (AllReadyH.cons (o := _) rfl (fun K hK => ?_) AllReadyH.nil)
  refine appNr rfl (.tmp 3) (.tmp 12) 40 56 _ 3 40 rfl Try.underlying40 info_ent rfl (by decide) B _ en.length (ec en) rfl hE4 _ _ 1 1 _ rfl hr4 h14 (by unfold maxLen; omega) (by omega) hBw4 ?_
  intro A5 c5 w5 hE5 hb5 hg5 _ _
  have hX5 := hX4.grown hg5 n3
  have hG5 := hG4.grown hg5 n4
  have z5 : w5.cell? ⟨gx, 0, none⟩ = some (.slice A en.length c) := by rw [hX5.cell]; rfl
  have y5 : w5.cell? ⟨gr, 0, none⟩ = some (.pointer (some ⟨g, 0, none⟩)) := by rw [hG5.cell]; rfl
  refine hK.out _ _ ⟨z5, y5⟩ (fun hHeld => ?_)
  clear hK K
  try simp only [Act.put, List.setIfInBounds_toArray]
  refine wpAnyH_take (i := 12) (oi := _) (v := .pointer (some ⟨gx, 0, none⟩)) rfl (by kernel_rfl) (by kernel_rfl) (by kernel_rfl) (fun _ _ _ h => h) (Or.inl ⟨by rfl, fun w' hS => ?_⟩) hHeld ?_
  · obtain ⟨s0, s1⟩ := hS
    go_simp
  try simp only [Act.put]
  refine wpAnyH_take (i := 13) (oi := _) (v := undef) rfl (by kernel_rfl) (by kernel_rfl) (by kernel_rfl) (fun _ _ _ h => h) (Or.inl ⟨by rfl, fun w' hS => ?_⟩) hHeld ?_
  · obtain ⟨s0, s1⟩ := hS
    go_simp
  try simp only [Act.put]
  refine wpAnyH_done (by kernel_rfl) ?_ _
  have f5 := hX5.free 0
  simp only [lastQ]
  go_simp
  have h5 := h4.keep hg5 n5 hO4
  have hX6 := hX5.set 0 (.slice A5 (en.length + 1) c5)
  have hgx : w5.grownBy (w5.setCell ⟨gx, 0, none⟩ (.slice A5 (en.length + 1) c5)) (some gx) := grown_setCell (World.grownBy.refl w5 _) 0 _
  have h6 := h5.keep hgx n1.symm (Other.blk hX5 (by decide) hBx)
  have hE6 := own_other hE5 hX5 (by decide) hgx
  have hG6 := hG5.grown hgx (blk_apart hG5 hX5 (by decide))
  have hbe : Below B w (w5.setCell ⟨gx, 0, none⟩ (.slice A5 (en.length + 1) c5)) := ((Below.refl B w).drew).trans
    ((((below_of_grown g1 hBg hBw : Below B w.drew w1).trans (below_of_grown g2 hBg (by omega))).trans (below_of_grown g3 hBg (by omega))).trans (((hb4.mono (by omega)).trans hb5).trans (below_of_grown hgx hBx (Nat.le_trans hBw4 hg5.size))))
  have hBw6 := hbe.size
  have e1 : en.length + 1 = (en ++ [(⟨⟨nm.toArray⟩, decide (dd = [1]), ⟨ii.toArray⟩⟩ : Ent)]).length := by simp
  have HT := Lib.hid (took_ent t1.out t2.out t3.out)
  have hec : ec en ++ [Value.string ⟨nm.toArray⟩, .bool (dd == [1]), .string ⟨ii.toArray⟩] = ec (en ++ [(⟨⟨nm.toArray⟩, decide (dd = [1]), ⟨ii.toArray⟩⟩ : Ent)]) := by
    rw [ec_append]
    have hdd : (dd == [1]) = decide (dd = [1]) := by by_cases h : dd = [1] <;> simp [h]
    rw [hdd]
    rfl
  rw [hec] at hE6
  obtain ⟨w6, hw6⟩ : ∃ w6, w6 = w5.setCell ⟨gx, 0, none⟩ (.slice A5 (en.length + 1) c5) := ⟨_, rfl⟩
  rw [← hw6] at hX6 hE6 hG6 h6 hbe hBw6 ⊢
  rw [e1] at hX6 hE6
  go_end0
  exact ⟨_, l3, b3, rfl, ⟨A5, c5, hX6, hE6, hG6, h6, hBx, hBr, Nat.le_trans hBw hBw6⟩, HT, hbe, by omega⟩


/-- A reader that is captured, and the commit that is being read. -/
def ComSt (w : World) (B gx gr g : Nat) (tr wh : ByteArray) (st : Int) (te : ByteArray) (pa : List ByteArray) (l : List UInt8) (b : Bool) : Prop :=
  ∃ (A : Option Addr) (c : Nat), Blk w gx 100 [.string tr, .slice A pa.length c, .string wh, .int .i64 st, .string te] ∧ w.ownsRow B 9 1 (.slice A pa.length c) pa.length (pc pa) ∧ Blk w gr 72 [.pointer (some ⟨g, 0, none⟩)] ∧ Rs w B g l b ∧ B ≤ gx ∧ B ≤ gr ∧ B ≤ w.heap.size
theorem ComSt.calm {w w' : World} {B gx gr g : Nat} {tr wh : ByteArray} {st : Int} {te : ByteArray} {pa : List ByteArray} {l l' : List UInt8} {b b' : Bool} (h : ComSt w B gx gr g tr wh st te pa l b) (hR : Rs w' B g l' b') (hg : w.grownBy w' (some g)) : ComSt w' B gx gr g tr wh st te pa l' b' := by
  obtain ⟨A, c, h1, h2, h3, h4, h5, h6, h7⟩ := h
  obtain ⟨Ar, cr, h8, _⟩ := h4
  exact ⟨A, c, h1.grown hg (blk_apart h1 h8 (by decide)), own_other h2 h8 (by decide) hg, h3.grown hg (blk_apart h3 h8 (by decide)), hR, h5, h6, Nat.le_trans h7 hg.size⟩
def RetParent (B gx gr g : Nat) (tr wh : ByteArray) (st : Int) (te : ByteArray) (pa : List ByteArray) (l : List UInt8) (b : Bool) (w : World) (e : Ending) (w' : World) : Prop :=
  ∃ (v : ByteArray) (l' : List UInt8) (b' : Bool), e = .returned (.tuple #[]) ∧ ComSt w' B gx gr g tr wh st te (pa ++ [v]) l' b' ∧ Hid (Took (takePar l) b v l' b') ∧ Below B w w' ∧ l'.length ≤ l.length ∧ v.size ≤ 32

theorem took_par {l l' : List UInt8} {b b' : Bool} {v : List UInt8} (h : Took (takeB 32 l) b v l' b') : Took (takePar l) b (⟨v.toArray⟩ : ByteArray) l' b' := by
  rcases h with ⟨e, h⟩ | ⟨e, e0, h⟩
  · refine .inl ⟨e, ?_⟩
    rcases h with h | h
    · exact .inl h
    · exact .inr (by unfold takePar; rw [h])
  · exact .inr ⟨e, e0, by unfold takePar; rw [h]⟩

set_option maxRecDepth 100000 in
set_option maxHeartbeats 4000000 in
theorem parent_calls (B gx gr g : Nat) (tr wh : ByteArray) (st : Int) (te : ByteArray) (pa : List ByteArray) (l : List UInt8) (b : Bool) (w : World) (h : ComSt w B gx gr g tr wh st te pa l b) (hpa : pa.length + 1 ≤ 8000000000000) :
    Calls Try.prog 77 #[.pointer (some ⟨gx, 0, none⟩), .pointer (some ⟨gr, 0, none⟩)] w (RetParent B gx gr g tr wh st te pa l b w) := by
  obtain ⟨A, c, hX, hE, hG, hR, hBx, hBr, hBw⟩ := h
  obtain ⟨_, hBg⟩ := hR.lt
  obtain ⟨Ar, cr, hRb, _⟩ := id hR
  have n1 := blk_apart hX hRb (by decide)
  have n2 := blk_apart hG hRb (by decide)
  have z0 : w.cell? ⟨gx, 1, none⟩ = some (.slice A pa.length c) := by rw [hX.cell]; rfl
  have y0 : w.cell? ⟨gr, 0, none⟩ = some (.pointer (some ⟨g, 0, none⟩)) := by rw [hG.cell]; rfl
  go_enter Try.func77, Try.ntmps77
  go_wp2_with fail
  refine wp_region_last (S := fun w' => w'.cell? ⟨gx, 1, none⟩ = some (.slice A pa.length c) ∧ w'.cell? ⟨gr, 0, none⟩ = some (.pointer (some ⟨g, 0, none⟩))) 7 _ (by kernel_rfl) rfl (by kernel_rfl) rfl rfl ⟨z0, y0⟩ (fun hHeld => ?_)
  simp only [List.setIfInBounds_toArray, List.set_cons_zero, List.set_cons_succ, idle, List.getElem_toArray, List.getElem_cons_succ, List.getElem_cons_zero]
  refine wpAnyH_take (i := 0) (oi := _) (v := .pointer (some ⟨gx, 1, none⟩)) rfl (by kernel_rfl) (by kernel_rfl) (by kernel_rfl) (fun _ _ _ h => h) (Or.inl ⟨by rfl, fun w' hS => ?_⟩) hHeld ?_
  · obtain ⟨s0, s1⟩ := hS
    go_simp
  try simp only [Act.put, List.setIfInBounds_toArray]
  refine wpAnyH_take (i := 1) (oi := _) (v := .slice A pa.length c) rfl (by kernel_rfl) (by kernel_rfl) (by kernel_rfl) (fun _ _ _ h => h) (Or.inl ⟨by rfl, fun w' hS => ?_⟩) hHeld ?_
  · obtain ⟨s0, s1⟩ := hS
    go_simp
  try simp only [Act.put]
  refine wpAnyH_take (i := 2) (oi := _) (v := .pointer (some ⟨g, 0, none⟩)) rfl (by kernel_rfl) (by kernel_rfl) (by kernel_rfl) (fun _ _ _ h => h) (Or.inl ⟨by rfl, fun w' hS => ?_⟩) hHeld ?_
  · obtain ⟨s0, s1⟩ := hS
    go_simp
  try simp only [Act.put]
  refine wpAnyH_ready (rs := [3]) (by kernel_rfl) (by simp) (AllReadyH.cons (o := _) rfl (fun K hK => ?_) AllReadyH.nil)
  go_simp
  refine (rdBytes_calls B g 32 32 rfl l b w.drew hR.drew).mono ?_
  rintro e w1 ⟨ii, l1, b1, rfl, h1, t1, g1, q1, hi32⟩
  have hE1 := own_other (w := w.drew) hE hRb.drew (by decide) g1
  have hX1 := hX.drew.grown g1 n1
  have hG1 := hG.drew.grown g1 n2
  have z1 : w1.cell? ⟨gx, 1, none⟩ = some (.slice A pa.length c) := by rw [hX1.cell]; rfl
  have y1 : w1.cell? ⟨gr, 0, none⟩ = some (.pointer (some ⟨g, 0, none⟩)) := by rw [hG1.cell]; rfl
  unfold mkS
  refine hK.out _ _ ⟨z1, y1⟩ (fun hHeld => ?_)
  clear hK K
  try simp only [Act.put, List.setIfInBounds_toArray, List.set_cons_zero, List.set_cons_succ]
  have hE4 := hE1.alloc (.cells #[.string ⟨ii.toArray⟩] 9)
  have hr4 := Rd.new1 w1 9 (.string ⟨ii.toArray⟩)
  have h14 : ∀ u ∈ [Value.string ⟨ii.toArray⟩], u.oneCell' = true := by
    intro u hu
    obtain rfl := List.mem_singleton.1 hu
    rfl
  have s1 : w.heap.size ≤ w1.heap.size := g1.size
  have hb4 : Below w1.heap.size w1 (w1.alloc (.cells #[.string ⟨ii.toArray⟩] 9)) := (Below.refl _ _).alloc (Nat.le_refl _) _
  have hBw4 : B ≤ (w1.alloc (.cells #[.string ⟨ii.toArray⟩] 9)).heap.size := Nat.le_trans (by omega) hb4.size
  have h4 := h1.below hb4
  have hX4 := hX1.alloc (.cells #[.string ⟨ii.toArray⟩] 9)
  have hG4 := hG1.alloc (.cells #[.string ⟨ii.toArray⟩] 9)
  have z4 : (w1.alloc (.cells #[.string ⟨ii.toArray⟩] 9)).cell? ⟨gx, 1, none⟩ = some (.slice A pa.length c) := by rw [hX4.cell]; rfl
  have n3 : some gx ≠ (Value.slice A pa.length c).ownBlock := fun e => own_ne hE4 hX4 (by decide) e.symm
  have n4 : some gr ≠ (Value.slice A pa.length c).ownBlock := fun e => own_ne hE4 hG4 (by decide) e.symm
  obtain ⟨Ar4, cr4, hRb4, _⟩ := id h4
  have n5 : some g ≠ (Value.slice A pa.length c).ownBlock := fun e => own_ne hE4 hRb4 (by decide) e.symm
  have hO4 : Other _ B (Value.slice A pa.length c).ownBlock := Other.own hE4 (by decide) (Nat.le_refl _)
  have y4 : (w1.alloc (.cells #[.string ⟨ii.toArray⟩] 9)).cell? ⟨gr, 0, none⟩ = some (.pointer (some ⟨g, 0, none⟩)) := by rw [hG4.cell]; rfl
  refine wpAnyH_ready (rs := [4]) (by kernel_rfl) (by simp) (AllReadyH.cons (o := _) rfl (fun K hK => ?_) AllReadyH.nil)
  go_simp
  refine hK.out _ _ ⟨z4, y4⟩ (fun hHeld => ?_)
  clear hK K
  try simp only [Act.put, List.setIfInBounds_toArray, List.set_cons_zero, List.set_cons_succ]
  refine wpAnyH_ready (rs := [5]) (by kernel_rfl) (by simp) (AllReadyH.cons (o := _) rfl (fun K hK => ?_) AllReadyH.nil)
  refine appNr rfl (.tmp 3) (.tmp 6) 41 9 _ 1 16 rfl Try.underlying41 info_st rfl (by decide) B _ pa.length (pc pa) rfl hE4 _ _ 1 1 _ rfl hr4 h14 (by unfold maxLen; omega) (by omega) hBw4 ?_
  intro A5 c5 w5 hE5 hb5 hg5 _ _
  have hX5 := hX4.grown hg5 n3
  have hG5 := hG4.grown hg5 n4
  have z5 : w5.cell? ⟨gx, 1, none⟩ = some (.slice A pa.length c) := by rw [hX5.cell]; rfl
  have y5 : w5.cell? ⟨gr, 0, none⟩ = some (.pointer (some ⟨g, 0, none⟩)) := by rw [hG5.cell]; rfl
  refine hK.out _ _ ⟨z5, y5⟩ (fun hHeld => ?_)
  clear hK K
  try simp only [Act.put, List.setIfInBounds_toArray]
  refine wpAnyH_take (i := 6) (oi := _) (v := .pointer (some ⟨gx, 1, none⟩)) rfl (by kernel_rfl) (by kernel_rfl) (by kernel_rfl) (fun _ _ _ h => h) (Or.inl ⟨by rfl, fun w' hS => ?_⟩) hHeld ?_
  · obtain ⟨s0, s1⟩ := hS
    go_simp
  try simp only [Act.put]
  refine wpAnyH_take (i := 7) (oi := _) (v := undef) rfl (by kernel_rfl) (by kernel_rfl) (by kernel_rfl) (fun _ _ _ h => h) (Or.inl ⟨by rfl, fun w' hS => ?_⟩) hHeld ?_
  · obtain ⟨s0, s1⟩ := hS
    go_simp
  try simp only [Act.put]
  refine wpAnyH_done (by kernel_rfl) ?_ _
  have f5 := hX5.free 1
  simp only [lastQ]
  go_simp
  have h5 := h4.keep hg5 n5 hO4
  have hX6 := hX5.set 1 (.slice A5 (pa.length + 1) c5)
  have hgx : w5.grownBy (w5.setCell ⟨gx, 1, none⟩ (.slice A5 (pa.length + 1) c5)) (some gx) := grown_setCell (World.grownBy.refl w5 _) 1 _
  have h6 := h5.keep hgx n1.symm (Other.blk hX5 (by decide) hBx)
  have hE6 := own_other hE5 hX5 (by decide) hgx
  have hG6 := hG5.grown hgx (blk_apart hG5 hX5 (by decide))
  have hbe : Below B w (w5.setCell ⟨gx, 1, none⟩ (.slice A5 (pa.length + 1) c5)) := ((Below.refl B w).drew).trans
    ((below_of_grown g1 hBg hBw : Below B w.drew w1).trans (((hb4.mono (by omega)).trans hb5).trans (below_of_grown hgx hBx (Nat.le_trans hBw4 hg5.size))))
  have hBw6 := hbe.size
  have e1 : pa.length + 1 = (pa ++ [(⟨ii.toArray⟩ : ByteArray)]).length := by simp
  have HT := Lib.hid (took_par t1.out)
  have hec : pc pa ++ [Value.string ⟨ii.toArray⟩] = pc (pa ++ [(⟨ii.toArray⟩ : ByteArray)]) := by
    rw [pc_app]
    rfl
  rw [hec] at hE6
  obtain ⟨w6, hw6⟩ : ∃ w6, w6 = w5.setCell ⟨gx, 1, none⟩ (.slice A5 (pa.length + 1) c5) := ⟨_, rfl⟩
  rw [← hw6] at hX6 hE6 hG6 h6 hbe hBw6 ⊢
  rw [e1] at hX6 hE6
  go_end0
  exact ⟨_, l1, b1, rfl, ⟨A5, c5, hX6, hE6, hG6, h6, hBx, hBr, Nat.le_trans hBw hBw6⟩, HT, hbe, q1, hi32⟩

theorem takeEnt_less {l r : List UInt8} {e : Ent} (h : takeEnt l = some (e, r)) : r.length + 33 ≤ l.length := by
  unfold takeEnt at h
  split at h
  · cases h
  · rename_i nm r1 h1
    split at h
    · cases h
    · rename_i d r2 h2
      split at h
      · cases h
      · rename_i i r3 h3
        injection h with h
        injection h with _ h
        subst h
        have a1 := (takeT_less h1).1
        have a2 := (takeB_less h2).2
        have a3 := (takeB_less h3).2
        omega
theorem takePar_less {l r : List UInt8} {e : ByteArray} (h : takePar l = some (e, r)) : r.length + 32 ≤ l.length := by
  unfold takePar at h
  split at h
  · cases h
  · rename_i p r1 h1
    injection h with h
    injection h with _ h
    subst h
    have a1 := (takeB_less h1).2
    omega
def TreeMany (B gx gr g N : Nat) (l0 : List UInt8) (b0 : Bool) (L : Nat) (w : World) (i : Value) (wr : World) : Prop :=
  ∃ (n : Nat) (v : List Ent) (l : List UInt8) (b : Bool), i = .int .i64 n ∧ TreeSt wr B gx gr g v l b ∧ Hid (Sofar takeEnt N l0 b0 v n l b) ∧ Below B w wr ∧ n ≤ 4611686018427387903 ∧ v.length ≤ L + 1 ∧ (b = false → v.length * 32 + l.length ≤ L) ∧ Hid (∀ p ∈ v, True)
def ComMany (B gx gr g : Nat) (tr wh : ByteArray) (st : Int) (te : ByteArray) (N : Nat) (l0 : List UInt8) (b0 : Bool) (L : Nat) (w : World) (i : Value) (wr : World) : Prop :=
  ∃ (n : Nat) (v : List ByteArray) (l : List UInt8) (b : Bool), i = .int .i64 n ∧ ComSt wr B gx gr g tr wh st te v l b ∧ Hid (Sofar takePar N l0 b0 v n l b) ∧ Below B w wr ∧ n ≤ 4611686018427387903 ∧ v.length ≤ L + 1 ∧ (b = false → v.length * 32 + l.length ≤ L) ∧ Hid (∀ p ∈ v, p.size ≤ 32)

set_option maxRecDepth 100000 in
set_option maxHeartbeats 4000000 in
theorem manyTree_calls (B gx gr g : Nat) (l : List UInt8) (b : Bool) (w : World) (h : TreeSt w B gx gr g [] l b) (hl : l.length ≤ 140737488351232) :
    Calls Try.prog 74 #[.pointer (some ⟨g, 0, none⟩), .func (.func 75) #[] #[.pointer (some ⟨gx, 0, none⟩), .pointer (some ⟨gr, 0, none⟩)]] w fun e w' =>
      ∃ (v : List Ent) (l' : List UInt8) (b' : Bool), e = .returned (.tuple #[]) ∧ TreeSt w' B gx gr g v l' b' ∧ Hid (Took (manyT takeEnt l) b v l' b') ∧ Below B w w' ∧ v.length ≤ l.length + 1 ∧ Hid (∀ p ∈ v, True) := by
  obtain ⟨A, c, hX, hE, hG, hR, hBx, hBr, hBw⟩ := id h
  obtain ⟨_, hBg⟩ := hR.lt
  go_enter Try.func74, Try.ntmps74
  go_wp2_with fail
  refine (rdNum_calls B g l b w hR).mono ?_
  rintro e w1 ⟨N, l1, b1, rfl, h1, t1, g1, q1, hN⟩
  unfold mkN
  have hs1 := h.calm h1 g1
  have hb1 : Below B w w1 := below_of_grown g1 hBg hBw
  clear h hX hE hG hR h1 g1
  go_wp2_with fail
  go_loopw [4] (fun i wr => TreeMany B gx gr g N l1 b1 l.length w i wr) (fun i _ => (intOf i).toNat)
  case atStart => exact ⟨N, [], l1, b1, rfl, hs1, Lib.hid (Sofar.start _ _ _ _), hb1, hN, by simp, fun _ => by simp; omega, Lib.hid (by simp)⟩
  case round =>
    clear hs1 hb1
    obtain ⟨n, v, l2, b2, rfl, hs, hT, hb, hn, hv1, hv2, hv3⟩ := hrel
    obtain ⟨A2, c2, hX2, hE2, hG2, hR2, _, _, hBw2⟩ := id hs
    obtain ⟨Ar, cr, hRb, _⟩ := id hR2
    have z1 : wr.cell? ⟨g, 1, none⟩ = some (.int .i64 (errB b2)) := by rw [hRb.cell]; rfl
    clear hX2 hE2 hG2 hR2 hRb
    by_cases h0 : 0 < n
    · have d0 : decide ((n : Int) > 0) = true := decide_eq_true (by omega)
      have d0' : decide ((0 : Int) < (n : Int)) = true := decide_eq_true (by omega)
      cases b2 with
      | true =>
        have z2 : wr.cell? ⟨g, 1, none⟩ = some (.int .i64 2) := z1
        clear z1
        go_wp2_with fail
        go_end0
        exact ⟨v, l2, true, rfl, hs, Lib.hid (took_many t1.out (hT.out.done (.inr rfl))), hb, hv1, hv3⟩
      | false =>
        have z2 : wr.cell? ⟨g, 1, none⟩ = some (.int .i64 0) := z1
        clear z1
        have f1 : IntKind.i64.wrap ((n : Int) - 1) = (n : Int) - 1 := IntWalk.i64_in _ (by omega)
        have hv2' := hv2 rfl
        go_wp2_with ((go_at_call 75; refine (entry_calls B gx gr g v l2 false _ hs (by omega)).mono ?_; rintro e w3 ⟨x, l3, b3, rfl, hs3, t3, hb3, q3⟩))
        have hm : n = (n - 1) + 1 := by omega
        have hT2 := hT.out
        rw [hm] at hT2
        refine ⟨⟨n - 1, v ++ [x], l3, b3, by go_num, hs3, Lib.hid (hT2.step t3.out), hb.trans hb3, by omega, by simp; omega, fun hb0 => ?_, Lib.hid ?_⟩, by simp [intOf]; omega⟩
        · have h3 := takeEnt_less (t3.out.good hb0).2
          simp only [List.length_append, List.length_singleton]
          omega
        · intro p hp
          rcases List.mem_append.1 hp with hp | hp
          · exact hv3.out p hp
          · obtain rfl := List.mem_singleton.1 hp
            trivial
    · have d0 : decide ((n : Int) > 0) = false := decide_eq_false (by omega)
      have d0' : decide ((0 : Int) < (n : Int)) = false := decide_eq_false (by omega)
      go_wp2_with fail
      go_end0
      exact ⟨v, l2, b2, rfl, hs, Lib.hid (took_many t1.out (hT.out.done (.inl (by omega)))), hb, hv1, hv3⟩

set_option maxRecDepth 100000 in
set_option maxHeartbeats 4000000 in
theorem manyCom_calls (B gx gr g : Nat) (tr wh : ByteArray) (st : Int) (te : ByteArray) (l : List UInt8) (b : Bool) (w : World) (h : ComSt w B gx gr g tr wh st te [] l b) (hl : l.length ≤ 140737488351232) :
    Calls Try.prog 74 #[.pointer (some ⟨g, 0, none⟩), .func (.func 77) #[] #[.pointer (some ⟨gx, 0, none⟩), .pointer (some ⟨gr, 0, none⟩)]] w fun e w' =>
      ∃ (v : List ByteArray) (l' : List UInt8) (b' : Bool), e = .returned (.tuple #[]) ∧ ComSt w' B gx gr g tr wh st te v l' b' ∧ Hid (Took (manyT takePar l) b v l' b') ∧ Below B w w' ∧ v.length ≤ l.length + 1 ∧ Hid (∀ p ∈ v, p.size ≤ 32) := by
  obtain ⟨A, c, hX, hE, hG, hR, hBx, hBr, hBw⟩ := id h
  obtain ⟨_, hBg⟩ := hR.lt
  go_enter Try.func74, Try.ntmps74
  go_wp2_with fail
  refine (rdNum_calls B g l b w hR).mono ?_
  rintro e w1 ⟨N, l1, b1, rfl, h1, t1, g1, q1, hN⟩
  unfold mkN
  have hs1 := h.calm h1 g1
  have hb1 : Below B w w1 := below_of_grown g1 hBg hBw
  clear h hX hE hG hR h1 g1
  go_wp2_with fail
  go_loopw [4] (fun i wr => ComMany B gx gr g tr wh st te N l1 b1 l.length w i wr) (fun i _ => (intOf i).toNat)
  case atStart => exact ⟨N, [], l1, b1, rfl, hs1, Lib.hid (Sofar.start _ _ _ _), hb1, hN, by simp, fun _ => by simp; omega, Lib.hid (by simp)⟩
  case round =>
    clear hs1 hb1
    obtain ⟨n, v, l2, b2, rfl, hs, hT, hb, hn, hv1, hv2, hv3⟩ := hrel
    obtain ⟨A2, c2, hX2, hE2, hG2, hR2, _, _, hBw2⟩ := id hs
    obtain ⟨Ar, cr, hRb, _⟩ := id hR2
    have z1 : wr.cell? ⟨g, 1, none⟩ = some (.int .i64 (errB b2)) := by rw [hRb.cell]; rfl
    clear hX2 hE2 hG2 hR2 hRb
    by_cases h0 : 0 < n
    · have d0 : decide ((n : Int) > 0) = true := decide_eq_true (by omega)
      have d0' : decide ((0 : Int) < (n : Int)) = true := decide_eq_true (by omega)
      cases b2 with
      | true =>
        have z2 : wr.cell? ⟨g, 1, none⟩ = some (.int .i64 2) := z1
        clear z1
        go_wp2_with fail
        go_end0
        exact ⟨v, l2, true, rfl, hs, Lib.hid (took_many t1.out (hT.out.done (.inr rfl))), hb, hv1, hv3⟩
      | false =>
        have z2 : wr.cell? ⟨g, 1, none⟩ = some (.int .i64 0) := z1
        clear z1
        have f1 : IntKind.i64.wrap ((n : Int) - 1) = (n : Int) - 1 := IntWalk.i64_in _ (by omega)
        have hv2' := hv2 rfl
        go_wp2_with ((go_at_call 77; refine (parent_calls B gx gr g tr wh st te v l2 false _ hs (by omega)).mono ?_; rintro e w3 ⟨x, l3, b3, rfl, hs3, t3, hb3, q3, q4⟩))
        have hm : n = (n - 1) + 1 := by omega
        have hT2 := hT.out
        rw [hm] at hT2
        refine ⟨⟨n - 1, v ++ [x], l3, b3, by go_num, hs3, Lib.hid (hT2.step t3.out), hb.trans hb3, by omega, by simp; omega, fun hb0 => ?_, Lib.hid ?_⟩, by simp [intOf]; omega⟩
        · have h3 := takePar_less (t3.out.good hb0).2
          simp only [List.length_append, List.length_singleton]
          omega
        · intro p hp
          rcases List.mem_append.1 hp with hp | hp
          · exact hv3.out p hp
          · obtain rfl := List.mem_singleton.1 hp
            exact q4
    · have d0 : decide ((n : Int) > 0) = false := decide_eq_false (by omega)
      have d0' : decide ((0 : Int) < (n : Int)) = false := decide_eq_false (by omega)
      go_wp2_with fail
      go_end0
      exact ⟨v, l2, b2, rfl, hs, Lib.hid (took_many t1.out (hT.out.done (.inl (by omega)))), hb, hv1, hv3⟩

end Go.Proofs.Ytcefbhmmijmefaa
