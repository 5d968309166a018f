/- The walks of the layer 'object', its sixteenth part: the body of a kind. Conditions: lengths below 2^47. -/
import Derived.Test.YtcefbhmmijmefaaObj15
namespace Go.Dol
open Go.RowKit
/-- What reads, in memory that the call made. -/
def RdN (w : World) (base size : Nat) (A : Option Addr) (n : Nat) (xs : List Value) : Prop := Rd w w.heap.size size A n xs ∧ (0 < n → ∀ k, segBlock A = some k → base ≤ k)
theorem RdN.own {w : World} {base size : Nat} {e : TypeId} {A : Option Addr} {n c : Nat} {xs : List Value} (h : w.ownsRow base e size (.slice A n c) n xs) : RdN w base size A n xs := by
  refine ⟨Rd.of_own h, fun hn k hk => ?_⟩
  rcases h.2 with ⟨h1, _⟩ | ⟨g, cap, cur, h1, h2, _⟩
  · injection h1 with _ h1
    omega
  · injection h1 with hA _ _
    rw [hA] at hk
    injection hk with hk
    have e2 : g = k := hk
    omega
theorem RdN.nil {w : World} {base size : Nat} {A : Option Addr} : RdN w base size A 0 [] := ⟨Rd.nil, fun h => absurd h (by decide)⟩
theorem RdN.below {w w' : World} {base size : Nat} {A : Option Addr} {n : Nat} {xs : List Value} (h : RdN w base size A n xs) (hb : Below w.heap.size w w') : RdN w' base size A n xs := ⟨(h.1.below hb).more hb.size, h.2⟩
theorem RdN.lower {w : World} {base base' size : Nat} {A : Option Addr} {n : Nat} {xs : List Value} (h : RdN w base size A n xs) (hb : base' ≤ base) : RdN w base' size A n xs := ⟨h.1, fun hn k hk => Nat.le_trans hb (h.2 hn k hk)⟩
/-- A write below. -/
theorem RdN.apart {w w' : World} {base size k : Nat} {A : Option Addr} {n : Nat} {xs : List Value} (h : RdN w base size A n xs) (hg : w.grownBy w' (some k)) (hk : k < base) : RdN w' base size A n xs := by
  refine ⟨⟨h.1.len, fun hn => ?_⟩, h.2⟩
  obtain ⟨b, off, e, hb, hc⟩ := h.1.at_ hn
  have h2 := h.2 hn b (by rw [e]; rfl)
  exact ⟨b, off, e, Nat.lt_of_lt_of_le hb hg.size, fun j u hu => (World.cell?_of_block (hg.block b hb (fun e2 => by injection e2 with e2; omega))).trans (hc j u hu)⟩
end Go.Dol
namespace Go.Proofs.Ytcefbhmmijmefaa
open Go.RowKit Go.Dol
set_option linter.unusedVariables false

theorem mkf (fn : Fn) (first cap : Array Value) (w : World) : (Instr.makeFunc fn first cap).run Try.prog w = .ok (.func fn first cap) w := rfl
theorem conv_sb (v : List UInt8) (w : World) (hl : v.length ≤ 140737488355328) : ∃ A c w', (convert 9 22 (.string ⟨v.toArray⟩)).run Try.prog w = .ok (.slice A v.length c) w' ∧ RdN w' w.heap.size 1 A v.length (bc v) ∧ Below w.heap.size w w' ∧ v.length ≤ c ∧ c ≤ maxLen := by
  have hs : (⟨v.toArray⟩ : ByteArray).size = v.length := by simp [ByteArray.size]
  obtain ⟨A, c, w', h1, h2, h3, h4, h5⟩ := run_conv_sb (P := Try.prog) w 9 22 5 ⟨v.toArray⟩ Try.underlying9 Try.underlying22 Try.underlying5 (by rw [hs]; exact hl)
  rw [hs] at h1 h2 h4
  refine ⟨A, c, w', h1, ⟨h2, fun hn k hk => ?_⟩, h3, h4, h5⟩
  have h6 := run_bytes_of_string (P := Try.prog) w 9 22 5 ⟨v.toArray⟩ Try.underlying9 Try.underlying22 Try.underlying5
  rw [h1] at h6
  injection h6 with h6 _
  injection h6 with h6 _ _
  rw [h6] at hk
  injection hk with hk
  have e2 : w.heap.size = k := hk
  omega

/-- What 'body' hands back: a body of values mk o, the reader as it is, and what was read. -/
def RetBody (p : Option Go.Dol.Obj) (B g : Nat) (w : World) (mk : Go.Dol.Obj → Value → Value → Value → Value) (nm : Go.Dol.Obj → Go.Dol.Obj) (e : Ending) (w' : World) : Prop :=
  ∃ (o : Go.Dol.Obj) (Ad : Option Addr) (cd : Nat) (Ae : Option Addr) (ce : Nat) (Ap : Option Addr) (cp : Nat) (l' : List UInt8) (b' : Bool), e = .returned (mk o (.slice Ad o.data.length cd) (.slice Ae o.ents.length ce) (.slice Ap o.pars.length cp)) ∧
    RdN w' B 1 Ad o.data.length (bc o.data) ∧ RdN w' B 3 Ae o.ents.length (ec o.ents) ∧ RdN w' B 1 Ap o.pars.length (pc o.pars) ∧ Rs w' B g l' b' ∧ Hid (Parsed p o b' ∧ o = nm o) ∧ Below B w w' ∧ o.ents.length ≤ 140737488351233 ∧ o.pars.length ≤ 140737488351233 ∧ Hid (∀ q ∈ o.pars, q.size ≤ maxLen)
theorem below_weak {w w' : World} {B : Nat} (h : Below w.heap.size w w') (hB : B ≤ w.heap.size) : Below B w w' := h.mono hB

set_option maxRecDepth 100000 in
set_option maxHeartbeats 4000000 in
theorem body1_calls (B g : Nat) (l : List UInt8) (w : World) (h : Rs w B g l false) (hBw : B ≤ w.heap.size) (hl : l.length ≤ 140737488351232) :
    Calls Try.prog 60 #[.pointer (some ⟨g, 0, none⟩), .int .i64 1] w (RetBody (parseK 1 l) B g w (fun o vd ve vp => .iface 94 (.agg #[vd])) fun o => { Obj.zero with kind := 1, data := o.data }) := by
  obtain ⟨hgl, hBg⟩ := h.lt
  have hb0 : Below w.heap.size w (w.alloc (.cells #[.pointer (some ⟨g, 0, none⟩)] 72)) := (Below.refl _ _).alloc (Nat.le_refl _) _
  have h0 := h.below hb0
  obtain ⟨A, c, hRb, hF, hc, hcm, _⟩ := id h
  have hG := Blk.new w 72 [.pointer (some ⟨g, 0, none⟩)]
  have n2 := blk_apart hG (hRb.below hb0 hRb.lt) (by decide)
  have y0 : (w.alloc (.cells #[.pointer (some ⟨g, 0, none⟩)] 72)).cell? ⟨w.heap.size, 0, none⟩ = some (.pointer (some ⟨g, 0, none⟩)) := by rw [hG.cell]; rfl
  have r0 : w.cell? ⟨g, 0, none⟩ = some (.slice A l.length c) := by rw [hRb.cell]; rfl
  go_enter Try.func60, Try.ntmps60
  go_wp2_with fail
  refine wp_region_held_drew (S := fun w' => w'.cell? ⟨w.heap.size, 0, none⟩ = some (.pointer (some ⟨g, 0, none⟩))) (by kernel_rfl) y0 (fun hHeld => ?_)
  refine wpAnyH_take (i := 0) (oi := _) (v := .pointer (some ⟨g, 0, none⟩)) rfl (by kernel_rfl) (by kernel_rfl) (by kernel_rfl) (fun _ _ _ h => h) (Or.inl ⟨by rfl, fun w' hS => ?_⟩) hHeld ?_
  · obtain s0 := hS
    go_simp
  try simp only [Act.put, List.setIfInBounds_toArray]
  refine wpAnyH_take (i := 1) (oi := _) (v := .pointer (some ⟨g, 0, none⟩)) rfl (by kernel_rfl) (by kernel_rfl) (by kernel_rfl) (fun _ _ _ h => h) (Or.inl ⟨by rfl, fun w' hS => ?_⟩) hHeld ?_
  · obtain s0 := hS
    go_simp
  try simp only [Act.put]
  refine wpAnyH_take (i := 2) (oi := _) (v := .pointer (some ⟨g, 0, none⟩)) rfl (by kernel_rfl) (by kernel_rfl) (by kernel_rfl) (fun _ _ _ h => h) (Or.inl ⟨by rfl, fun w' hS => ?_⟩) hHeld ?_
  · obtain s0 := hS
    go_simp
  try simp only [Act.put]
  refine wpAnyH_take (i := 3) (oi := _) (v := .pointer (some ⟨g, 0, none⟩)) rfl (by kernel_rfl) (by kernel_rfl) (by kernel_rfl) (fun _ _ _ h => h) (Or.inl ⟨by rfl, fun w' hS => ?_⟩) hHeld ?_
  · obtain s0 := hS
    go_simp
  try simp only [Act.put]
  refine wpAnyH_ready (rs := [4]) (by kernel_rfl) (by simp) (AllReadyH.cons (o := _) rfl (fun K hK => ?_) AllReadyH.nil)
  go_simp
  refine hK.out _ _ y0 (fun hHeld => ?_)
  clear hK K
  try simp only [Act.put, List.setIfInBounds_toArray, List.set_cons_zero, List.set_cons_succ]
  refine wpAnyH_take (i := 5) (oi := _) (v := .int .i64 l.length) rfl (by kernel_rfl) (by kernel_rfl) (by kernel_rfl) (fun _ _ _ h => h) (Or.inl ⟨by rfl, fun w' hS => ?_⟩) hHeld ?_
  · obtain s0 := hS
    go_simp
  try simp only [Act.put, List.setIfInBounds_toArray]
  refine wpAnyH_ready (rs := [6]) (by kernel_rfl) (by simp) (AllReadyH.cons (o := _) rfl (fun K hK => ?_) AllReadyH.nil)
  go_simp
  refine (rdBytes_calls B g l.length _ rfl l false (w.alloc (.cells #[.pointer (some ⟨g, 0, none⟩)] 72)).drew h0.drew).mono ?_
  rintro e w1 ⟨v, l1, b1, rfl, h1, t1, g1, q1, hv⟩
  have hG1 := hG.drew.grown g1 n2
  have y1 : w1.cell? ⟨w.heap.size, 0, none⟩ = some (.pointer (some ⟨g, 0, none⟩)) := by rw [hG1.cell]; rfl
  unfold mkS
  refine hK.out _ _ y1 (fun hHeld => ?_)
  clear hK K
  try simp only [Act.put, List.setIfInBounds_toArray, List.set_cons_zero, List.set_cons_succ]
  obtain ⟨Ad, cd, w2, hcv, hRd, hb2, _, _⟩ := conv_sb v w1 (by omega)
  have y2 : w2.cell? ⟨w.heap.size, 0, none⟩ = some (.pointer (some ⟨g, 0, none⟩)) := (hb2.cell (p := ⟨w.heap.size, 0, none⟩) hG1.lt).trans y1
  refine wpAnyH_ready (rs := [7]) (by kernel_rfl) (by simp) (AllReadyH.cons (o := _) rfl (fun K hK => ?_) AllReadyH.nil)
  go_simp
  refine hK.out _ _ y2 (fun hHeld => ?_)
  clear hK K
  try simp only [Act.put, List.setIfInBounds_toArray, List.set_cons_zero, List.set_cons_succ]
  refine wpAnyH_take (i := 8) (oi := _) (v := .agg #[.slice Ad v.length cd]) rfl (by kernel_rfl) (by kernel_rfl) (by kernel_rfl) (fun _ _ _ h => h) (Or.inl ⟨by rfl, fun w' hS => ?_⟩) hHeld ?_
  · obtain s0 := hS
    go_simp
  try simp only [Act.put, List.setIfInBounds_toArray]
  refine wpAnyH_take (i := 9) (oi := _) (v := .iface 94 (.agg #[.slice Ad v.length cd])) rfl (by kernel_rfl) (by kernel_rfl) (by kernel_rfl) (fun _ _ _ h => h) (Or.inl ⟨by rfl, fun w' hS => ?_⟩) hHeld ?_
  · obtain s0 := hS
    go_simp
  try simp only [Act.put]
  refine wpAnyH_take (i := 10) (oi := _) (v := .iface 94 (.agg #[.slice Ad v.length cd])) rfl (by kernel_rfl) (by kernel_rfl) (by kernel_rfl) (fun _ _ _ h => h) (Or.inl ⟨by rfl, fun w' hS => ?_⟩) hHeld ?_
  · obtain s0 := hS
    go_simp
  try simp only [Act.put]
  refine wpAnyH_done (by kernel_rfl) ?_ _
  have hT := t1.out
  have htb : takeB l.length l = some (l, []) := by
    unfold takeB
    rw [if_neg (by omega), List.take_length, List.drop_length]
  rw [htb] at hT
  have hP : Hid (Parsed (parseK 1 l) { Obj.zero with kind := 1, data := v } b1) := by
    rcases hT with ⟨_, h | h⟩ | ⟨h1, _, h2⟩
    · cases h
    · cases h
    · injection h2 with h2
      injection h2 with h2 _
      exact .inr ⟨h1, by rw [parseK1, h2]⟩
  have s1 : (w.alloc (.cells #[.pointer (some ⟨g, 0, none⟩)] 72)).heap.size ≤ w1.heap.size := g1.size
  have s0 := hb0.size
  have hbe : Below B w w2 := (hb0.mono hBw).trans ((((Below.refl B (w.alloc (.cells #[.pointer (some ⟨g, 0, none⟩)] 72))).drew).trans (below_of_grown g1 hBg (Nat.le_trans hBw s0) : Below B (w.alloc (.cells #[.pointer (some ⟨g, 0, none⟩)] 72)).drew w1)).trans (hb2.mono (by omega)))
  clear hcv hT htb
  go_wp2_with fail
  go_ret
  exact ⟨{ Obj.zero with kind := 1, data := v }, Ad, cd, none, 0, none, 0, l1, b1, rfl, hRd.lower (by omega), RdN.nil, RdN.nil, h1.below hb2, Lib.hid ⟨hP.out, rfl⟩, hbe, by simp [Obj.zero], by simp [Obj.zero], Lib.hid (by simp [Obj.zero])⟩

set_option maxRecDepth 100000 in
set_option maxHeartbeats 4000000 in
theorem body2_calls (B g : Nat) (l : List UInt8) (w : World) (h : Rs w B g l false) (hBw : B ≤ w.heap.size) (hl : l.length ≤ 140737488351232) :
    Calls Try.prog 60 #[.pointer (some ⟨g, 0, none⟩), .int .i64 2] w (RetBody (parseK 2 l) B g w (fun o vd ve vp => .iface 96 (.agg #[ve])) fun o => { Obj.zero with kind := 2, ents := o.ents }) := by
  obtain ⟨hgl, hBg⟩ := h.lt
  have hb0 : Below w.heap.size w (w.alloc (.cells #[.pointer (some ⟨g, 0, none⟩)] 72)) := (Below.refl _ _).alloc (Nat.le_refl _) _
  have h0 := h.below hb0
  obtain ⟨A, c, hRb, hF, hc, hcm, _⟩ := id h
  have hG := Blk.new w 72 [.pointer (some ⟨g, 0, none⟩)]
  have n2 := blk_apart hG (hRb.below hb0 hRb.lt) (by decide)
  have s0 : (w.alloc (.cells #[.pointer (some ⟨g, 0, none⟩)] 72)).heap.size = w.heap.size + 1 := by simp
  have hmf := mkf
  have hb1 : Below w.heap.size w ((w.alloc (.cells #[.pointer (some ⟨g, 0, none⟩)] 72)).alloc (.cells #[.slice none 0 0] 96)) := hb0.alloc hb0.size _
  have h1 := h.below hb1
  have hG1 := hG.alloc (.cells #[.slice none 0 0] 96)
  have hX1 := Blk.new (w.alloc (.cells #[.pointer (some ⟨g, 0, none⟩)] 72)) 96 [.slice none 0 0]
  rw [s0] at hX1
  have hst : TreeSt ((w.alloc (.cells #[.pointer (some ⟨g, 0, none⟩)] 72)).alloc (.cells #[.slice none 0 0] 96)) B (w.heap.size + 1) w.heap.size g [] l false := ⟨none, 0, hX1, World.ownsRow_nil _ _ _ _, hG1, h1, by omega, hBw, Nat.le_trans hBw hb1.size⟩
  go_enter Try.func60, Try.ntmps60
  go_wp2_with fail
  refine (manyTree_calls B (w.heap.size + 1) w.heap.size g l false _ hst hl).mono ?_
  rintro e w3 ⟨v, l3, b3, rfl, hs3, t3, hb3, hv, _⟩
  obtain ⟨A3, c3, hX3, hE3, hG3, hR3, _, _, _⟩ := id hs3
  have z3 : w3.cell? ⟨w.heap.size + 1, 0, none⟩ = some (.slice A3 v.length c3) := by rw [hX3.cell]; rfl
  have hbe : Below B w w3 := (hb1.mono hBw).trans hb3
  have hP : Hid (Parsed (parseK 2 l) { Obj.zero with kind := 2, ents := v } b3) := Lib.hid (by rw [parseK2]; exact parsed_tree t3.out)
  go_wp2_with fail
  go_ret
  exact ⟨{ Obj.zero with kind := 2, ents := v }, none, 0, A3, c3, none, 0, l3, b3, rfl, RdN.nil, RdN.own hE3, RdN.nil, hR3, Lib.hid ⟨hP.out, rfl⟩, hbe, by show v.length ≤ _; omega, by simp [Obj.zero], Lib.hid (by simp [Obj.zero])⟩

set_option maxRecDepth 100000 in
set_option maxHeartbeats 4000000 in
theorem body3_calls (B g : Nat) (l : List UInt8) (w : World) (h : Rs w B g l false) (hBw : B ≤ w.heap.size) (hl : l.length ≤ 140737488351232) :
    Calls Try.prog 60 #[.pointer (some ⟨g, 0, none⟩), .int .i64 3] w (RetBody (parseK 3 l) B g w (fun o vd ve vp => .iface 100 (.agg #[.string o.tree, vp, .string o.who, .int .i64 o.stamp, .string o.text])) fun o => { Obj.zero with kind := 3, tree := o.tree, pars := o.pars, who := o.who, stamp := o.stamp, text := o.text }) := by
  obtain ⟨hgl, hBg⟩ := h.lt
  have hb0 : Below w.heap.size w (w.alloc (.cells #[.pointer (some ⟨g, 0, none⟩)] 72)) := (Below.refl _ _).alloc (Nat.le_refl _) _
  have h0 := h.below hb0
  obtain ⟨A, c, hRb, hF, hc, hcm, _⟩ := id h
  have hG := Blk.new w 72 [.pointer (some ⟨g, 0, none⟩)]
  have n2 := blk_apart hG (hRb.below hb0 hRb.lt) (by decide)
  have s0 : (w.alloc (.cells #[.pointer (some ⟨g, 0, none⟩)] 72)).heap.size = w.heap.size + 1 := by simp
  have hmf := mkf
  go_enter Try.func60, Try.ntmps60
  go_wp2_with fail
  refine (rdBytes_calls B g 32 32 rfl l false _ h0).mono ?_
  rintro e w1 ⟨t, l1, b1, rfl, h1, t1, g1, q1, _⟩
  have hG1 := hG.grown g1 n2
  have hs1 : w.heap.size + 1 ≤ w1.heap.size := by have := g1.size; omega
  have y1 : w1.cell? ⟨w.heap.size, 0, none⟩ = some (.pointer (some ⟨g, 0, none⟩)) := by rw [hG1.cell]; rfl
  have hn1 : w.heap.size ≠ w1.heap.size := by omega
  have hn2 : ¬ w1.heap.size = w.heap.size := by omega
  have hn3 : w.heap.size < w1.heap.size := by omega
  unfold mkS
  have hb2 : Below w1.heap.size w1 (w1.alloc (.cells #[.string ⟨t.toArray⟩, .slice none 0 0, .string ⟨#[]⟩, .int .i64 0, .string ⟨#[]⟩] 100)) := (Below.refl _ _).alloc (Nat.le_refl _) _
  have hG2 := hG1.alloc (.cells #[.string ⟨t.toArray⟩, .slice none 0 0, .string ⟨#[]⟩, .int .i64 0, .string ⟨#[]⟩] 100)
  have hX2 := Blk.new w1 100 [.string ⟨t.toArray⟩, .slice none 0 0, .string ⟨#[]⟩, .int .i64 0, .string ⟨#[]⟩]
  have hst : ComSt (w1.alloc (.cells #[.string ⟨t.toArray⟩, .slice none 0 0, .string ⟨#[]⟩, .int .i64 0, .string ⟨#[]⟩] 100)) B w1.heap.size w.heap.size g ⟨t.toArray⟩ ⟨#[]⟩ 0 ⟨#[]⟩ [] l1 b1 := ⟨none, 0, hX2, World.ownsRow_nil _ _ _ _, hG2, h1.below hb2, by omega, hBw, Nat.le_trans (by omega) hb2.size⟩
  go_wp2_with fail
  refine (manyCom_calls B w1.heap.size w.heap.size g ⟨t.toArray⟩ ⟨#[]⟩ 0 ⟨#[]⟩ l1 b1 _ hst (by omega)).mono ?_
  rintro e w3 ⟨v, l3, b3, rfl, hs3, t3, hb3, hv, hv3⟩
  obtain ⟨A3, c3, hX3, hE3, hG3, hR3, _, _, hB3⟩ := id hs3
  obtain ⟨Ar, cr, hRb3, _⟩ := id hR3
  have y3 : w3.cell? ⟨w.heap.size, 0, none⟩ = some (.pointer (some ⟨g, 0, none⟩)) := by rw [hG3.cell]; rfl
  go_wp2_with fail
  refine (rdTold_calls B g l3 b3 w3 hR3).mono ?_
  rintro e w4 ⟨v4, l4, b4, rfl, h4, t4, g4⟩
  have n4 := blk_apart hX3 hRb3 (by decide)
  have hX4 := hX3.grown g4 n4
  have hE4 := own_other hE3 hRb3 (by decide) g4
  obtain ⟨k0, k1, k2, k3, k4⟩ := com_cells hX4
  have f2 := hX4.free 2
  have f3 := hX4.free 3
  have f4 := hX4.free 4
  unfold mkT
  go_wp2_with fail
  have hg5 : w4.grownBy (((w4.setCell ⟨w1.heap.size, 2, none⟩ (.string v4.1)).setCell ⟨w1.heap.size, 3, none⟩ (.int .i64 v4.2.1)).setCell ⟨w1.heap.size, 4, none⟩ (.string v4.2.2)) (some w1.heap.size) := grown_setCell (grown_setCell (grown_setCell (World.grownBy.refl w4 _) 2 _) 3 _) 4 _
  have hE5 := own_other hE4 hX4 (by decide) hg5
  have h5 := h4.keep hg5 n4.symm (Other.blk hX4 (by decide) (by omega))
  have s3 := hb3.size
  have hbe : Below B w _ := (((hb0.mono hBw).trans (below_of_grown g1 hBg (by omega))).trans ((hb2.mono (by omega)).trans hb3)).trans ((below_of_grown g4 hBg hB3).trans (below_of_grown hg5 (by omega) (Nat.le_trans hB3 g4.size)))
  have hP : Hid (Parsed (parseK 3 l) { Obj.zero with kind := 3, tree := ⟨t.toArray⟩, pars := v, who := v4.1, stamp := v4.2.1, text := v4.2.2 } b4) := Lib.hid (by rw [parseK3]; exact parsed_commit t1.out t3.out t4.out)
  go_ret
  exact ⟨{ Obj.zero with kind := 3, tree := ⟨t.toArray⟩, pars := v, who := v4.1, stamp := v4.2.1, text := v4.2.2 }, none, 0, none, 0, A3, c3, l4, b4, rfl, RdN.nil, RdN.nil, RdN.own hE5, h5, Lib.hid ⟨hP.out, rfl⟩, hbe, by simp [Obj.zero], by show v.length ≤ _; omega, Lib.hid (fun q hq => by have := hv3.out q hq; unfold maxLen; omega)⟩

set_option maxRecDepth 100000 in
set_option maxHeartbeats 4000000 in
theorem body4_calls (B g : Nat) (l : List UInt8) (w : World) (h : Rs w B g l false) (hBw : B ≤ w.heap.size) (hl : l.length ≤ 140737488351232) :
    Calls Try.prog 60 #[.pointer (some ⟨g, 0, none⟩), .int .i64 4] w (RetBody (parseK 4 l) B g w (fun o vd ve vp => .iface 102 (.agg #[.string o.target, .string o.name, .string o.who, .int .i64 o.stamp, .string o.text])) fun o => { Obj.zero with kind := 4, target := o.target, name := o.name, who := o.who, stamp := o.stamp, text := o.text }) := by
  obtain ⟨hgl, hBg⟩ := h.lt
  have hb0 : Below w.heap.size w (w.alloc (.cells #[.pointer (some ⟨g, 0, none⟩)] 72)) := (Below.refl _ _).alloc (Nat.le_refl _) _
  have h0 := h.below hb0
  obtain ⟨A, c, hRb, hF, hc, hcm, _⟩ := id h
  have hG := Blk.new w 72 [.pointer (some ⟨g, 0, none⟩)]
  have n2 := blk_apart hG (hRb.below hb0 hRb.lt) (by decide)
  have s0 : (w.alloc (.cells #[.pointer (some ⟨g, 0, none⟩)] 72)).heap.size = w.heap.size + 1 := by simp
  have y0 : (w.alloc (.cells #[.pointer (some ⟨g, 0, none⟩)] 72)).cell? ⟨w.heap.size, 0, none⟩ = some (.pointer (some ⟨g, 0, none⟩)) := by rw [hG.cell]; rfl
  go_enter Try.func60, Try.ntmps60
  go_wp2_with fail
  refine wp_region_held_drew (S := fun w' => w'.cell? ⟨w.heap.size, 0, none⟩ = some (.pointer (some ⟨g, 0, none⟩))) (by kernel_rfl) y0 (fun hHeld => ?_)
  refine wpAnyH_take (i := 0) (oi := _) (v := .pointer (some ⟨g, 0, none⟩)) rfl (by kernel_rfl) (by kernel_rfl) (by kernel_rfl) (fun _ _ _ h => h) (Or.inl ⟨by rfl, fun w' hS => ?_⟩) hHeld ?_
  · obtain s0 := hS
    go_simp
  try simp only [Act.put, List.setIfInBounds_toArray]
  refine wpAnyH_take (i := 2) (oi := _) (v := .pointer (some ⟨g, 0, none⟩)) rfl (by kernel_rfl) (by kernel_rfl) (by kernel_rfl) (fun _ _ _ h => h) (Or.inl ⟨by rfl, fun w' hS => ?_⟩) hHeld ?_
  · obtain s0 := hS
    go_simp
  try simp only [Act.put]
  refine wpAnyH_take (i := 4) (oi := _) (v := .pointer (some ⟨g, 0, none⟩)) rfl (by kernel_rfl) (by kernel_rfl) (by kernel_rfl) (fun _ _ _ h => h) (Or.inl ⟨by rfl, fun w' hS => ?_⟩) hHeld ?_
  · obtain s0 := hS
    go_simp
  try simp only [Act.put]
  refine wpAnyH_ready (rs := [1]) (by kernel_rfl) (by simp) (AllReadyH.cons (o := _) rfl (fun K hK => ?_) AllReadyH.nil)
  go_simp
  refine (rdBytes_calls B g 32 32 rfl l false _ h0.drew).mono ?_
  rintro e w1 ⟨t, l1, b1, rfl, h1, t1, g1, q1, _⟩
  have hG1 := hG.drew.grown g1 n2
  have y1 : w1.cell? ⟨w.heap.size, 0, none⟩ = some (.pointer (some ⟨g, 0, none⟩)) := by rw [hG1.cell]; rfl
  unfold mkS
  refine hK.out _ _ y1 (fun hHeld => ?_)
  clear hK K
  try simp only [Act.put, List.setIfInBounds_toArray, List.set_cons_zero, List.set_cons_succ]
  refine wpAnyH_ready (rs := [3]) (by kernel_rfl) (by simp) (AllReadyH.cons (o := _) rfl (fun K hK => ?_) AllReadyH.nil)
  go_simp
  refine (rdText_calls B g l1 b1 w1 h1).mono ?_
  rintro e w2 ⟨nm, l2, b2, rfl, h2, t2, g2, q2, _⟩
  have hG2 := hG1.grown g2 n2
  have y2 : w2.cell? ⟨w.heap.size, 0, none⟩ = some (.pointer (some ⟨g, 0, none⟩)) := by rw [hG2.cell]; rfl
  unfold mkS
  refine hK.out _ _ y2 (fun hHeld => ?_)
  clear hK K
  try simp only [Act.put, List.setIfInBounds_toArray, List.set_cons_zero, List.set_cons_succ]
  refine wpAnyH_ready (rs := [5]) (by kernel_rfl) (by simp) (AllReadyH.cons (o := _) rfl (fun K hK => ?_) AllReadyH.nil)
  go_simp
  refine (rdTold_calls B g l2 b2 w2 h2).mono ?_
  rintro e w3 ⟨v, l3, b3, rfl, h3, t3, g3⟩
  have hG3 := hG2.grown g3 n2
  have y3 : w3.cell? ⟨w.heap.size, 0, none⟩ = some (.pointer (some ⟨g, 0, none⟩)) := by rw [hG3.cell]; rfl
  unfold mkT
  refine hK.out _ _ y3 (fun hHeld => ?_)
  clear hK K
  try simp only [Act.put, List.setIfInBounds_toArray, List.set_cons_zero, List.set_cons_succ]
  refine wpAnyH_take (i := 6) (oi := _) (v := .agg #[.string ⟨t.toArray⟩, .string ⟨nm.toArray⟩, .string v.1, .int .i64 v.2.1, .string v.2.2]) rfl (by kernel_rfl) (by kernel_rfl) (by kernel_rfl) (fun _ _ _ h => h) (Or.inl ⟨by rfl, fun w' hS => ?_⟩) hHeld ?_
  · obtain s0 := hS
    go_simp
  try simp only [Act.put, List.setIfInBounds_toArray]
  refine wpAnyH_take (i := 7) (oi := _) (v := .iface 102 (.agg #[.string ⟨t.toArray⟩, .string ⟨nm.toArray⟩, .string v.1, .int .i64 v.2.1, .string v.2.2])) rfl (by kernel_rfl) (by kernel_rfl) (by kernel_rfl) (fun _ _ _ h => h) (Or.inl ⟨by rfl, fun w' hS => ?_⟩) hHeld ?_
  · obtain s0 := hS
    go_simp
  try simp only [Act.put]
  refine wpAnyH_take (i := 8) (oi := _) (v := .iface 102 (.agg #[.string ⟨t.toArray⟩, .string ⟨nm.toArray⟩, .string v.1, .int .i64 v.2.1, .string v.2.2])) rfl (by kernel_rfl) (by kernel_rfl) (by kernel_rfl) (fun _ _ _ h => h) (Or.inl ⟨by rfl, fun w' hS => ?_⟩) hHeld ?_
  · obtain s0 := hS
    go_simp
  try simp only [Act.put]
  refine wpAnyH_done (by kernel_rfl) ?_ _
  have s1 : (w.alloc (.cells #[.pointer (some ⟨g, 0, none⟩)] 72)).heap.size ≤ w1.heap.size := g1.size
  have s2 := g2.size
  have hbe : Below B w w3 := (hb0.mono hBw).trans ((((Below.refl B _).drew).trans (below_of_grown g1 hBg (Nat.le_trans hBw hb0.size) : Below B _ w1)).trans ((below_of_grown g2 hBg (by omega)).trans (below_of_grown g3 hBg (by omega))))
  have hP : Hid (Parsed (parseK 4 l) { Obj.zero with kind := 4, target := ⟨t.toArray⟩, name := ⟨nm.toArray⟩, who := v.1, stamp := v.2.1, text := v.2.2 } b3) := Lib.hid (by rw [parseK4]; exact parsed_tag t1.out t2.out t3.out)
  go_wp2_with fail
  go_ret
  exact ⟨{ Obj.zero with kind := 4, target := ⟨t.toArray⟩, name := ⟨nm.toArray⟩, who := v.1, stamp := v.2.1, text := v.2.2 }, none, 0, none, 0, none, 0, l3, b3, rfl, RdN.nil, RdN.nil, RdN.nil, h3, Lib.hid ⟨hP.out, rfl⟩, hbe, by simp [Obj.zero], by simp [Obj.zero], Lib.hid (by simp [Obj.zero])⟩

end Go.Proofs.Ytcefbhmmijmefaa
