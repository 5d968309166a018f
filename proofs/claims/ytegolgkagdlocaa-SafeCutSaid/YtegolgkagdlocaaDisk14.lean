/- The walk of the layer 'disk': its files, written out. Conditions: a disk in good order. -/
import Derived.Test.YtegolgkagdlocaaDisk13
import Derived.Test.YtegolgkagdlocaaDisk4
import Derived.Test.YtegolgkagdlocaaDisk12
import Derived.Test.YtegolgkagdlocaaAppN
namespace Go.Proofs.Ytegolgkagdlocaa
open Go.RowKit Go.Dol
set_option linter.unusedVariables false
theorem info_dfile2 : (Try.prog.info? 63).map (fun i => (i.zero, i.size, i.bytes)) = some (some (.agg #[.string ⟨#[]⟩, .slice none 0 0]), 2, 40) := by kernel_rfl
/-- 'append' of files. -/
theorem appG {w : World} {ops : Array Oper} {rest : List Oper} {o : Oper} {a : Act} {Q : Exit → Act → World → Prop} (hgd : o.guard = none) (s x : Operand)
    (ho : o.op = .call { callee := .builtin .append, args := #[s, x], argTypes := #[41, 41] })
    (base : Nat) (v : Value) (xs : List FilA) (n : Nat) (hn : n = xs.length) (hs : a.eval s = v) (hown : w.ownsRow base 63 2 v n (fc xs))
    (B : Nat) (A : Option Addr) (m c : Nat) (news : List FilA) (hx : a.eval x = .slice A m c) (hm : m = news.length) (hr : Rd w B 2 A m (fc news))
    (hlen : n + m ≤ 3518437208883) (hbase : base ≤ w.heap.size)
    (h : ∀ (ys : List FilA) (A' : Option Addr) (c' : Nat) (w' : World), Hid (ys = xs ++ news) → w'.ownsRow base 63 2 (.slice A' ys.length c') ys.length (fc ys) → Below base w w' → w.grownBy w' v.ownBlock →
      wpList Try.prog ops Q rest (a.put o.dst (.slice A' ys.length c')) w') : wpList Try.prog ops Q (o :: rest) a w := by
  refine wpList_append_rd w hgd s x _ ho base _ _ 2 40 Try.underlying41 info_dfile2 rfl (by decide) v n (fc xs) hs hown B A m c (fc news) hx hr (fc_one _) (by unfold maxLen; omega) (by omega) hbase ?_
  intro A' c' w' h1 h2 h3 h4 h5
  have e : n + m = (xs ++ news).length := by rw [List.length_append]; omega
  rw [← fc_append, e] at h1
  rw [e]
  exact h _ A' c' w' rfl h1 ((Below.refl _ _).grown h2 hbase (fun k hk => (hown.lt k hk).1)) h2
/-- What a disk's writing out hands back. -/
def RetDump (w : World) (L : List Fil) (e : Ending) (w' : World) : Prop :=
  ∃ (fs : List FilA) (A : Option Addr) (c : Nat), Hid (fs.map FilA.f = L) ∧ e = .returned (.slice A fs.length c) ∧ w'.ownsRow w.heap.size 63 2 (.slice A fs.length c) fs.length (fc fs) ∧ Fls8 w' 0 fs ∧ Below w.heap.size w w'
/-- The rounds of the writing out: the first k files. -/
def DuRel (D : Dk) (B : Nat) (w : World) (q i : Value) (wr : World) : Prop :=
  ∃ (k : Nat) (fs : List FilA) (A : Option Addr) (c : Nat), q = .slice A fs.length c ∧ i = .int .i64 k ∧ k ≤ D.l.length ∧ Hid (fs.map FilA.f = D.l.take k) ∧ fs.length = k ∧ wr.ownsRow w.heap.size 63 2 (.slice A fs.length c) fs.length (fc fs) ∧ Fls8 wr B fs ∧ Below w.heap.size w wr
section
variable {w : World} {g m : Nat} {D : Dk}
set_option maxRecDepth 100000 in
set_option maxHeartbeats 1600000 in
theorem Dump_callsL (h : Dsk w g m D) (hK : OkL D) : Calls Try.prog 20 #[.pointer (some ⟨g, 0, none⟩)] w (RetDump w D.l) := by
  have HNm := Lib.hid (Names_callsL h hK)
  have hlen := hK.len
  have hO := hK.ord
  go_enter Try.func20, Try.ntmps20
  go_wp2_with ((go_at_call 53; refine HNm.out.mono ?_; rintro e w1 ⟨A0, c0, rfl, ho1, hb1⟩))
  have hD1 := h.below hb1
  have hgl := hD1.lt
  have hs1 := hb1.size
  have hrn := Rd.of_own ho1
  go_loopw [3, 9] (fun q i wr => DuRel D 0 w1 q i wr) (fun _ i _ => D.l.length - (intOf i).toNat)
  case atStart => exact ⟨0, [], none, 0, rfl, rfl, Nat.zero_le _, by simp [Hid], rfl, World.ownsRow_nil _ _ _ _, fun x hx => (List.not_mem_nil hx).elim, Below.refl _ _⟩
  case round =>
    obtain ⟨k, fs, A, c, rfl, rfl, hk, hf, hfl, ho, hF, hb⟩ := hrel
    have hs := hb.size
    by_cases hlt : k < D.l.length
    · have hd : decide ((k : Int) < (D.l.length : Int)) = true := decide_eq_true (by omega)
      have hd' : (k : Int) < (D.l.length : Int) := by omega
      have hk0 : (0 : Int) ≤ (k : Int) := by omega
      obtain ⟨x, hx⟩ : ∃ x, D.l[k]? = some x := ⟨D.l[k], List.getElem?_eq_getElem hlt⟩
      have hxm := List.mem_of_getElem? hx
      have hls : lookF D.l x.1 = some x.2 := (look_some hO).2 hxm
      have hxn : x.1.size ≤ 140737488355328 := by have h1 := hK.names x hxm; unfold nameB at h1; simp only [Bool.and_eq_true, decide_eq_true_eq] at h1; omega
      have hxb := hK.small x hxm
      have hsn : (sc (D.l.map Prod.fst))[k]? = some (.string x.1) := by simp [sc, hx]
      have hnext : D.l.take (k + 1) = D.l.take k ++ [x] := by rw [List.take_add_one, hx]; rfl
      have hrw := hrn.belowW hb (Nat.le_refl _)
      obtain ⟨bb, off, rfl, hbb, hcell⟩ := hrw.at_ (by omega)
      have q0 : wr.cell? ⟨bb, off + k, none⟩ = some (.string x.1) := hcell _ _ hsn
      have hDr := hD1.below hb
      obtain ⟨k0, k1, k2, k3, k4, k5⟩ := hDr.cells
      have hfind := hDr.find hO x.1 (by unfold maxLen; omega)
      obtain ⟨n, b⟩ := x
      simp only at hls hxn hxb q0 hfind
      rcases hfind with ⟨h0, _, _⟩ | ⟨b', Ab, cb, hlb, hFb, hcb, hcbm, _, hlk⟩
      · exfalso
        have e0 := h0.out
        rw [hls] at e0
        cases e0
      · have hbe : b' = b := by
          have e0 := hlb.out
          rw [hls] at e0
          injection e0 with e0
          exact e0.symm
        subst hbe
        have hlk1 := hlk wr rfl
        have HCl := Lib.hid (Clone_calls _ Ab b' b'.length cb rfl wr hFb.1 hxb)
        have HX := Lib.hid hnext
        have HL := Lib.hid hfl
        have hfk : fs.length ≤ 3518437208880 := by omega
        have f1 : IntKind.i64.wrap ((k : Int) + 1) = (k : Int) + 1 := IntWalk.i64_in _ (by omega)
        clear hlk hx hxm hls hsn hnext hcell hrw hfl hrn hlb
        go_wp2_with (first
          | (go_at_call 48; refine HCl.out.mono ?_; rintro e w2 ⟨l', A', c', he, rfl, ho2, hb2, hl2, hc2⟩)
          | (at_builtin; refine appG rfl (.tmp 13) (.tmp 23) rfl w1.heap.size _ fs fs.length rfl rfl (World.ownsRow.alloc (own_belowW ho hb2) _) (w2.heap.size + 1) _ 1 1 [⟨n, l', A', c'⟩] rfl rfl (Rd.fileT w2 63 ⟨n, l', A', c'⟩) (by omega) (by have := hb2.size; simp only [World.size_alloc]; omega) ?_; intro ys A3 c3 w3 he3 ho3 hb3 hg3))
        have hs2 := hb2.size
        have hF2 : Fls8 (w2.alloc (.cells #[.string n, .slice A' l'.length c'] 63)) 0 (fs ++ [⟨n, l', A', c'⟩]) := by
          have hbl : Below w2.heap.size w2 (w2.alloc (.cells #[.string n, .slice A' l'.length c'] 63)) := (Below.refl _ _).alloc (Nat.le_refl _) _
          intro y hy
          rcases List.mem_append.1 hy with hy | hy
          · exact ((hF.below hb2).below hbl) y hy
          · rw [List.mem_singleton.1 hy]
            exact ⟨(Far.of_seg (Seg.of_own ho2)).below hbl, hl2, hc2⟩
        have hF3 := hF2.keep hg3 (Other.own (World.ownsRow.alloc (own_belowW ho hb2) _) (by decide) (Nat.zero_le _))
        have hyl : ys.length = k + 1 := by rw [he3.out, List.length_append, HL.out]; rfl
        go_wp2_with fail
        refine ⟨⟨k + 1, ys, A3, c3, rfl, by go_num, by omega, ?_, hyl, ho3, ?_, (hb.trans ((hb2.mono hs).trans (((Below.refl _ _).alloc (by omega) _).trans hb3)))⟩, by simp [intOf]; omega⟩
        · unfold Hid
          rw [he3.out, List.map_append, hf.out, HX.out, ← he.out]
          rfl
        · rw [he3.out]
          exact hF3
    · have hd : decide ((k : Int) < (D.l.length : Int)) = false := decide_eq_false (by omega)
      have hkl : k = D.l.length := by omega
      have hall : fs.map FilA.f = D.l := by rw [hf.out, hkl, List.take_length]
      have HA := Lib.hid hall
      clear hall hkl
      go_wp2_with fail
      go_ret
      exact ⟨fs, A, c, HA, rfl, World.ownsRow.mono ho hs1, hF, hb1.next hb⟩
theorem Dump_calls (h : Dsk w g m D) (hK : OkD D) : Calls Try.prog 20 #[.pointer (some ⟨g, 0, none⟩)] w (RetDump w D.l) := Dump_callsL h hK.toL
end
end Go.Proofs.Ytegolgkagdlocaa
