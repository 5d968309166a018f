/- The library's slices.Clone, DeleteFunc, Delete on texts, over a row of the call's own. Conditions: fewer than 2^40 texts. -/
import Derived.Test.YteeajmgiamdfdaaFnL
namespace Go.Dol
open Go.RowKit
set_option linter.unusedVariables false
theorem own_blk' {w : World} {base : Nat} {e : TypeId} {A : Option Addr} {c n : Nat} {xs : List Value} (h : w.ownsRow base e 1 (.slice A n c) n xs) (hn : 0 < n) :
    ∃ g tail, A = some ⟨g, 0, none⟩ ∧ Blk w g e (xs ++ tail) ∧ base ≤ g ∧ (xs ++ tail).length = c ∧ n ≤ c ∧ c ≤ maxLen := by
  rcases h.2 with ⟨h2, _⟩ | ⟨g, cap, cur, h2, h3, h4, h5, h6, h7, h8⟩
  · injection h2 with h2 h2' h2''
    omega
  · injection h2 with h2 _ h2'
    subst h2'
    have e1 : xs ++ cur.toList.drop (n * 1) = cur.toList := by rw [← h8, List.take_append_drop]
    refine ⟨g, cur.toList.drop (n * 1), h2, ?_, h3, ?_, h5, h6⟩
    · rw [e1]
      exact h4
    · rw [e1, Array.length_toList, h7, Nat.mul_one]
theorem own_of_blk' {w : World} {base : Nat} {e : TypeId} {g c n : Nat} {xs tail : List Value} (h : Blk w g e (xs ++ tail)) (hb : base ≤ g) (hl : (xs ++ tail).length = c) (hn : xs.length = n) (hc : c ≤ maxLen) : w.ownsRow base e 1 (.slice (some ⟨g, 0, none⟩) n c) n xs := by
  refine ⟨by omega, .inr ⟨g, c, (xs ++ tail).toArray, rfl, hb, h, ?_, hc, by simpa using hl, ?_⟩⟩
  · rw [← hl, List.length_append]; omega
  · rw [Nat.mul_one, ← hn]; simp
/-- append within the room that there is. -/
theorem run_append_blk {P : Program} {w : World} {g c n m : Nat} {t e ty : TypeId} {z : Value} {bytes : Nat} {cs : List Value} (ht : P.underlying t = some (.slice e)) (hi : (P.info? e).map (fun i => (i.zero, i.size, i.bytes)) = some (some z, 1, bytes))
    (hB : Blk w g e cs) (hroom : n + m ≤ c) (hc : cs.length = c) {B : Nat} {A2 : Option Addr} {c2 : Nat} {news : List Value} (hr : Rd w B 1 A2 m news) (h1 : ∀ u ∈ news, u.oneCell' = true) :
    ∃ w', (Builtin.append_ #[t, t] ty #[.slice (some ⟨g, 0, none⟩) n c, .slice A2 m c2]).run P w = .ok (.slice (some ⟨g, 0, none⟩) (n + m) c) w' ∧ Blk w' g e (cs.take n ++ news ++ cs.drop (n + m)) ∧ w.grownBy w' (some g) := by
  have hnl : news.length = m := by have := hr.len; omega
  obtain ⟨w', hst, hB', hg⟩ := hB.store (P := P) n news (by omega) h1
  have hs := Src.ofRd (P := P) (c := c2) ht hr h1
  obtain ⟨i, hi0, hz0, hz1, hz2⟩ := info_parts hi
  rw [hnl] at hB'
  refine ⟨w', ?_, hB', hg⟩
  rcases hs.kind with ⟨e', hk⟩ | hk <;> simp [Builtin.append_, run_underlying ht, sizeOf, typeInfo, hi0, hz1, hs.len, hroom, hs.cells, Addr.add_lit, hst]
/-- An append whose run is known, at a step of a region that draws. -/
theorem appRun {P : Program} {w w' : World} {ops : Array Oper} {o : Oper} {a : Act} {K : Act → World → Prop} {Q : Exit → Act → World → Prop} {E : Prop} {v : Value} (hgd : o.guard = none) (s x : Operand) (t : TypeId) (vs vx : Value)
    (ho : o.op = .call { callee := .builtin .append, args := #[s, x], argTypes := #[t, t] }) (hs : a.eval s = vs) (hx : a.eval x = vx) (hrun : (Builtin.append_ #[t, t] o.type #[vs, vx]).run P w = .ok v w')
    (h : K (a.put o.dst v) w') : if Region.wanted o (yielded ops a.tmps) = true then Oper.wp P o a w K Q else E := by
  have hw : Region.wanted o (yielded ops a.tmps) = true := by simp [Region.wanted, hgd]
  rw [if_pos hw]
  unfold Oper.wp execOp
  simp only [ho, resolve, invoke, builtin, Sem.run_bind, Sem.run_pure, Result.andThen_ok, List.map_toArray, List.map_cons, List.map_nil, hs, hx, hrun]
  exact h
/-- clear, within a block. -/
theorem run_clear_blk {P : Program} {w : World} {g o n c : Nat} {t e ty : TypeId} {z : Value} {cs : List Value} (ht : P.underlying t = some (.slice e)) (hz : ∀ w, (zeroValue e).run P w = .ok z w) (hz1 : z.cells = #[z]) (h1 : z.oneCell' = true)
    (hB : Blk w g e cs) (hn : o + n ≤ cs.length) :
    ∃ w', (Builtin.clear_ #[t] ty #[.slice (some ⟨g, o, none⟩) n c]).run P w = .ok (.tuple #[]) w' ∧ Blk w' g e (cs.take o ++ List.replicate n z ++ cs.drop (o + n)) ∧ w.grownBy w' (some g) := by
  obtain ⟨w', hst, hB', hg⟩ := hB.store (P := P) o (List.replicate n z) (by simpa using hn) (by intro v hv; rw [List.eq_of_mem_replicate hv]; exact h1)
  have hzc : (Builtin.zeroCells z.cells n).toList = List.replicate n z := by
    rw [hz1]
    simp [Builtin.zeroCells]
    apply List.ext_getElem
    · simp
    · intro i h1 h2
      simp [Nat.mod_one]
  rw [List.length_replicate] at hB'
  cases n with
  | zero =>
    refine ⟨w, ?_, by simpa using hB, World.grownBy.refl w _⟩
    simp [Builtin.clear_, run_underlying ht]
  | succ n =>
    refine ⟨w', ?_, hB', hg⟩
    simp [Builtin.clear_, run_underlying ht, hz, hzc, hst, Result.andThen]
end Go.Dol
namespace Go.Proofs.Yteeajmgiamdfdaa
open Go.RowKit Go.Dol
set_option linter.unusedVariables false
theorem eqlT_nil (w : World) (A : Option Addr) (n c : Nat) : (binOp .eql 26 (.slice A n c) (.slice none 0 0)).run Try.prog w = .ok (.bool A.isNone) w := Lib.run_eql_slice_nil w _ _ A n c 0 0 Try.underlying26
theorem zero_str (w : World) : (zeroValue 9).run Try.prog w = .ok (.string ⟨#[]⟩) w := by kernel_rfl
/-- A row of texts of the call's own. -/
def RetT (base : Nat) (v0 : World) (q : List ByteArray) (e : Ending) (w' : World) : Prop :=
  ∃ (ys : List ByteArray) (A : Option Addr) (c : Nat), Hid (ys = q) ∧ e = .returned (.slice A ys.length c) ∧ w'.ownsRow base 9 1 (.slice A ys.length c) ys.length (pc ys) ∧ Below base v0 w'
set_option maxRecDepth 100000 in
set_option maxHeartbeats 800000 in
theorem cloneT_calls (A : Option Addr) (l : List ByteArray) (c : Nat) (w : World) (hr : Rd w w.heap.size 1 A l.length (pc l)) (hl : l.length ≤ 1099511627776) :
    Calls Try.prog 29 #[.slice A l.length c] w (RetT w.heap.size w l) := by
  have hq := eqlT_nil w A l.length c
  cases A with
  | none =>
    have h0 := hr.none_zero
    obtain rfl : l = [] := List.eq_nil_of_length_eq_zero h0
    have hq0 : (binOp .eql 26 (.slice none 0 c) (.slice none 0 0)).run Try.prog w = .ok (.bool true) w := hq
    clear hq hr h0
    go_enter Try.func29, Try.ntmps29
    go_wp2_with fail
    go_ret
    exact ⟨[], none, 0, rfl, rfl, World.ownsRow_nil _ _ _ _, Below.refl _ _⟩
  | some a =>
    have hq0 : (binOp .eql 26 (.slice (some a) l.length c) (.slice none 0 0)).run Try.prog w = .ok (.bool false) w := hq
    have hb0 : Below w.heap.size w (w.alloc (.cells #[] 9)) := (Below.refl _ _).alloc (Nat.le_refl _) _
    have ho := own_new w 9 w.heap.size 0 [] rfl (Nat.le_refl _) (by unfold maxLen; omega)
    have hr2 := hr.belowW hb0 (Nat.le_refl _)
    clear hq hr
    go_enter Try.func29, Try.ntmps29
    go_wp2_with (at_builtin; refine appVl rfl (.tmp 5) (.tmp 6) 26 9 _ 16 rfl Try.underlying26 info_string rfl w.heap.size _ 0 [] rfl ho w.heap.size _ l.length c (pc l) rfl hr2 (pc_one _) (by unfold maxLen; omega) (by omega) (by simp) ?_; intro A' c' w' y1 y2 y3 y4 y5; simp only [Nat.zero_add, List.nil_append] at y1)
    go_ret
    exact ⟨l, A', c', rfl, rfl, y1, hb0.trans y2⟩
/-- The rounds of DeleteFunc. -/
def DelRel (pr : ByteArray → Bool) (l : List ByteArray) (v0 : World) (g : Nat) (tail : List Value) (i j : Value) (wr : World) : Prop :=
  ∃ (m k : Nat) (cs : List ByteArray), i = .int .i64 m ∧ j = .int .i64 k ∧ m < k ∧ k ≤ l.length ∧ cs.length = l.length ∧ Hid (cs.take m = (l.take k).filter fun x => !pr x) ∧ Hid (cs.drop k = l.drop k) ∧ Blk wr g 9 (pc cs ++ tail) ∧ Below v0.heap.size v0 wr
set_option maxRecDepth 100000 in
set_option maxHeartbeats 6400000 in
theorem deleteFunc_calls (g : Nat) (cb : Array Value) (pr : ByteArray → Bool) (v0 : World) (A : Option Addr) (l : List ByteArray) (c : Nat) (w : World) (hv : Below v0.heap.size v0 w) (ho : w.ownsRow v0.heap.size 9 1 (.slice A l.length c) l.length (pc l)) (hl : l.length ≤ 1099511627776)
    (eg : ∀ args w, (callFunc g args).run Try.prog w = .ok (.enter g args) w) (hp : Says g cb pr l v0) :
    Calls Try.prog 28 #[.slice A l.length c, .func (.func g) #[] cb] w (RetT v0.heap.size v0 (l.filter fun x => !pr x)) := by
  have HI := Lib.hid (indexFunc_calls g cb pr v0 A l c w hv (Rd.of_own ho) hl eg hp)
  have HP := Lib.hid hp
  have HEG := Lib.hid eg
  clear hp eg
  go_enter Try.func28, Try.ntmps28
  go_wp2_with fail
  refine HI.out.mono ?_
  rintro e w1 ⟨⟨rfl, hn⟩ | ⟨k0, x0, rfl, hk0, hx0, hp0, hn⟩, hb⟩
  · have HA : Hid (l = l.filter fun x => !pr x) := by
      unfold Hid
      refine (List.filter_eq_self.2 fun x hx => ?_).symm
      rw [hn.out x hx]
      rfl
    clear HI
    go_wp2_with fail
    go_ret
    exact ⟨l, A, c, HA, rfl, own_belowW ho hb, hv.next hb⟩
  · have ho1 := own_belowW ho hb
    have hv1 := hv.next hb
    obtain ⟨gb, tail, rfl, hB, hgb, htl, hlc, hcm⟩ := own_blk' ho1 (by omega)
    have hk00 : (0 : Int) ≤ (k0 : Int) := by omega
    have f0 : IntKind.i64.wrap ((k0 : Int) + 1) = (k0 : Int) + 1 := IntWalk.i64_in _ (by omega)
    have hkm : ((k0 : Int) == -1) = false := beq_eq_false_iff_ne.2 (by omega)
    have hst : DelRel pr l v0 gb tail (.int .i64 k0) (.int .i64 ((k0 : Int) + 1)) w1 := by
      refine ⟨k0, k0 + 1, l, rfl, by go_num, by omega, by omega, rfl, ?_, rfl, hB, hv1⟩
      unfold Hid
      rw [List.take_add_one, hx0.out, List.filter_append]
      have e1 : (l.take k0).filter (fun x => !pr x) = l.take k0 := List.filter_eq_self.2 fun x hx => by
        obtain ⟨j, hj, e⟩ := List.mem_iff_getElem.1 hx
        rw [List.length_take] at hj
        have := hn.out j (by omega) x (by rw [← e, List.getElem_take]; exact List.getElem?_eq_getElem _)
        rw [this]; rfl
      rw [e1]
      simp [hp0.out]
    have HST := Lib.hid hst
    clear hst ho ho1 hn HI hv hB hb hv1
    go_wp2_with fail
    go_loopw [5, 6] (fun i j wr => DelRel pr l v0 gb tail i j wr) (fun _ j _ => l.length - (intOf j).toNat)
    case atStart => exact HST.out
    case round =>
      clear HST
      obtain ⟨m, k, cs, rfl, rfl, hmk, hk, hcl, hc1, hc2, hB, hbv⟩ := hrel
      have HCL := Lib.hid hcl
      clear hcl
      have f1 : IntKind.i64.wrap ((k : Int) + 1) = (k : Int) + 1 := IntWalk.i64_in _ (by omega)
      have f2 : IntKind.i64.wrap ((m : Int) + 1) = (m : Int) + 1 := IntWalk.i64_in _ (by omega)
      by_cases hlt : k < l.length
      · have hd : decide ((k : Int) < (l.length : Int)) = true := decide_eq_true (by omega)
        have hd' : (k : Int) < (l.length : Int) := by omega
        have hdm : (m : Int) < (l.length : Int) := by omega
        have hk0' : (0 : Int) ≤ (k : Int) := by omega
        have hm0 : (0 : Int) ≤ (m : Int) := by omega
        obtain ⟨x, hx⟩ : ∃ x, l[k]? = some x := ⟨l[k], List.getElem?_eq_getElem hlt⟩
        have hcx : cs[k]? = some x := by
          have h1 : (cs.drop k)[0]? = (l.drop k)[0]? := by rw [hc2.out]
          rw [List.getElem?_drop, List.getElem?_drop] at h1
          exact h1.trans hx
        have hcs := HCL.out
        have cx : wr.cell? ⟨gb, k, none⟩ = some (.string x) := by
          rw [hB.cell, List.getElem?_append_left (by rw [pc_length]; omega)]
          simp [pc, hcx]
        have hc := HP.out wr hbv x (List.mem_of_getElem? hx)
        obtain ⟨b, hpb⟩ : ∃ b, b = pr x := ⟨_, rfl⟩
        rw [← hpb] at hc
        have HPX := Lib.hid hpb
        have HX := Lib.hid (filter_snoc (fun x => !pr x) l k x hx)
        have HCX := Lib.hid hcx
        have eg := HEG.out
        clear hx hpb hcx hcs
        cases b with
        | true =>
          have HN : Hid (cs.take m = (l.take (k + 1)).filter fun x => !pr x) := by unfold Hid; rw [HX.out, hc1.out, ← HPX.out]; simp
          have HD : Hid (cs.drop (k + 1) = l.drop (k + 1)) := by unfold Hid; rw [← List.drop_drop, ← List.drop_drop, hc2.out]
          go_wp2_with (go_at_fn g; refine hc.mono ?_; rintro e w2 ⟨rfl, hb2⟩; have hB2 := hB.below hb2 hB.lt)
          exact ⟨⟨m, k + 1, cs, rfl, by go_num, by omega, by omega, HCL.out, HN, HD, hB2, hbv.next hb2⟩, by simp [intOf]; omega⟩
        | false =>
          have HN : Hid ((cs.set m x).take (m + 1) = (l.take (k + 1)).filter fun x => !pr x) := by
            unfold Hid
            rw [HX.out, ← hc1.out, ← HPX.out, List.take_set, List.take_add_one]
            have hm : m < cs.length := by have := HCL.out; omega
            rw [List.getElem?_eq_getElem hm, List.set_append_right _ _ (by rw [List.length_take]; omega)]
            simp [List.length_take, Nat.min_eq_left (Nat.le_of_lt hm)]
          have HD : Hid ((cs.set m x).drop (k + 1) = l.drop (k + 1)) := by unfold Hid; rw [List.drop_set_of_lt (by omega), ← List.drop_drop, ← List.drop_drop, hc2.out]
          have HBB : Hid (∀ W, Below wr.heap.size wr W → Blk W gb 9 (pc cs ++ tail) ∧ W.frozen? ⟨gb, m, none⟩ = false ∧ W.cell? ⟨gb, m, none⟩ = some (.string (cs.getD m ⟨#[]⟩))) := fun W hW => by
            have hB2 := hB.below hW hB.lt
            have hm : m < cs.length := by have := HCL.out; omega
            refine ⟨hB2, hB2.free m, ?_⟩
            rw [hB2.cell, List.getElem?_append_left (by rw [pc_length]; omega), pc_get hm]
            simp [List.getD, List.getElem?_eq_getElem hm]
          go_wp2_with (go_at_fn g; refine hc.mono ?_; rintro e w2 ⟨rfl, hb2⟩; obtain ⟨hB2, hfr2, hce2⟩ := HBB.out _ hb2)
          have hB3 := hB2.set m (.string x)
          have e3 : (pc cs ++ tail).set m (.string x) = pc (cs.set m x) ++ tail := by
            have hm : m < cs.length := by have := HCL.out; omega
            rw [List.set_append_left _ _ (by rw [pc_length]; exact hm)]
            simp [pc, List.map_set]
          rw [e3] at hB3
          exact ⟨⟨m + 1, k + 1, cs.set m x, by go_num, by go_num, by omega, by omega, by rw [List.length_set]; exact HCL.out, HN, HD, hB3, (hbv.next hb2).setCell hgb _⟩, by simp [intOf]; omega⟩
      · have hd : decide ((k : Int) < (l.length : Int)) = false := decide_eq_false (by omega)
        have hmi : (m : Int) ≤ (l.length : Int) := by omega
        have hm0 : (0 : Int) ≤ (m : Int) := by omega
        have hke : k = l.length := by omega
        have hcs := HCL.out
        have hmc : m < c := by omega
        have HN : Hid (cs.take m = l.filter fun x => !pr x) := by unfold Hid; rw [hc1.out, hke, List.take_length]
        have hsl : ∀ w' : World, (Instr.sliceAt 26 (.slice (some ⟨gb, 0, none⟩) l.length c) (some (.int .i64 (m : Int))) none none).run Try.prog w' = .ok (.slice (some ⟨gb, m, none⟩) (l.length - m) (c - m)) w' := fun w' => by
          rw [run_sliceAt_slice _ _ _ _ _ _ (by kernel_rfl), run_slice_l _ _ _ _ _ (by kernel_rfl) _ _ (by omega) (by omega), size_str]
          have : ¬ c = m := by omega
          simp [sliced, Result.andThen, Addr.add, this]
          exact fun h => h.symm
        have hsl2 : ∀ w' : World, (Instr.sliceAt 26 (.slice (some ⟨gb, 0, none⟩) l.length c) none (some (.int .i64 (m : Int))) none).run Try.prog w' = .ok (.slice (some ⟨gb, 0, none⟩) m c) w' := fun w' => by
          rw [run_sliceAt_slice _ _ _ _ _ _ (by kernel_rfl), run_slice_h _ _ _ _ _ (by kernel_rfl) _ _ (by omega) (by omega), size_str]
          simp [sliced, Result.andThen, Addr.add]
        have hpl : (pc cs ++ tail).length = c := by rw [← htl, List.length_append, List.length_append, pc_length, pc_length, hcs]
        obtain ⟨w9, hcl9, hB9, hg9⟩ := run_clear_blk (P := Try.prog) (t := 26) (ty := 0) (o := m) (n := l.length - m) (c := c - m) Try.underlying26 zero_str rfl rfl hB (by omega)
        have hlen : (cs.take m).length = m := by rw [List.length_take]; omega
        have hO : w9.ownsRow v0.heap.size 9 1 (.slice (some ⟨gb, 0, none⟩) m c) m (pc (cs.take m)) := by
          have e4 : (pc cs ++ tail).take m = pc (cs.take m) := by rw [List.take_append_of_le_length (by rw [pc_length]; omega), pc_take]
          rw [e4, List.append_assoc] at hB9
          refine own_of_blk' hB9 hgb ?_ (by rw [pc_length, hlen]) hcm
          rw [List.length_append, List.length_append, List.length_replicate, List.length_drop, pc_length, hlen, hpl]
          omega
        have HLN := Lib.hid hlen
        have hbv9 := hbv.grown hg9 hbv.size (fun j hj => by injection hj with hj; omega)
        clear hke hcs hpl hB9 hlen hB hmi
        go_wp2_with fail
        go_ret
        exact ⟨cs.take m, some ⟨gb, 0, none⟩, c, HN, by rw [HLN.out]; rfl, by rw [HLN.out]; exact hO, hbv9⟩
theorem erase_td (l : List ByteArray) (k : Nat) : l.eraseIdx k = l.take k ++ l.drop (k + 1) := List.eraseIdx_eq_take_drop_succ l k
set_option maxRecDepth 100000 in
set_option maxHeartbeats 3200000 in
/-- One text taken out of a row of the call's own. -/
theorem deleteT_calls (base : Nat) (A : Option Addr) (l : List ByteArray) (c k : Nat) (w : World) (ho : w.ownsRow base 9 1 (.slice A l.length c) l.length (pc l)) (hk : k < l.length) (hl : l.length ≤ 1099511627776) (hbase : base ≤ w.heap.size) :
    Calls Try.prog 39 #[.slice A l.length c, .int .i64 k, .int .i64 ((k : Int) + 1)] w fun e w' => ∃ m : List ByteArray, Hid (m = l.eraseIdx k) ∧ e = .returned (.slice A m.length c) ∧ w'.ownsRow base 9 1 (.slice A m.length c) m.length (pc m) ∧ Below base w w' ∧ w.grownBy w' (Value.slice A l.length c).ownBlock := by
  obtain ⟨gb, tail, rfl, hB, hgb, htl, hlc, hcm⟩ := own_blk' ho (by omega)
  have hrl := Rd.of_own ho
  obtain ⟨m2, A2, c2, hm2, hm2a, hm2b, hR2, hc2, _, _, hS2⟩ := slT_from (w := w) (k := k + 1) ((k : Int) + 1) (by omega) hrl (by omega) hlc hcm
  obtain ⟨m1, hm1, hm1a, hm1b, hR1, hS1⟩ := slT_to (w := w) (k := k) (k : Int) rfl hrl (by omega) hlc hcm
  have hpl : (pc l ++ tail).length = c := htl
  have hll := pc_length l
  have hBd : Blk w.drew gb 9 (pc l ++ tail) := hB.drew
  obtain ⟨w8, hap, hB8, hg8⟩ := run_append_blk (P := Try.prog) (ty := 26) (n := m1.length) (m := m2.length) (c2 := c2) Try.underlying26 info_string hBd (by omega) hpl hR2.drew (pc_one _)
  obtain ⟨w9, hcl9, hB9, hg9⟩ := run_clear_blk (P := Try.prog) (t := 26) (ty := 0) (o := m1.length + m2.length) (n := l.length - (m1.length + m2.length)) (c := c - (m1.length + m2.length)) Try.underlying26 zero_str rfl rfl hB8 (by simp [pc_length]; omega)
  have hE : Hid (m1 ++ m2 = l.eraseIdx k) := by unfold Hid; rw [erase_td, hm1.out, hm2.out]
  have hEl : (m1 ++ m2).length = m1.length + m2.length := List.length_append
  have hO : w9.ownsRow base 9 1 (.slice (some ⟨gb, 0, none⟩) (m1.length + m2.length) c) (m1.length + m2.length) (pc (m1 ++ m2)) := by
    have e0 : m1.length = k := by omega
    have hlt : (pc l ++ tail).take m1.length = pc m1 := by
      rw [e0, List.take_append_of_le_length (by rw [pc_length]; omega), pc_take, ← hm1.out]
    have htk : ∀ R : List Value, (pc m1 ++ pc m2 ++ R).take (m1.length + m2.length) = pc (m1 ++ m2) := fun R => by
      rw [pc_append]
      exact List.take_left' (by rw [List.length_append, pc_length, pc_length])
    have hle : ∀ R : List Value, R.length = c - (m1.length + m2.length) → (pc m1 ++ pc m2 ++ R).length = c := fun R hR => by
      rw [List.length_append, List.length_append, pc_length, pc_length, hR]
      omega
    rw [hlt, htk, List.append_assoc] at hB9
    refine own_of_blk' hB9 hgb ?_ (by rw [pc_length, hEl]) hcm
    have hD : ((pc l ++ tail).drop (m1.length + m2.length)).length = c - (m1.length + m2.length) := by rw [List.length_drop, hpl]
    have hX := hle _ hD
    rw [List.length_append, List.length_append, List.length_replicate, List.length_drop, hX, pc_length, hEl]
    omega
  have hgw : w.grownBy w9 (some gb) := by
    have g0 : w.grownBy w.drew (some gb) := grown_drew (World.grownBy.refl w _)
    exact grown_step (grown_step g0 hg8) hg9
  obtain ⟨q, hq⟩ : ∃ q, q = m1.length + m2.length := ⟨_, rfl⟩
  rw [← hq] at hap hcl9 hO hEl
  have hql : q + 1 = l.length := by omega
  have hq1 : q + 1 ≤ l.length := by omega
  have HQ := Lib.hid hq
  have HO := Lib.hid hO
  have HEL := Lib.hid hEl
  have hsl3 : ∀ w' : World, (Instr.sliceAt 26 (.slice (some ⟨gb, 0, none⟩) q c) (some (.int .i64 (q : Int))) (some (.int .i64 (l.length : Int))) none).run Try.prog w' = .ok (.slice (some ⟨gb, q, none⟩) (l.length - q) (c - q)) w' := fun w' => by
    rw [run_sliceAt_slice _ _ _ _ _ _ (by kernel_rfl), run_slice_lh _ _ _ _ _ (by kernel_rfl) _ _ _ _ (by omega) (by omega) (by omega), size_str]
    have : ¬ c = q := by omega
    simp [sliced, Result.andThen, Addr.add, this]
    try exact fun h => h.symm
  have hlk : ((k : Int) == (k : Int) + 1) = false := beq_eq_false_iff_ne.2 (by omega)
  have hbw : Below base w w9 := (Below.refl _ _).grown hgw hbase (fun j hj => by injection hj with hj; omega)
  clear hO hEl hm1 hm2 hR1 hR2 hB9 hB8 hB hBd hrl ho hpl hll hm2a hm2b hc2 hg8 hg9 hq hql
  go_enter Try.func39, Try.ntmps39

  go_wp2_with fail
  refine wp_region_held_drew (S := fun _ => True) (by kernel_rfl) (trivial) (fun hHeld => ?_)
  refine wpAnyH_take (i := 0) (oi := _) (v := .slice (some ⟨gb, 0, none⟩) l.length c) rfl (by kernel_rfl) (by kernel_rfl) (by kernel_rfl) (fun _ _ _ h => h) (Or.inl ⟨by rfl, fun w9 hS => ?_⟩) hHeld ?_
  · obtain ⟨⟩ := hS
    go_simp
  try simp only [Act.put, List.setIfInBounds_toArray, List.set_cons_zero, List.set_cons_succ, List.getElem_toArray, List.getElem_cons_zero]
  refine wpAnyH_take (i := 1) (oi := _) (v := .int .i64 (k : Int)) rfl (by kernel_rfl) (by kernel_rfl) (by kernel_rfl) (fun _ _ _ h => h) (Or.inl ⟨by rfl, fun w9 hS => ?_⟩) hHeld ?_
  · obtain ⟨⟩ := hS
    go_simp
  try simp only [Act.put, List.setIfInBounds_toArray, List.set_cons_zero, List.set_cons_succ, List.getElem_toArray, List.getElem_cons_succ, List.getElem_cons_zero]
  refine wpAnyH_take (i := 2) (oi := _) (v := .slice (some ⟨gb, 0, none⟩) m1.length c) rfl (by kernel_rfl) (by kernel_rfl) (by kernel_rfl) (fun _ _ _ h => h) (Or.inl ⟨by rfl, fun w9 hS => ?_⟩) hHeld ?_
  · obtain ⟨⟩ := hS
    go_simp
  try simp only [Act.put, List.setIfInBounds_toArray, List.set_cons_zero, List.set_cons_succ, List.getElem_toArray, List.getElem_cons_succ, List.getElem_cons_zero]
  refine wpAnyH_take (i := 3) (oi := _) (v := .slice (some ⟨gb, 0, none⟩) l.length c) rfl (by kernel_rfl) (by kernel_rfl) (by kernel_rfl) (fun _ _ _ h => h) (Or.inl ⟨by rfl, fun w9 hS => ?_⟩) hHeld ?_
  · obtain ⟨⟩ := hS
    go_simp
  try simp only [Act.put, List.setIfInBounds_toArray, List.set_cons_zero, List.set_cons_succ, List.getElem_toArray, List.getElem_cons_succ, List.getElem_cons_zero]
  refine wpAnyH_take (i := 4) (oi := _) (v := .int .i64 ((k : Int) + 1)) rfl (by kernel_rfl) (by kernel_rfl) (by kernel_rfl) (fun _ _ _ h => h) (Or.inl ⟨by rfl, fun w9 hS => ?_⟩) hHeld ?_
  · obtain ⟨⟩ := hS
    go_simp
  try simp only [Act.put, List.setIfInBounds_toArray, List.set_cons_zero, List.set_cons_succ, List.getElem_toArray, List.getElem_cons_succ, List.getElem_cons_zero]
  refine wpAnyH_take (i := 5) (oi := _) (v := .slice A2 m2.length c2) rfl (by kernel_rfl) (by kernel_rfl) (by kernel_rfl) (fun _ _ _ h => h) (Or.inl ⟨by rfl, fun w9 hS => ?_⟩) hHeld ?_
  · obtain ⟨⟩ := hS
    go_simp
  try simp only [Act.put, List.setIfInBounds_toArray, List.set_cons_zero, List.set_cons_succ, List.getElem_toArray, List.getElem_cons_succ, List.getElem_cons_zero]
  refine wpAnyH_ready (rs := [6]) (by kernel_rfl) (by simp) (AllReadyH.cons (o := _) rfl (fun K hK => ?_) AllReadyH.nil)
  refine appRun (by rfl) (.tmp 22) (.tmp 25) 26 _ _ (by rfl) rfl rfl hap ?_
  refine hK.out _ _ trivial (fun hHeld => ?_)
  clear hK K
  try simp only [Act.put, List.setIfInBounds_toArray, List.set_cons_zero, List.set_cons_succ, List.getElem_toArray, List.getElem_cons_succ, List.getElem_cons_zero]
  refine wpAnyH_ready (rs := [7]) (by kernel_rfl) (by simp) (AllReadyH.cons (o := _) rfl (fun K hK => ?_) AllReadyH.nil)
  go_simp
  refine hK.out _ _ trivial (fun hHeld => ?_)
  clear hK K
  try simp only [Act.put, List.setIfInBounds_toArray, List.set_cons_zero, List.set_cons_succ, List.getElem_toArray, List.getElem_cons_succ, List.getElem_cons_zero]
  refine wpAnyH_done (by kernel_rfl) ?_ _
  go_wp2_with fail
  go_ret
  exact ⟨m1 ++ m2, hE, by rw [HEL.out]; rfl, by rw [HEL.out]; exact HO.out, hbw, hgw⟩
end Go.Proofs.Yteeajmgiamdfdaa
