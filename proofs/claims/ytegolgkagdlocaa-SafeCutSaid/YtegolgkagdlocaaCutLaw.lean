/- What a save leaves wherever the power goes, in plain Lean. No program is in sight. Conditions: files in order; the power is on. -/
import Derived.Test.YtegolgkagdlocaaOkG
import Derived.Test.YtegolgkagdlocaaShadow
namespace Go.Dol
open Go.RowKit
set_option linter.unusedVariables false
/-- What an operation of a save leaves: other files as they were; done, or refused. -/
structure SvOut (D : Dk) (n : ByteArray) (P : Dk → Prop) (r : Int × Dk) : Prop where
  ord : InOrder r.2.l
  oth : ∀ x, x ≠ n → x ≠ shd n → lookF r.2.l x = lookF D.l x
  way : (r.1 = 0 ∧ P r.2 ∧ r.2.dark = false) ∨ ((r.1 = 4 ∧ r.2.dark = false ∨ r.1 = 5 ∧ r.2.dark = true) ∧ lookF r.2.l n = lookF D.l n)
  calm : D.left = -1 → r.1 ≠ 5 ∧ r.2.left = -1
theorem SvOut.same {D : Dk} (ho : InOrder D.l) (hd : D.dark = false) (n : ByteArray) (P : Dk → Prop) : SvOut D n P (4, D) :=
  ⟨ho, fun _ _ _ => rfl, .inr ⟨.inl ⟨rfl, hd⟩, rfl⟩, fun h => ⟨by simp, h⟩⟩
theorem SvOut.spend {D : Dk} (ho : InOrder D.l) (hd : D.dark = false) {l' : List Fil} (ho' : InOrder l') {n : ByteArray} (hoth : ∀ x, x ≠ n → x ≠ shd n → lookF l' x = lookF D.l x) {P : Dk → Prop} (hP : ∀ E : Dk, E.l = l' → P E) : SvOut D n P (spendD D l') := by
  unfold spendD
  split
  · rename_i h0
    exact ⟨ho, fun _ _ _ => rfl, .inr ⟨.inr ⟨rfl, rfl⟩, rfl⟩, fun h => by rw [h] at h0; cases h0⟩
  · refine ⟨ho', hoth, .inl ⟨rfl, hP _ rfl, hd⟩, fun h => ⟨by simp, ?_⟩⟩
    show (if 0 < D.left then D.left - 1 else D.left) = -1
    rw [h]
    rfl
theorem SvOut.room {D : Dk} (ho : InOrder D.l) (hd : D.dark = false) {l' : List Fil} (ho' : InOrder l') {n : ByteArray} (hoth : ∀ x, x ≠ n → x ≠ shd n → lookF l' x = lookF D.l x) {P : Dk → Prop} (hP : ∀ E : Dk, E.l = l' → P E) (more : Int) : SvOut D n P (roomD D more l') := by
  unfold roomD
  split
  · exact SvOut.same ho hd n P
  · exact SvOut.spend ho hd ho' hoth hP
/-- One behind the other. -/
theorem SvOut.bind {D : Dk} {n : ByteArray} {P Q : Dk → Prop} {r1 r2 : Int × Dk} (h : SvOut D n P r1) (hP : ∀ E, P E → lookF E.l n = lookF D.l n) (h2 : r1.1 = 0 → P r1.2 → r1.2.dark = false → SvOut r1.2 n Q r2) : SvOut D n Q (if r1.1 ≠ 0 then r1 else r2) := by
  split
  · rename_i h0
    refine ⟨h.ord, h.oth, ?_, h.calm⟩
    rcases h.way with ⟨e, _⟩ | w
    · exact absurd e h0
    · exact .inr w
  · rename_i h0
    have e0 : r1.1 = 0 := Decidable.not_not.1 h0
    rcases h.way with ⟨_, hp, hd⟩ | ⟨⟨e, _⟩ | ⟨e, _⟩, _⟩
    · have q := h2 e0 hp hd
      refine ⟨q.ord, fun x a b => by rw [q.oth x a b, h.oth x a b], ?_, fun hl => q.calm (h.calm hl).2⟩
      rcases q.way with w | ⟨w, k⟩
      · exact .inl w
      · exact .inr ⟨w, by rw [k, hP _ hp]⟩
    · rw [e] at e0; cases e0
    · rw [e] at e0; cases e0
theorem app_out {D : Dk} (ho : InOrder D.l) (hd : D.dark = false) {n : ByteArray} (hs : nameB (shd n) = true) {c acc : List UInt8} (hc : c.length ≤ 64) (ha : (lookF D.l (shd n)).getD [] = acc) :
    SvOut D n (fun E => lookF E.l (shd n) = some (acc ++ c) ∧ lookF E.l n = lookF D.l n) (appD D (shd n) c) := by
  unfold appD
  rw [if_neg (by rw [hs]; simp; omega), if_neg (by rw [hd]; decide), ha]
  refine SvOut.room ho hd (put_order ho) (fun x _ h2 => by rw [look_put ho, if_neg h2]) (fun E hE => ?_) _
  rw [hE, look_put ho, if_pos rfl, look_put ho, if_neg (shd_ne n)]
  exact ⟨rfl, rfl⟩
theorem all_out {n : ByteArray} (hs : nameB (shd n) = true) (cs : List (List UInt8)) (hc : ∀ c ∈ cs, c.length ≤ 64) : ∀ (D : Dk) (acc : List UInt8), InOrder D.l → D.dark = false → (lookF D.l (shd n)).getD [] = acc →
    (cs = [] → lookF D.l (shd n) = some acc) → SvOut D n (fun E => lookF E.l (shd n) = some (acc ++ cs.flatten) ∧ lookF E.l n = lookF D.l n) (appAll D (shd n) cs) := by
  induction cs with
  | nil =>
    intro D acc ho hd ha hn
    exact ⟨ho, fun _ _ _ => rfl, .inl ⟨rfl, ⟨by rw [List.flatten_nil, List.append_nil]; exact hn rfl, rfl⟩, hd⟩, fun h => ⟨by simp [appAll], h⟩⟩
  | cons c r ih =>
    intro D acc ho hd ha _
    rw [appAll_cons]
    have h1 := app_out ho hd hs (hc c (List.mem_cons_self ..)) ha
    refine h1.bind (fun E hE => hE.2) fun h0 hp hd1 => ?_
    have h2 := ih (fun d hd => hc d (List.mem_cons_of_mem _ hd)) (appD D (shd n) c).2 (acc ++ c) h1.ord hd1 (by rw [hp.1]; rfl) fun _ => hp.1
    refine ⟨h2.ord, h2.oth, ?_, h2.calm⟩
    rcases h2.way with ⟨a1, ⟨a2, a3⟩, a4⟩ | w
    · exact .inl ⟨a1, ⟨by rw [a2, List.flatten_cons, List.append_assoc], by rw [a3, hp.2]⟩, a4⟩
    · exact .inr w
theorem touch_ok {D : Dk} {s : ByteArray} (hs : nameB s = true) (hd : D.dark = false) {b : List UInt8} (hl : lookF D.l s = some b) : touchD D s = 0 := by
  unfold touchD
  rw [if_neg (by rw [hs]; decide), if_neg (by rw [hd]; decide), hl]
  rfl
theorem last_out {D : Dk} (ho : InOrder D.l) (hd : D.dark = false) {n : ByteArray} (hs : nameB (shd n) = true) (hn : nameB n = true) {b : List UInt8} (hl : lookF D.l (shd n) = some b) :
    SvOut D n (fun E => lookF E.l n = some b) (lastD D n) := by
  unfold lastD
  have h1 : SvOut D n (fun E => E.l = D.l) (syncD D (shd n)) := by
    unfold syncD
    rw [if_neg (by rw [touch_ok hs hd hl]; simp)]
    exact SvOut.spend ho hd ho (fun _ _ _ => rfl) fun E hE => hE
  refine h1.bind (fun E hE => by rw [hE]) fun h0 hp hd1 => ?_
  have hp' : (syncD D (shd n)).2.l = D.l := hp
  have hl1 : lookF (syncD D (shd n)).2.l (shd n) = some b := by rw [hp']; exact hl
  have ho1 := h1.ord
  unfold renD
  rw [if_neg (by rw [hs, hn]; simp), if_neg (by rw [touch_ok hs hd1 hl1]; simp), hl1, Option.getD_some]
  refine SvOut.room ho1 hd1 (put_order (drop_order ho1)) (fun x a1 a2 => ?_) (fun E hE => ?_) _
  · rw [look_put (drop_order ho1), if_neg a1, look_drop ho1, if_neg a2]
  · rw [hE, look_put (drop_order ho1), if_pos rfl]
/-- WHOLE OR NOT THERE. -/
theorem save_out {D : Dk} (ho : InOrder D.l) (hd : D.dark = false) (n : ByteArray) (b : List UInt8) :
    ((nameB (shd n) = false ∨ n.size = 0 ∨ endsT n = true) ∧ saveD D n b = (1, D)) ∨ (nameB (shd n) = true ∧ n.size ≠ 0 ∧ endsT n = false ∧ SvOut D n (fun E => lookF E.l n = some b) (saveD D n b)) := by
  by_cases hbad : nameB (shd n) = false ∨ n.size = 0 ∨ endsT n = true
  · exact .inl ⟨hbad, if_pos hbad⟩
  · have hs : nameB (shd n) = true := by
      cases hB : nameB (shd n) with
      | true => rfl
      | false => exact absurd (.inl hB) hbad
    have h0 : n.size ≠ 0 := fun e => hbad (.inr (.inl e))
    have hE : endsT n = false := by
      cases hB : endsT n with
      | false => rfl
      | true => exact absurd (.inr (.inr hB)) hbad
    have hn := shd_name hs h0
    have tail : ∀ D1 : Dk, InOrder D1.l → D1.dark = false → lookF D1.l (shd n) = none → SvOut D1 n (fun E => lookF E.l n = some b) (tailD D1 n b) := by
      intro D1 ho1 hd1 hl1
      unfold tailD
      split
      · exact SvOut.same ho1 hd1 n _
      · unfold laidD
        refine (all_out hs (chunksOf b) (chunksOf_small b) D1 [] ho1 hd1 (by rw [hl1]; rfl) (fun e => absurd e (chunksOf_ne b))).bind (fun E hE => hE.2) fun h0 hp hd2 => ?_
        have ho2 := (all_out hs (chunksOf b) (chunksOf_small b) D1 [] ho1 hd1 (by rw [hl1]; rfl) (fun e => absurd e (chunksOf_ne b))).ord
        have hp1 := hp.1
        rw [List.nil_append, chunksOf_flat] at hp1
        exact last_out ho2 hd2 hs hn hp1
    refine .inr ⟨hs, h0, hE, ?_⟩
    unfold saveD
    rw [if_neg hbad, if_neg (by rw [hd]; decide)]
    cases hl : lookF D.l (shd n) with
    | none =>
      rw [if_neg (by decide)]
      exact tail D ho hd hl
    | some c =>
      rw [if_pos (by rfl)]
      have h1 : SvOut D n (fun E => lookF E.l (shd n) = none ∧ lookF E.l n = lookF D.l n) (remD D (shd n)) := by
        unfold remD
        rw [if_neg (by rw [touch_ok hs hd hl]; simp)]
        refine SvOut.spend ho hd (drop_order ho) (fun x _ a2 => by rw [look_drop ho, if_neg a2]) fun E hE => ?_
        rw [hE, look_drop ho, if_pos rfl, look_drop ho, if_neg (shd_ne n)]
        exact ⟨rfl, rfl⟩
      refine h1.bind (fun E hE => hE.2) fun h0 hp hd1 => ?_
      exact tail _ h1.ord hd1 hp.1
/-- A save under a name that may be saved, with no cut to come. -/
theorem save_calmW {D : Dk} (ho : InOrder D.l) (hd : D.dark = false) (hl : D.left = -1) {n : ByteArray} {b : List UInt8} (hs : nameB (shd n) = true) (h0 : n.size ≠ 0) (hE : endsT n = false) :
    ∃ k E, saveD D n b = (k, E) ∧ InOrder E.l ∧ E.dark = false ∧ E.left = -1 ∧ (∀ x, x ≠ n → x ≠ shd n → lookF E.l x = lookF D.l x) ∧ (k = 4 ∨ k = 0 ∧ lookF E.l n = some b) := by
  rcases save_out ho hd n b with ⟨h | h | h, _⟩ | ⟨_, _, _, q⟩
  · rw [hs] at h; cases h
  · exact absurd h h0
  · rw [hE] at h; cases h
  · obtain ⟨q5, ql⟩ := q.calm hl
    rcases q.way with ⟨e, hp, hd1⟩ | ⟨⟨e, hd1⟩ | ⟨e, hd1⟩, hp⟩
    · exact ⟨_, _, rfl, q.ord, hd1, ql, q.oth, .inr ⟨e, hp⟩⟩
    · exact ⟨_, _, rfl, q.ord, hd1, ql, q.oth, .inl e⟩
    · exact absurd e q5
theorem look_filter {l : List Fil} (h : InOrder l) (p : ByteArray → Bool) (x : ByteArray) : lookF (l.filter fun f => p f.1) x = if p x = true then lookF l x else none := by
  have hf : InOrder (l.filter fun f => p f.1) := List.Pairwise.filter _ h
  split
  · rename_i hp
    cases hl : lookF l x with
    | none => exact (look_none hf).2 fun f hm => (look_none h).1 hl f (List.mem_filter.1 hm).1
    | some b => exact (look_some hf).2 (List.mem_filter.2 ⟨(look_some h).1 hl, hp⟩)
  · rename_i hp
    refine (look_none hf).2 fun f hm e => hp ?_
    rw [← e]
    exact (List.mem_filter.1 hm).2
theorem fil_nodup {l : List Fil} (h : InOrder l) : l.Nodup := List.Pairwise.imp (fun {a b} hab e => by rw [e] at hab; exact absurd rfl (sLt_ne hab)) h
/-- Two rows of files in order that answer alike for all names that are kept are alike, where they are kept. -/
theorem filter_same {l m : List Fil} (hl : InOrder l) (hm : InOrder m) (p : ByteArray → Bool) (h : ∀ x, p x = true → lookF l x = lookF m x) : l.filter (fun f => p f.1) = m.filter fun f => p f.1 := by
  refine order_unique (List.Pairwise.filter _ hl) (List.Pairwise.filter _ hm) ?_
  refine (List.perm_ext_iff_of_nodup ((fil_nodup hl).filter _) ((fil_nodup hm).filter _)).2 fun f => ?_
  rw [List.mem_filter, List.mem_filter]
  refine ⟨fun ⟨h1, h2⟩ => ⟨?_, h2⟩, fun ⟨h1, h2⟩ => ⟨?_, h2⟩⟩
  · have e := (look_some hl (n := f.1) (b := f.2)).2 h1
    rw [h f.1 h2] at e
    exact (look_some hm).1 e
  · have e := (look_some hm (n := f.1) (b := f.2)).2 h1
    rw [← h f.1 h2] at e
    exact (look_some hl).1 e
end Go.Dol
namespace Go.Proofs.Ytegolgkagdlocaa
open Go.RowKit Go.Dol
set_option linter.unusedVariables false
theorem keep_ne {n x : ByteArray} (h : keepN n x = true) : x ≠ n ∧ x ≠ shd n := by
  unfold keepN at h
  simp only [Bool.and_eq_true, Bool.not_eq_true'] at h
  refine ⟨?_, ?_⟩
  · rintro rfl
    rw [beq_self_eq_true] at h
    cases h.1
  · rintro rfl
    rw [beq_self_eq_true] at h
    cases h.2
theorem filter_files (fs : List FilA) (p : ByteArray → Bool) : (fs.filter fun x => p x.n).map FilA.f = (fs.map FilA.f).filter fun f => p f.1 := by
  induction fs with
  | nil => rfl
  | cons x r ih =>
    rw [List.map_cons, List.filter_cons, List.filter_cons]
    show _ = if p x.n = true then _ else _
    cases h : p x.n with
    | true => simp [ih]
    | false => simp [ih]
section
variable {w w' : World} {g m : Nat} {D : Dk}
theorem Fls8.filter {B : Nat} {l : List FilA} (h : Fls8 w B l) (p : FilA → Bool) : Fls8 w B (l.filter p) := fun x hx => h x (List.mem_filter.1 hx).1
end
end Go.Proofs.Ytegolgkagdlocaa
