/- The layer 'disk': how a disk lies in memory, and what its map of files answers. Conditions: none beyond what each law names. -/
import Derived.Test.YtegolgkagdlocaaDisk0
import Derived.Test.YtegolgkagdlocaaDiskSpec
import Derived.Test.YtegolgkagdlocaaFar
import Derived.StringKeys
namespace Go.Proofs.Ytegolgkagdlocaa
open Go.RowKit Go.Dol
set_option linter.unusedVariables false

theorem str_law : Go.Maps.Keyed Try.prog 9 := Go.Maps.string_keyed Try.underlying9
theorem str_key (n : ByteArray) (hn : n.size ≤ maxLen) : ∃ kl, keyOf Try.prog 9 (.string n) = some kl := ⟨_, Go.WideMaps.keyOf_string_mk Try.underlying9 hn⟩
theorem bytes_zero (w : World) : (zeroValue 23).run Try.prog w = .ok (.slice none 0 0) w := by kernel_rfl

/-- How a file's bytes lie: in a row of bytes. -/
def Byt (w : World) (v : Value) (b : List UInt8) : Prop := ∃ A c, v = .slice A b.length c ∧ Far w 0 A b ∧ b.length ≤ c ∧ c ≤ maxLen
/-- The entries of a map are just these files. -/
def Fls (w : World) (al : List (Value × Value)) (L : List Fil) : Prop :=
  ∃ M : List (Fil × Value), al = M.map (fun m => (Value.string m.1.1, m.2)) ∧ (∀ p ∈ M, Byt w p.2 p.1.2) ∧ (M.map Prod.fst).Perm L

section
variable {w w' : World} {v : Value} {b : List UInt8} {al al' : List (Value × Value)} {L : List Fil} {n : ByteArray}
theorem Byt.keep (h : Byt w v b) {row : Option Nat} (hg : w.grownBy w' row) (hr : Other w 0 row) : Byt w' v b := by
  obtain ⟨A, c, h1, h2, h3⟩ := h
  exact ⟨A, c, h1, h2.keep hg hr, h3⟩
theorem Byt.below (h : Byt w v b) (hb : Below w.heap.size w w') : Byt w' v b := by
  obtain ⟨A, c, h1, h2, h3⟩ := h
  exact ⟨A, c, h1, h2.below hb, h3⟩
theorem Byt.nil (w : World) : Byt w (.slice none 0 0) [] := ⟨none, 0, rfl, Far.nil, Nat.le_refl _, Nat.zero_le _⟩
theorem Byt.seg {base : Nat} {A : Option Addr} {c : Nat} (h : Seg w base 5 1 A b.length c (bc b)) : Byt w (.slice A b.length c) b := ⟨A, c, rfl, Far.of_seg h, h.2.1, h.2.2.1⟩
theorem Byt.own {base : Nat} (h : w.ownsRow base 5 1 v b.length (bc b)) : Byt w v b := by
  obtain ⟨A, c, rfl, _, _⟩ := own_form h
  exact Byt.seg (Seg.of_own h)
theorem Fls.keep (h : Fls w al L) {row : Option Nat} (hg : w.grownBy w' row) (hr : Other w 0 row) : Fls w' al L := by
  obtain ⟨M, h1, h2, h3⟩ := h
  exact ⟨M, h1, fun p hp => (h2 p hp).keep hg hr, h3⟩
theorem Fls.below (h : Fls w al L) (hb : Below w.heap.size w w') : Fls w' al L := by
  obtain ⟨M, h1, h2, h3⟩ := h
  exact ⟨M, h1, fun p hp => (h2 p hp).below hb, h3⟩
theorem Fls.nil (w : World) : Fls w [] [] := ⟨[], rfl, fun _ h => (List.not_mem_nil h).elim, .refl _⟩
theorem Fls.split {M : List (Fil × Value)} {l r : List (Value × Value)} {v0 : Value} (h : M.map (fun m => (Value.string m.1.1, m.2)) = l ++ (.string n, v0) :: r) :
    ∃ M1 b0 M2, M = M1 ++ ((n, b0), v0) :: M2 ∧ M1.map (fun m => (Value.string m.1.1, m.2)) = l ∧ M2.map (fun m => (Value.string m.1.1, m.2)) = r := by
  obtain ⟨M1, M2, rfl, h1, h2⟩ := List.map_eq_append_iff.1 h
  obtain ⟨q, M3, rfl, h3, h4⟩ := List.map_eq_cons_iff.1 h2
  obtain ⟨⟨n', b0⟩, v'⟩ := q
  simp only [Prod.mk.injEq, Value.string.injEq] at h3
  obtain ⟨rfl, rfl⟩ := h3
  exact ⟨M1, b0, M3, rfl, h1, h4⟩
theorem Fls.look (h : Fls w al L) (hL : InOrder L) (hm : (Value.string n, v) ∈ al) : ∃ b, lookF L n = some b ∧ Byt w v b := by
  obtain ⟨M, rfl, h2, h3⟩ := h
  obtain ⟨⟨⟨n', b⟩, v'⟩, hp, he⟩ := List.mem_map.1 hm
  simp only [Prod.mk.injEq, Value.string.injEq] at he
  obtain ⟨rfl, rfl⟩ := he
  exact ⟨b, (look_some hL).2 (h3.mem_iff.1 (List.mem_map.2 ⟨_, hp, rfl⟩)), h2 _ hp⟩
theorem Fls.none (h : Fls w al L) (hL : InOrder L) (hno : ∀ p ∈ al, p.1 ≠ Value.string n) : lookF L n = none := by
  obtain ⟨M, rfl, h2, h3⟩ := h
  refine (look_none hL).2 fun f hf e => ?_
  obtain ⟨p, hp, rfl⟩ := List.mem_map.1 (h3.mem_iff.2 hf)
  exact hno _ (List.mem_map.2 ⟨p, hp, rfl⟩) (by rw [← e])
theorem Fls.put (h : Fls w al L) (hL : InOrder L) (hp : MPut al (.string n) v al') (hv : Byt w v b) : Fls w al' (putF L n b) := by
  have h0 := h
  obtain ⟨M, rfl, h2, h3⟩ := h
  rcases hp with ⟨hno, rfl⟩ | ⟨l, r, v0, he, rfl⟩
  · refine ⟨M ++ [((n, b), v)], by simp, fun p hp => ?_, ?_⟩
    · rcases List.mem_append.1 hp with hp | hp
      · exact h2 p hp
      · rw [List.mem_singleton.1 hp]
        exact hv
    · have hn := h0.none hL hno
      refine .trans ?_ (put_perm L n b).symm
      rw [drop_none hn, List.map_append]
      exact (List.perm_append_comm).trans (h3.cons _)
  · obtain ⟨M1, b0, M2, rfl, rfl, rfl⟩ := Fls.split he
    refine ⟨M1 ++ ((n, b), v) :: M2, by simp, fun p hp => ?_, ?_⟩
    · rcases List.mem_append.1 hp with hp | hp
      · exact h2 p (List.mem_append.2 (.inl hp))
      · rcases List.mem_cons.1 hp with rfl | hp
        · exact hv
        · exact h2 p (List.mem_append.2 (.inr (List.mem_cons_of_mem _ hp)))
    · have hb0 : lookF L n = some b0 := (look_some hL).2 (h3.mem_iff.1 (by simp))
      have hd : (((M1 ++ M2).map Prod.fst)).Perm (dropF L n) := by
        refine (List.perm_cons (n, b0)).1 (.trans ?_ (h3.trans (drop_perm hb0)))
        rw [List.map_append, List.map_append, List.map_cons]
        exact List.perm_middle.symm
      refine .trans ?_ (put_perm L n b).symm
      rw [List.map_append, List.map_cons]
      refine List.perm_middle.trans (.cons _ ?_)
      rw [← List.map_append]
      exact hd
theorem Fls.drop (h : Fls w al L) (hL : InOrder L) (hp : MDel al (.string n) al') : Fls w al' (dropF L n) := by
  have h0 := h
  obtain ⟨M, rfl, h2, h3⟩ := h
  rcases hp with ⟨hno, rfl⟩ | ⟨l, r, v0, he, rfl⟩
  · rw [drop_none (h0.none hL hno)]
    exact h0
  · obtain ⟨M1, b0, M2, rfl, rfl, rfl⟩ := Fls.split he
    have hb0 : lookF L n = some b0 := (look_some hL).2 (h3.mem_iff.1 (by simp))
    refine ⟨M1 ++ M2, by simp, fun p hp => ?_, ?_⟩
    · rcases List.mem_append.1 hp with hp | hp
      · exact h2 p (List.mem_append.2 (.inl hp))
      · exact h2 p (List.mem_append.2 (.inr (List.mem_cons_of_mem _ hp)))
    · refine (List.perm_cons (n, b0)).1 (.trans ?_ (h3.trans (drop_perm hb0)))
      rw [List.map_append, List.map_append, List.map_cons]
      exact List.perm_middle.symm
end

/-- A count of raw writes, as a number of 64 bits. -/
def opsD (n : Nat) : Int := IntKind.i64.wrap n
/-- The cells of a disk. -/
def dcells (cap : Int) (m : Nat) (fr : Int) (done : Nat) (left : Int) (dark : Bool) : List Value :=
  [.int .i64 cap, .map (some m), .int .i64 fr, .int .i64 (opsD done), .int .i64 left, .bool dark]
/-- A disk at block g, its map of files at block m. -/
def Dsk (w : World) (g m : Nat) (D : Dk) : Prop := ∃ al, Blk w g 77 (dcells D.cap m (frD D) D.done D.left D.dark) ∧ MapL Try.prog 9 w m al ∧ Fls w al D.l
/-- A row that is a map's is none of bytes. -/
theorem Other.map {k : TypeId} {w : World} {m : Nat} {al : List (Value × Value)} (h : MapL Try.prog k w m al) : Other w 0 (some m) := by
  intro j hj
  injection hj with hj
  subst hj
  refine ⟨Nat.zero_le _, fun cur fr e => ?_⟩
  obtain ⟨es, clock, hb, _⟩ := h
  rw [hb] at e
  cases e

section
variable {w w' : World} {g m : Nat} {D : Dk}
theorem Dsk.lt (h : Dsk w g m D) : g < w.heap.size ∧ m < w.heap.size := by
  obtain ⟨al, hB, hM, _⟩ := h
  exact ⟨hB.lt, hM.lt⟩
theorem Dsk.ne (h : Dsk w g m D) : g ≠ m := by
  obtain ⟨al, hB, hM, _⟩ := h
  exact hM.blk_ne hB
theorem Dsk.below (h : Dsk w g m D) (hb : Below w.heap.size w w') : Dsk w' g m D := by
  obtain ⟨al, hB, hM, hF⟩ := h
  exact ⟨al, hB.below hb hB.lt, hM.belowW hb, hF.below hb⟩
theorem Dsk.drew (h : Dsk w g m D) : Dsk w.drew g m D := h.below ⟨rfl, rfl, rfl, Nat.le_refl _, fun _ _ => rfl⟩
theorem Dsk.drewN (h : Dsk w g m D) (k : Nat) : Dsk (w.drewN k) g m D := h.below ⟨rfl, rfl, rfl, Nat.le_refl _, fun _ _ => rfl⟩
/-- What turns another disk turns this one not. -/
theorem Dsk.other {g' m' : Nat} {D' : Dk} (h : Dsk w g m D) (h' : Dsk w g' m' D') (hg : g ≠ g') (hm : m ≠ m') (ht : Tw w w' g' m') : Dsk w' g m D := by
  obtain ⟨al, hB, hM, hF⟩ := h
  obtain ⟨al', hB', hM', _⟩ := h'
  have hgm : g ≠ m' := hM'.blk_ne hB
  have hmg : m ≠ g' := (hM.blk_ne hB').symm
  refine ⟨al, hB.keepB (ht.block g hB.lt hg hgm), hM.keepB (ht.block m hM.lt hmg hm), ?_⟩
  obtain ⟨M, h1, h2, h3⟩ := hF
  refine ⟨M, h1, fun p hp => ?_, h3⟩
  obtain ⟨A, c, e1, hf, e2⟩ := h2 p hp
  refine ⟨A, c, e1, ?_, e2⟩
  rcases Nat.eq_zero_or_pos p.1.2.length with h0 | h0
  · rw [List.eq_nil_of_length_eq_zero h0]
    exact Far.nil
  obtain ⟨b, off, e, hb, hc⟩ := hf.1.at_ h0
  have hs : segBlock A = some b := by rw [e]; rfl
  rcases hf.2 h0 b hs with h5 | ⟨cur, fr, h5⟩
  · omega
  have n1 : b ≠ g' := by
    rintro rfl
    unfold Blk at hB'
    rw [hB'] at h5
    injection h5 with h5
    injection h5 with _ h5
    exact absurd h5 (by decide)
  have n2 : b ≠ m' := by
    rintro rfl
    exact (Other.map hM' b rfl).2 cur fr h5
  have hk := ht.block b hb n1 n2
  refine ⟨⟨hf.1.len, fun _ => ⟨b, off, e, Nat.lt_of_lt_of_le hb ht.size, fun j u hu => (World.cell?_of_block hk).trans (hc j u hu)⟩⟩, fun _ k hk2 => ?_⟩
  rw [hs] at hk2
  injection hk2 with hk2
  subst hk2
  exact .inr ⟨cur, fr, hk.trans h5⟩

/-- What a name's look-up answers. -/
theorem map_find {al : List (Value × Value)} {L : List Fil} (hM : MapL Try.prog 9 w m al) (hF : Fls w al L) (hL : InOrder L) (n : ByteArray) (hn : n.size ≤ maxLen) :
    (Hid (lookF L n = none) ∧ (∀ W : World, W.heap[m]? = w.heap[m]? → (Instr.lookup 70 (.map (some m)) (.string n) true).run Try.prog W = .ok (.tuple #[.slice none 0 0, .bool false]) W) ∧
      ∀ W : World, W.heap[m]? = w.heap[m]? → (Instr.lookup 70 (.map (some m)) (.string n) false).run Try.prog W = .ok (.slice none 0 0) W) ∨
    ∃ b A c, Hid (lookF L n = some b) ∧ Far w 0 A b ∧ b.length ≤ c ∧ c ≤ maxLen ∧ (∀ W : World, W.heap[m]? = w.heap[m]? → (Instr.lookup 70 (.map (some m)) (.string n) true).run Try.prog W = .ok (.tuple #[.slice A b.length c, .bool true]) W) ∧
      ∀ W : World, W.heap[m]? = w.heap[m]? → (Instr.lookup 70 (.map (some m)) (.string n) false).run Try.prog W = .ok (.slice A b.length c) W := by
  obtain ⟨kl, hkl⟩ := str_key n hn
  have hr := fun (W : World) (hW : W.heap[m]? = w.heap[m]?) (ok : Bool) => (hM.keepB hW).look str_law Try.underlying70 (bytes_zero _) hkl ok
  by_cases hex : ∃ v, (Value.string n, v) ∈ al
  · obtain ⟨v, hv⟩ := hex
    obtain ⟨b, hb, A, c, rfl, hf, hc⟩ := hF.look hL hv
    have huniq : ∀ u, (Value.string n, u) ∈ al → u = .slice A b.length c := by
      intro u hu
      have hnd := hM.nodup
      obtain ⟨l, r, rfl⟩ := List.append_of_mem hv
      rw [List.map_append, List.map_cons, List.nodup_append] at hnd
      rcases List.mem_append.1 hu with hu | hu
      · exact absurd rfl (hnd.2.2 _ (List.mem_map.2 ⟨_, hu, rfl⟩) _ (by simp))
      · rcases List.mem_cons.1 hu with e | hu
        · injection e
        · exact absurd (List.mem_map.2 ⟨_, hu, rfl⟩) (List.nodup_cons.1 hnd.2.1).1
    refine .inr ⟨b, A, c, Lib.hid hb, hf, hc.1, hc.2, fun W hW => ?_, fun W hW => ?_⟩
    · rcases hr W hW true with ⟨h1, _⟩ | ⟨u, h1, h2⟩
      · exact absurd rfl (h1 _ hv)
      · rw [huniq u h1] at h2
        exact h2
    · rcases hr W hW false with ⟨h1, _⟩ | ⟨u, h1, h2⟩
      · exact absurd rfl (h1 _ hv)
      · rw [huniq u h1] at h2
        exact h2
  · have hno : ∀ p ∈ al, p.1 ≠ Value.string n := by
      rintro ⟨k, v⟩ hp e
      exact hex ⟨v, by rw [← e]; exact hp⟩
    refine .inl ⟨Lib.hid (hF.none hL hno), fun W hW => ?_, fun W hW => ?_⟩
    · rcases hr W hW true with ⟨_, h2⟩ | ⟨u, h1, _⟩
      · exact h2
      · exact absurd ⟨u, h1⟩ hex
    · rcases hr W hW false with ⟨_, h2⟩ | ⟨u, h1, _⟩
      · exact h2
      · exact absurd ⟨u, h1⟩ hex
/-- The same, of a disk. -/
theorem Dsk.find (h : Dsk w g m D) (hL : InOrder D.l) (n : ByteArray) (hn : n.size ≤ maxLen) :
    (Hid (lookF D.l n = none) ∧ (∀ W : World, W.heap[m]? = w.heap[m]? → (Instr.lookup 70 (.map (some m)) (.string n) true).run Try.prog W = .ok (.tuple #[.slice none 0 0, .bool false]) W) ∧
      ∀ W : World, W.heap[m]? = w.heap[m]? → (Instr.lookup 70 (.map (some m)) (.string n) false).run Try.prog W = .ok (.slice none 0 0) W) ∨
    ∃ b A c, Hid (lookF D.l n = some b) ∧ Far w 0 A b ∧ b.length ≤ c ∧ c ≤ maxLen ∧ (∀ W : World, W.heap[m]? = w.heap[m]? → (Instr.lookup 70 (.map (some m)) (.string n) true).run Try.prog W = .ok (.tuple #[.slice A b.length c, .bool true]) W) ∧
      ∀ W : World, W.heap[m]? = w.heap[m]? → (Instr.lookup 70 (.map (some m)) (.string n) false).run Try.prog W = .ok (.slice A b.length c) W := by
  obtain ⟨al, hB, hM, hF⟩ := h
  exact map_find hM hF hL n hn
end
end Go.Proofs.Ytegolgkagdlocaa
