/- The walks of the layer 'press', its ninth part: the places of four bytes are learned. Conditions: lengths below 2^20. -/
import Derived.Test.YtjikoeokmdnciaaPress8
import Derived.Deep.RegionHeld3
import Derived.Deep.LoopGhost
import Derived.Deep.DrawnRows
import Derived.Deep.DeepCutAuto
import Derived.Deep.RegionLaw
namespace Go.Dol
open Go.RowKit
set_option linter.unusedVariables false
/-- The places below one at which just these four bytes stand. -/
def posOf (b : List UInt8) (n : Nat) (K : List UInt8) : List Nat := (List.range n).filter fun j => (b.drop j).take 4 = K
theorem posOf_succ (b : List UInt8) (n : Nat) (K : List UInt8) : posOf b (n + 1) K = posOf b n K ++ (if (b.drop n).take 4 = K then [n] else []) := by
  unfold posOf
  rw [List.range_succ, List.filter_append]
  by_cases h : (b.drop n).take 4 = K <;> simp [h]
theorem posOf_length (b : List UInt8) (n : Nat) (K : List UInt8) : (posOf b n K).length ≤ n := by
  have := List.length_filter_le (fun j => decide ((b.drop j).take 4 = K)) (List.range n)
  rw [List.length_range] at this
  exact this
def ic (zs : List Nat) : List Value := zs.map fun n => .int .i64 (n : Nat)
theorem ic_length (zs : List Nat) : (ic zs).length = zs.length := by simp [ic]
def kv (K : List UInt8) : Value := .agg (bc K).toArray
theorem kv_inj {K L : List UInt8} (h : kv K = kv L) : K = L := by
  have h1 : bc K = bc L := by
    have h2 : (bc K).toArray = (bc L).toArray := by injection h
    simpa using h2
  refine (List.map_inj_right (fun a b hab => ?_)).1 h1
  injection hab with _ hab
  exact UInt8.toNat_inj.1 (by omega)
/-- One place more at a key. -/
def insAt (f : List UInt8 → List Nat) (K : List UInt8) (x : Nat) (L : List UInt8) : List Nat := if L = K then f L ++ [x] else f L
theorem insAt_same (f : List UInt8 → List Nat) (K : List UInt8) (x : Nat) : insAt f K x K = f K ++ [x] := by unfold insAt; rw [if_pos rfl]
theorem insAt_other (f : List UInt8 → List Nat) {K L : List UInt8} (x : Nat) (h : L ≠ K) : insAt f K x L = f L := by unfold insAt; rw [if_neg h]
/-- A map of places: each key's slice owns just the places of its four bytes; no two keys' slices lie in one row. -/
def Grp (w : World) (base : Nat) (T : TypeId) (f : List UInt8 → List Nat) (al : List (Value × Value)) : Prop :=
  (∀ p ∈ al, ∃ K : List UInt8, K.length = 4 ∧ p.1 = kv K ∧ w.ownsRow base T 1 p.2 (f K).length (ic (f K))) ∧
  (∀ K : List UInt8, K.length = 4 → (∀ p ∈ al, p.1 ≠ kv K) → f K = []) ∧
  al.Pairwise (fun p q => p.2.ownBlock = none ∨ p.2.ownBlock ≠ q.2.ownBlock)

section
variable {w w' : World} {base : Nat} {T : TypeId} {f : List UInt8 → List Nat} {al : List (Value × Value)}
theorem Grp.keep (h : Grp w base T f al) (hk : ∀ p ∈ al, ∀ (n : Nat) xs, w.ownsRow base T 1 p.2 n xs → w'.ownsRow base T 1 p.2 n xs) : Grp w' base T f al :=
  ⟨fun p hp => by obtain ⟨K, h1, h2, h3⟩ := h.1 p hp; exact ⟨K, h1, h2, hk p hp _ _ h3⟩, h.2⟩
theorem Grp.belowW (h : Grp w base T f al) (hb : Below w.heap.size w w') : Grp w' base T f al := h.keep fun p _ n xs ho => own_belowW ho hb
theorem Grp.drewN (h : Grp w base T f al) (n : Nat) : Grp (w.drewN n) base T f al := h.keep fun _ _ _ _ ho => ho
theorem Grp.alloc (h : Grp w base T f al) (o : Obj) : Grp (w.alloc o) base T f al := h.keep fun _ _ _ _ ho => ho.alloc o
/-- The slice at a key, or none. -/
theorem Grp.at {K : List UInt8} {v0 : Value} (h : Grp w base T f al) (hK : K.length = 4) (hv : ((∀ p ∈ al, p.1 ≠ kv K) ∧ v0 = .slice none 0 0) ∨ (kv K, v0) ∈ al) : w.ownsRow base T 1 v0 (f K).length (ic (f K)) := by
  rcases hv with ⟨h1, rfl⟩ | hv
  · rw [h.2.1 K hK h1]
    exact ⟨by simp [ic], .inl ⟨rfl, rfl⟩⟩
  · obtain ⟨L, h1, h2, h3⟩ := h.1 _ hv
    have e : K = L := kv_inj h2
    rw [e]
    exact h3
/-- A place is laid behind those of its key: nothing else turns. -/
theorem Grp.put {K : List UInt8} {v0 v' : Value} {x : Nat} {al' : List (Value × Value)} (h : Grp w base T f al) (hnd : (al.map Prod.fst).Nodup) (hK : K.length = 4) (hv : ((∀ p ∈ al, p.1 ≠ kv K) ∧ v0 = .slice none 0 0) ∨ (kv K, v0) ∈ al)
    (hg : w.grownBy w' v0.ownBlock) (ho : w'.ownsRow base T 1 v' ((f K).length + 1) (ic (f K ++ [x]))) (hl : v'.ownBlock = v0.ownBlock ∨ ∃ g, v'.ownBlock = some g ∧ w.heap.size ≤ g) (hp : MPut al (kv K) v' al') :
    Grp w' base T (insAt f K x) al' := by
  have hne : ∀ p ∈ al, p.1 ≠ kv K → p.2.ownBlock = none ∨ p.2.ownBlock ≠ v0.ownBlock := by
    intro p hp hpk
    rcases hv with ⟨_, rfl⟩ | hv
    · cases hh : p.2.ownBlock with
      | none => exact .inl rfl
      | some g => exact .inr (by simp [Value.ownBlock])
    · obtain ⟨l, r, rfl⟩ := List.append_of_mem hv
      have hpw := List.pairwise_append.1 h.2.2
      rcases List.mem_append.1 hp with hp | hp
      · exact hpw.2.2 p hp (kv K, v0) (by simp)
      · rcases List.mem_cons.1 hp with rfl | hp
        · exact absurd rfl hpk
        · have := (List.pairwise_cons.1 hpw.2.1).1 p hp
          rcases this with h1 | h1
          · cases hh : p.2.ownBlock with
            | none => exact .inl rfl
            | some g => exact .inr (by rw [show v0.ownBlock = none from h1]; simp)
          · exact .inr fun e => h1 e.symm
  have hne' : ∀ p ∈ al, p.1 ≠ kv K → p.2.ownBlock = none ∨ p.2.ownBlock ≠ v'.ownBlock := by
    intro p hp hpk
    rcases hl with hl | ⟨g, hl, hgl⟩
    · rw [hl]; exact hne p hp hpk
    · cases hh : p.2.ownBlock with
      | none => exact .inl rfl
      | some k =>
        obtain ⟨L, _, _, h3⟩ := h.1 p hp
        have := (h3.lt k hh).2
        rw [hl]
        exact .inr (by intro e; injection e; omega)
  have hold : ∀ p ∈ al, p.1 ≠ kv K → ∃ L : List UInt8, L.length = 4 ∧ p.1 = kv L ∧ w'.ownsRow base T 1 p.2 (insAt f K x L).length (ic (insAt f K x L)) := by
    intro p hp hpk
    obtain ⟨L, h1, h2, h3⟩ := h.1 p hp
    have hLK : L ≠ K := fun e => hpk (by rw [h2, e])
    refine ⟨L, h1, h2, ?_⟩
    rw [insAt_other f x hLK]
    exact h3.kept hg (hne p hp hpk)
  have hnew : ∃ L : List UInt8, L.length = 4 ∧ kv K = kv L ∧ w'.ownsRow base T 1 v' (insAt f K x L).length (ic (insAt f K x L)) := by
    refine ⟨K, hK, rfl, ?_⟩
    rw [insAt_same, List.length_append, List.length_singleton]
    exact ho
  rcases hp with ⟨habs, rfl⟩ | ⟨l, r, u0, rfl, rfl⟩
  · refine ⟨fun p hp => ?_, fun L hL hno => ?_, ?_⟩
    · rcases List.mem_append.1 hp with hp | hp
      · exact hold p hp (habs p hp)
      · have e : p = (kv K, v') := by simpa using hp
        rw [e]
        exact hnew
    · have hLK : L ≠ K := fun e => hno (kv K, v') (by simp) (by rw [e])
      rw [insAt_other f x hLK]
      exact h.2.1 L hL fun p hp => hno p (by simp [hp])
    · refine List.pairwise_append.2 ⟨h.2.2, by simp, fun p hp q hq => ?_⟩
      have e : q = (kv K, v') := by simpa using hq
      rw [e]
      exact hne' p hp (habs p hp)
  · rw [List.map_append, List.map_cons] at hnd
    have hnd2 := List.nodup_append.1 hnd
    have hnd3 := List.nodup_cons.1 hnd2.2.1
    have hl1 : ∀ p ∈ l, p.1 ≠ kv K := fun p hp e => hnd2.2.2 _ (List.mem_map.2 ⟨p, hp, e⟩) _ (by simp) rfl
    have hr1 : ∀ p ∈ r, p.1 ≠ kv K := fun p hp e => hnd3.1 (List.mem_map.2 ⟨p, hp, e⟩)
    have hpw := List.pairwise_append.1 h.2.2
    refine ⟨fun p hp => ?_, fun L hL hno => ?_, ?_⟩
    · rcases List.mem_append.1 hp with hp | hp
      · exact hold p (by simp [hp]) (hl1 p hp)
      · rcases List.mem_cons.1 hp with rfl | hp
        · exact hnew
        · exact hold p (by simp [hp]) (hr1 p hp)
    · have hLK : L ≠ K := fun e => hno (kv K, v') (by simp) (by rw [e])
      rw [insAt_other f x hLK]
      refine h.2.1 L hL fun p hp => ?_
      rcases List.mem_append.1 hp with hp | hp
      · exact hno p (by simp [hp])
      · rcases List.mem_cons.1 hp with rfl | hp
        · exact fun e => hLK (kv_inj e).symm
        · exact hno p (by simp [hp])
    · refine List.pairwise_append.2 ⟨hpw.1, List.pairwise_cons.2 ⟨fun q hq => ?_, (List.pairwise_cons.1 hpw.2.1).2⟩, fun p hp q hq => ?_⟩
      · rcases hne' q (by simp [hq]) (hr1 q hq) with h1 | h1
        · cases hv' : v'.ownBlock with
          | none => exact .inl rfl
          | some g => exact .inr (by rw [h1]; simp)
        · exact .inr fun e => h1 e.symm
      · rcases List.mem_cons.1 hq with rfl | hq
        · exact hne' p (by simp [hp]) (hl1 p hp)
        · exact hpw.2.2 p hp q (by simp [hq])
end
end Go.Dol
namespace Go.Proofs.Ytjikoeokmdnciaa
open Go.RowKit Go.Dol
set_option linter.unusedVariables false

theorem four_law : Go.Maps.Keyed Try.prog 59 :=
  Go.Maps.Keyed.of_law (deep_law_laid (m := 2) (by kernel_rfl) (by decide) (of_decide_eq_true (by kernel_rfl)) (by kernel_rfl) (by rw [Try.underlying59]))
theorem four_key (K : List UInt8) (hK : K.length = 4) : ∃ kl, keyOf Try.prog 59 (kv K) = some kl :=
  keyOf_bytes (n := 4) Try.underlying59 (by kernel_rfl) (by kernel_rfl) Try.underlying5 (by kernel_rfl) ⟨Try.prog.types.size - 1, by kernel_rfl⟩ K hK
theorem ints_zero (w : World) : (zeroValue 57).run Try.prog w = .ok (.slice none 0 0) w := by kernel_rfl
theorem info_int : (Try.prog.info? 3).map (fun i => (i.zero, i.size, i.bytes)) = some (some (.int .i64 0), 1, 8) := by kernel_rfl

/-- What lies below one number stays, and so does every block of bytes. -/
structure Bk (T : TypeId) (base : Nat) (w w' : World) : Prop where
  below : Below base w w'
  keep : ∀ (g : Nat) (cs : Array Value) (fz : Nat × Nat), w.heap[g]? = some (Obj.cells cs T fz) → w'.heap[g]? = some (Obj.cells cs T fz)
section
variable {T : TypeId} {base : Nat} {a w w' : World}
theorem Bk.refl (T : TypeId) (base : Nat) (w : World) : Bk T base w w := ⟨Below.refl _ _, fun _ _ _ h => h⟩
theorem Bk.size (h : Bk T base w w') : w.heap.size ≤ w'.heap.size := h.below.size
theorem lt_of_heap {w : World} {g : Nat} {o : Obj} (h : w.heap[g]? = some o) : g < w.heap.size := (Array.getElem?_eq_some_iff.1 h).1
theorem Bk.transB (h : Bk T base a w) (hb : Below w.heap.size w w') (hs : base ≤ w.heap.size) : Bk T base a w' :=
  ⟨h.below.trans (hb.mono hs), fun g cs fz hg => (hb.block g (lt_of_heap (h.keep g cs fz hg))).trans (h.keep g cs fz hg)⟩
theorem Bk.trans (h : Bk T base a w) (hb : Bk T base w w') : Bk T base a w' := ⟨h.below.trans hb.below, fun g cs fz hg => hb.keep g cs fz (h.keep g cs fz hg)⟩
theorem Bk.drew (h : Bk T base a w) : Bk T base a w.drew := ⟨h.below.drew, h.keep⟩
theorem Bk.drewN' (h : Bk T base a w) (n : Nat) : Bk T base a (w.drewN n) := ⟨h.below.drewN' n, h.keep⟩
theorem Bk.alloc (h : Bk T base a w) (hs : base ≤ w.heap.size) (o : Obj) : Bk T base a (w.alloc o) := h.transB ((Below.refl w.heap.size w).alloc (Nat.le_refl _) o) hs
theorem Bk.grown {row : Option Nat} (h : Bk T base a w) (hg : w.grownBy w' row) (hB : base ≤ w.heap.size) (hr : ∀ k, row = some k → base ≤ k) (hn : ∀ k, row = some k → ∀ (cs : Array Value) (fz : Nat × Nat), w.heap[k]? ≠ some (Obj.cells cs T fz)) : Bk T base a w' :=
  ⟨h.below.grown hg hB hr, fun g cs fz hh => by
    have h1 := h.keep g cs fz hh
    exact (hg.block g (lt_of_heap h1) (fun e => hn g e.symm cs fz h1)).trans h1⟩
theorem Bk.setCell (h : Bk T base a w) {p : Addr} (hp : base ≤ p.block) (hn : ∀ (cs : Array Value) (fz : Nat × Nat), w.heap[p.block]? ≠ some (Obj.cells cs T fz)) (u : Value) : Bk T base a (w.setCell p u) :=
  ⟨h.below.setCell hp u, fun g cs fz hh => by
    have h1 := h.keep g cs fz hh
    exact (Below.heap_setCell w p u g (fun e => hn cs fz (e ▸ h1))).trans h1⟩
theorem Bk.own {n : Nat} {v : Value} {xs : List Value} {b0 size : Nat} (h : Bk T base w w') (ho : w.ownsRow b0 T size v n xs) : w'.ownsRow b0 T size v n xs :=
  ⟨ho.1, ho.2.imp id fun ⟨g, cap, cur, h1, h2, h3, h4⟩ => ⟨g, cap, cur, h1, h2, h.keep g cur _ h3, h4⟩⟩
theorem notU_map {w : World} {B : Nat} (h : MapAt w B) : ∀ k, some B = some k → ∀ (cs : Array Value) (fz : Nat × Nat), w.heap[k]? ≠ some (Obj.cells cs T fz) := by
  rintro k hk cs fz hh
  obtain ⟨es, cl, h⟩ := h
  injection hk with hk
  rw [← hk, h] at hh
  cases hh
theorem notU_blk {w : World} {g : Nat} {T' : TypeId} {cs' : List Value} (h : Blk w g T' cs') (hT : T' ≠ T) : ∀ (cs : Array Value) (fz : Nat × Nat), w.heap[g]? ≠ some (Obj.cells cs T fz) := by
  intro cs fz hh
  unfold Blk at h
  rw [h] at hh
  injection hh with hh
  injection hh with _ hh
  exact hT hh
theorem notU_own {w : World} {b0 : Nat} {T' : TypeId} {size n : Nat} {v : Value} {xs : List Value} (h : w.ownsRow b0 T' size v n xs) (hT : T' ≠ T) : ∀ k, v.ownBlock = some k → ∀ (cs : Array Value) (fz : Nat × Nat), w.heap[k]? ≠ some (Obj.cells cs T fz) := by
  intro k hk cs fz hh
  rcases h.2 with ⟨rfl, _⟩ | ⟨k', cap, cur, rfl, _, h3, _⟩
  · cases hk
  · have hk' : k' = k := by simpa [Value.ownBlock] using hk
    rw [hk', hh] at h3
    injection h3 with h3
    injection h3 with _ h3
    exact hT h3.symm
end
/-- A finder that knows the places below one. -/
def Fin (w : World) (base fb : Nat) (A : Option Addr) (b : List UInt8) (c n : Nat) : Prop :=
  ∃ (B : Nat) (al : List (Value × Value)), Blk w fb 47 [.slice A b.length c, .map (some B), .int .i64 (n : Nat)] ∧ MapL Try.prog 59 w B al ∧ Grp w base 3 (posOf b n) al ∧ base ≤ fb ∧ base ≤ B
theorem Fin.belowW {w w' : World} {base fb : Nat} {A : Option Addr} {b : List UInt8} {c n : Nat} (h : Fin w base fb A b c n) (hb : Below w.heap.size w w') : Fin w' base fb A b c n := by
  obtain ⟨B, al, h1, h2, h3, h4⟩ := h
  exact ⟨B, al, h1.below hb h1.lt, h2.belowW hb, h3.belowW hb, h4⟩

/-- 'mapEntry', at a step of a region that draws. -/
theorem entry_r {P : Program} {k e t : TypeId} {w : World} {ops : Array Oper} {o : Oper} {a : Act} {K : Act → World → Prop} {Q : Exit → Act → World → Prop} {E : Prop} (hgd : o.guard = none) (m x : Operand) (ho : o.op = .mapEntry t m x)
    {B : Nat} {al : List (Value × Value)} (h : MapL P k w B al) (hK : Go.Maps.Keyed P k) (ht : P.underlying t = some (.map k e)) {z : Value} (hz : ∀ u : World, (zeroValue e).run P u = .ok z u) {key : Value} (hkey : ∃ kl, keyOf P k key = some kl)
    (hm : a.eval m = .map (some B)) (hx : a.eval x = key)
    (hh : ∀ v0 (st : Nat) w1, w.grownBy w1 (some B) → MapAt w1 B → (((∀ p ∈ al, p.1 ≠ key) ∧ v0 = z) ∨ (key, v0) ∈ al) → Hid (∀ (w2 : World) (v : Value), w2.heap[B]? = w1.heap[B]? → ∃ al' w3, (Instr.entryStore t (.map (some B)) (goInt st) v).run P w2 = .ok () w3 ∧ MapL P k w3 B al' ∧ MPut al key v al' ∧ w2.grownBy w3 (some B)) →
      K (a.put o.dst (.tuple #[v0, .int .i64 (st : Nat)])) w1) : if Region.wanted o (yielded ops a.tmps) = true then Oper.wp P o a w K Q else E := by
  have hw : Region.wanted o (yielded ops a.tmps) = true := by simp [Region.wanted, hgd]
  rw [if_pos hw]
  obtain ⟨kl, hkey⟩ := hkey
  obtain ⟨v0, st, w1, hrun, h1, h1', h2, h3⟩ := h.entry hK ht hz hkey
  unfold Oper.wp execOp
  simp only [ho, hm, hx, Sem.run_bind, hrun, Result.andThen_ok, Sem.run_pure]
  exact hh v0 st w1 h1 h1' h2 h3
/-- 'entryStore', at such a step. -/
theorem estore_r {P : Program} {t : TypeId} {w : World} {ops : Array Oper} {o : Oper} {a : Act} {K : Act → World → Prop} {Q : Exit → Act → World → Prop} {E : Prop} (hgd : o.guard = none) (m s x : Operand) (ho : o.op = .entryStore t m s x)
    {B st : Nat} {v : Value} {w3 : World} (hm : a.eval m = .map (some B)) (hs : a.eval s = .int .i64 (st : Nat)) (hx : a.eval x = v) (hrun : (Instr.entryStore t (.map (some B)) (goInt st) v).run P w = .ok () w3)
    (hh : K (a.put o.dst undef) w3) : if Region.wanted o (yielded ops a.tmps) = true then Oper.wp P o a w K Q else E := by
  have hw : Region.wanted o (yielded ops a.tmps) = true := by simp [Region.wanted, hgd]
  rw [if_pos hw]
  have hs' : a.eval s = goInt (st : Nat) := hs
  unfold Oper.wp execOp
  simp only [ho, hm, hs', hx, Sem.run_bind, hrun, Result.andThen_ok, Sem.run_pure]
  exact hh

/-- append onto elements of one cell, at such a step: where the new slice lies, too. -/
theorem appLr {P : Program} {w : World} {ops : Array Oper} {o : Oper} {a : Act} {K : Act → World → Prop} {Q : Exit → Act → World → Prop} {E : Prop} (hgd : o.guard = none) (s x : Operand) (t e : TypeId) (z : Value) (bytes : Nat)
    (ho : o.op = .call { callee := .builtin .append, args := #[s, x], argTypes := #[t, t] })
    (ht : P.underlying t = some (.slice e)) (hi : (P.info? e).map (fun i => (i.zero, i.size, i.bytes)) = some (some z, 1, bytes)) (hzs : z.cells.size = 1)
    (base : Nat) (v : Value) (n : Nat) (xs : List Value) (hs : a.eval s = v) (hown : w.ownsRow base e 1 v n xs)
    (B : Nat) (A : Option Addr) (m c : Nat) (news : List Value) (hx : a.eval x = .slice A m c) (hr : Rd w B 1 A m news) (h1 : ∀ u ∈ news, u.oneCell' = true)
    (hmax : n + m ≤ maxLen) (hlen : (n + m) * bytes ≤ 140737488355328) (hbase : base ≤ w.heap.size)
    (h : ∀ (A' : Option Addr) (c' : Nat) (w' : World), w'.ownsRow base e 1 (.slice A' (n + m) c') (n + m) (xs ++ news) → w.grownBy w' v.ownBlock → Hid ((Value.slice A' (n + m) c').ownBlock = v.ownBlock ∨ (Value.slice A' (n + m) c').ownBlock = some w.heap.size) →
      K (a.put o.dst (.slice A' (n + m) c')) w') : if Region.wanted o (yielded ops a.tmps) = true then Oper.wp P o a w K Q else E := by
  have hw : Region.wanted o (yielded ops a.tmps) = true := by simp [Region.wanted, hgd]
  rw [if_pos hw]
  refine wp_append_rd w s x _ ho base _ _ 1 bytes ht hi hzs (by decide) v n xs hs hown B A m c news hx hr h1 hmax hlen hbase ?_
  intro A' c' w' h1 h2 h3 h4 h5
  exact h _ c' w' h1 h2 h3
theorem Rd.cellOne {w : World} {g : Nat} {u : Value} (hc : w.cell? ⟨g, 0, none⟩ = some u) : Rd w (g + 1) 1 (some ⟨g, 0, none⟩) 1 [u] := by
  refine ⟨by simp, fun _ => ⟨g, 0, rfl, by omega, fun j u' hu => ?_⟩⟩
  have hj : j < 1 := by have := (List.getElem?_eq_some_iff.1 hu).1; simpa using this
  obtain rfl : j = 0 := by omega
  have : u' = u := by simpa using hu.symm
  rw [this]
  exact hc
theorem posOf_ins (b : List UInt8) (n : Nat) (K : List UInt8) (h : (b.drop n).take 4 = K) : posOf b (n + 1) = insAt (posOf b n) K n := by
  funext L
  rw [posOf_succ, h]
  unfold insAt
  by_cases e : L = K
  · rw [if_pos e.symm, if_pos e]
  · rw [if_neg (fun h => e h.symm), if_neg e, List.append_nil]
theorem cutA {wq w5 : World} {x0 x1 x2 x3 : UInt8} (hb5 : Below (World.drew wq).heap.size (World.drew wq) w5) :
    wq.heap.size ≤ w5.heap.size ∧ Blk (w5.alloc (.cells #[.int .u8 x0.toNat, .int .u8 x1.toNat, .int .u8 x2.toNat, .int .u8 x3.toNat] 59)) w5.heap.size 59 [.int .u8 x0.toNat, .int .u8 x1.toNat, .int .u8 x2.toNat, .int .u8 x3.toNat] ∧
    Below wq.heap.size wq (w5.alloc (.cells #[.int .u8 x0.toNat, .int .u8 x1.toNat, .int .u8 x2.toNat, .int .u8 x3.toNat] 59)) :=
  ⟨hb5.size, Blk.new w5 _ [_, _, _, _], ((Below.refl wq.heap.size wq).drew.trans hb5).alloc hb5.size _⟩
theorem cutB {wq w5 : World} {x0 x1 x2 x3 : UInt8} (hb5 : Below (World.drew (wq.alloc (.cells #[.int .u8 0, .int .u8 0, .int .u8 0, .int .u8 0] 59))).heap.size (World.drew (wq.alloc (.cells #[.int .u8 0, .int .u8 0, .int .u8 0, .int .u8 0] 59))) w5) :
    wq.heap.size ≤ wq.heap.size ∧ Blk ((((w5.setCell ⟨wq.heap.size, 0, none⟩ (.int .u8 x0.toNat)).setCell ⟨wq.heap.size, 1, none⟩ (.int .u8 x1.toNat)).setCell ⟨wq.heap.size, 2, none⟩ (.int .u8 x2.toNat)).setCell ⟨wq.heap.size, 3, none⟩ (.int .u8 x3.toNat)) wq.heap.size 59 [.int .u8 x0.toNat, .int .u8 x1.toNat, .int .u8 x2.toNat, .int .u8 x3.toNat] ∧
    Below wq.heap.size wq ((((w5.setCell ⟨wq.heap.size, 0, none⟩ (.int .u8 x0.toNat)).setCell ⟨wq.heap.size, 1, none⟩ (.int .u8 x1.toNat)).setCell ⟨wq.heap.size, 2, none⟩ (.int .u8 x2.toNat)).setCell ⟨wq.heap.size, 3, none⟩ (.int .u8 x3.toNat)) := by
  have h0 : Blk (World.drew (wq.alloc (.cells #[.int .u8 0, .int .u8 0, .int .u8 0, .int .u8 0] 59))) wq.heap.size 59 [.int .u8 0, .int .u8 0, .int .u8 0, .int .u8 0] := (Blk.new wq 59 [_, _, _, _]).drew
  have h1 := h0.below hb5 h0.lt
  have hb : Below wq.heap.size wq w5 := (((Below.refl wq.heap.size wq).alloc (Nat.le_refl _) _).drew).trans (hb5.mono (by show wq.heap.size ≤ (wq.alloc _).heap.size; simp))
  exact ⟨Nat.le_refl _, (((h1.set 0 _).set 1 _).set 2 _).set 3 _, (((hb.setCell (Nat.le_refl _) _).setCell (Nat.le_refl _) _).setCell (Nat.le_refl _) _).setCell (Nat.le_refl _) _⟩
/-- A place is learned. -/
theorem know_step {w wa w2 w3 : World} {base fb B c n : Nat} {A A' : Option Addr} {b K : List UInt8} {al al' : List (Value × Value)} {v0 : Value} {c' : Nat} (hK : (b.drop n).take 4 = K) (hK4 : K.length = 4)
    (hblk : Blk wa fb 47 [.slice A b.length c, .map (some B), .int .i64 (n : Nat)]) (hgrp : Grp wa base 3 (posOf b n) al) (hnd : (al.map Prod.fst).Nodup) (hat : MapAt wa B)
    (hor : ((∀ p ∈ al, p.1 ≠ kv K) ∧ v0 = .slice none 0 0) ∨ (kv K, v0) ∈ al) (hg2 : wa.grownBy w2 v0.ownBlock) (ho2 : w2.ownsRow base 3 1 (.slice A' ((posOf b n K).length + 1) c') ((posOf b n K).length + 1) (ic (posOf b n K) ++ [.int .i64 (n : Nat)]))
    (hl : Hid ((Value.slice A' ((posOf b n K).length + 1) c').ownBlock = v0.ownBlock ∨ (Value.slice A' ((posOf b n K).length + 1) c').ownBlock = some wa.heap.size)) (hmap3 : MapL Try.prog 59 w3 B al') (hput : MPut al (kv K) (.slice A' ((posOf b n K).length + 1) c') al')
    (hg3 : w2.grownBy w3 (some B)) (hbel : Bk 5 base w wa) (hbf : base ≤ fb) (hbB : base ≤ B) (hbs : base ≤ wa.heap.size) :
    ∃ al', Blk w3 fb 47 [.slice A b.length c, .map (some B), .int .i64 (n : Nat)] ∧ MapL Try.prog 59 w3 B al' ∧ Grp w3 base 3 (posOf b (n + 1)) al' ∧ Bk 5 base w w3 := by
  have hown := hgrp.at hK4 hor
  have hneB : v0.ownBlock ≠ some B := hat.own_ne hown
  have hat2 : MapAt w2 B := hat.keepB (hg2.block B hat.lt (fun e => hneB e.symm))
  have hne : fb ≠ B := by
    rintro rfl
    obtain ⟨es, cl, hh⟩ := hat
    unfold Blk at hblk
    rw [hblk] at hh
    cases hh
  refine ⟨al', (hblk.grown hg2 (fun e => own_ne hown hblk (by decide) e.symm)).grown hg3 (fun e => hne (by injection e)), hmap3, ?_, ?_⟩
  · rw [posOf_ins b n K hK]
    have hic : ic (posOf b n K ++ [n]) = ic (posOf b n K) ++ [.int .i64 (n : Nat)] := by simp [ic]
    exact (hgrp.put hnd hK4 hor hg2 (by rw [hic]; exact ho2) (hl.out.imp id fun h => ⟨_, h, Nat.le_refl _⟩) hput).keep fun p _ m xs ho => hat2.kept ho hg3
  · have hb2 : Bk 5 base w w2 := hbel.grown hg2 hbs (fun k hk => (hown.lt k hk).1) (notU_own hown (by decide))
    exact hb2.grown hg3 (Nat.le_trans hbs hg2.size) (fun k hk => by injection hk with hk; omega) (notU_map hat2)

theorem know_next {w w3 : World} {base fb B c n : Nat} {A : Option Addr} {b : List UInt8} {al : List (Value × Value)} (hb : Blk w3 fb 47 [.slice A b.length c, .map (some B), .int .i64 (n : Nat)]) (hm : MapL Try.prog 59 w3 B al) (hg : Grp w3 base 3 (posOf b (n + 1)) al) (hbel : Bk 5 base w w3)
    (hbf : base ≤ fb) (hbB : base ≤ B) : Fin (w3.setCell ⟨fb, 2, none⟩ (.int .i64 ((n : Int) + 1))) base fb A b c (n + 1) ∧ Bk 5 base w (w3.setCell ⟨fb, 2, none⟩ (.int .i64 ((n : Int) + 1))) := by
  have hG : w3.grownBy (w3.setCell ⟨fb, 2, none⟩ (.int .i64 ((n : Int) + 1))) (some fb) := grown_setCell (World.grownBy.refl _ _) _ _
  have h1 := hb.set 2 (.int .i64 ((n : Int) + 1))
  exact ⟨⟨B, al, h1, hm.far (p := ⟨fb, 2, none⟩) (fun e => hm.blk_ne hb e.symm) _, hg.keep fun p _ k xs ho => own_other ho hb (by decide) hG, hbf, hbB⟩, hbel.setCell (p := ⟨fb, 2, none⟩) hbf (notU_blk hb (by decide)) _⟩

theorem at_lit (A : Option Addr) (b : List UInt8) (c i : Nat) (w : World) (x0 x1 x2 x3 : UInt8) (hK : Hid ((b.drop i).take 4 = [x0, x1, x2, x3])) (hr : Rd w w.heap.size 1 A b.length (bc b)) (hb : b.length ≤ 140737488355328) (hc : b.length ≤ c) (hi : i + 4 ≤ b.length) :
    Calls Try.prog 43 #[.slice A b.length c, .int .i64 i] w fun e w' => e = .returned (.agg #[.int .u8 x0.toNat, .int .u8 x1.toNat, .int .u8 x2.toNat, .int .u8 x3.toNat]) ∧ Below w.heap.size w w' := by
  refine (at_calls A b c i w hr hb hc hi).mono ?_
  rintro e w' ⟨rfl, h⟩
  rw [hK.out]
  exact ⟨rfl, h⟩

set_option maxRecDepth 100000 in
set_option maxHeartbeats 4000000 in
theorem know_calls (base fb : Nat) (A : Option Addr) (b : List UInt8) (c n i : Nat) (w : World) (hf : Fin w base fb A b c n) (hr : Rd w base 1 A b.length (bc b)) (hb : b.length ≤ 1048576) (hc : b.length ≤ c) (hni : n ≤ i) (hi : i + 4 ≤ b.length) :
    Calls Try.prog 42 #[.pointer (some ⟨fb, 0, none⟩), .int .i64 i] w fun e w' => e = .returned (.tuple #[]) ∧ Fin w' base fb A b c i ∧ Bk 5 base w w' := by
  have hz0 : base ≤ w.heap.size := by obtain ⟨B, al, h1, _, _, h4, _⟩ := hf; have := h1.lt; omega
  go_enter Try.func42, Try.ntmps42
  go_wp2_with fail
  go_loopg [] (i - n) (fun k wr => ∃ n', k = i - n' ∧ n' ≤ i ∧ Fin wr base fb A b c n' ∧ Bk 5 base w wr)
  case atStart => exact ⟨n, rfl, hni, hf, Bk.refl _ _ _⟩
  case round =>
    clear hf hni
    obtain ⟨n', rfl, hni, hf, hbel⟩ := hrel
    obtain ⟨B, al, hblk, hmap, hgrp, hbf, hbB⟩ := hf
    have hs := hbel.size
    have c0 : wr.cell? ⟨fb, 0, none⟩ = some (.slice A b.length c) := by rw [hblk.cell]; rfl
    have c2 : wr.cell? ⟨fb, 2, none⟩ = some (.int .i64 (n' : Nat)) := by rw [hblk.cell]; rfl
    have f1 : IntKind.i64.wrap ((n' : Int) + 4) = (n' : Int) + 4 := IntWalk.i64_in _ (by omega)
    by_cases hlt : n' < i
    · have d1 : decide ((n' : Int) < (i : Int)) = true := by simp; omega
      have d1' : (n' : Int) < (i : Int) := by omega
      have d2 : decide ((n' : Int) + 4 ≤ (b.length : Int)) = true := by simp; omega
      have d2' : (n' : Int) + 4 ≤ (b.length : Int) := by omega
      go_wp2_with fail
      go_quiet (fail)
      go_wp2_with fail
      obtain ⟨wq, hwq⟩ : ∃ wq, wq = wr.drewN nq := ⟨_, rfl⟩
      have hblkq : Blk wq fb 47 [.slice A b.length c, .map (some B), .int .i64 (n' : Nat)] := by rw [hwq]; exact hblk.drewN nq
      have hmapq : MapL Try.prog 59 wq B al := by rw [hwq]; exact hmap.drewN nq
      have hgrpq : Grp wq base 3 (posOf b n') al := by rw [hwq]; exact hgrp.drewN nq
      have hbelq : Bk 5 base w wq := by rw [hwq]; exact hbel.drewN' nq
      rw [← hwq]
      clear hwq hblk hmap hgrp hbel c0 c2 hs
      have hsq := hbelq.size
      have hlb := hblkq.lt
      have c0 : wq.cell? ⟨fb, 0, none⟩ = some (.slice A b.length c) := by rw [hblkq.cell]; rfl
      have c2 : wq.cell? ⟨fb, 2, none⟩ = some (.int .i64 (n' : Nat)) := by rw [hblkq.cell]; rfl
      have hrq : Rd wq wq.heap.size 1 A b.length (bc b) := (hr.below hbelq.below).more (by omega)
      have hK4 := take_four (b := b) (i := n') (by omega)
      obtain ⟨x0, hx0⟩ : ∃ x, x = b[n'] := ⟨_, rfl⟩
      obtain ⟨x1, hx1⟩ : ∃ x, x = b[n' + 1] := ⟨_, rfl⟩
      obtain ⟨x2, hx2⟩ : ∃ x, x = b[n' + 2] := ⟨_, rfl⟩
      obtain ⟨x3, hx3⟩ : ∃ x, x = b[n' + 3] := ⟨_, rfl⟩
      rw [← hx0, ← hx1, ← hx2, ← hx3] at hK4
      have HK4 := Lib.hid hK4
      clear hx0 hx1 hx2 hx3 hK4
      have hnew0 := World.new_ne wq _ c0
      have hnew2 := World.new_ne wq _ c2
      go_cut [4] (fun v wx => ∃ lb : Nat, v = .pointer (some ⟨lb, 0, none⟩) ∧ wq.heap.size ≤ lb ∧ Blk wx lb 59 [.int .u8 x0.toNat, .int .u8 x1.toNat, .int .u8 x2.toNat, .int .u8 x3.toNat] ∧ Below wq.heap.size wq wx)
      case first =>
        go_region_with
          ((go_at_call 43; refine (at_lit A b c n' _ x0 x1 x2 x3 HK4 ?_ (by omega) hc (by omega)).mono ?_; (first | exact hrq.drew | exact ((hrq.alloc (Nat.le_refl _) _).more (by simp)).drew); rintro e w5 ⟨rfl, hb5⟩; have hz5 := hb5.size; have hl5 : wq.heap.size ≤ w5.heap.size := (by simp at hz5; omega); have hn5 : fb ≠ w5.heap.size := (by omega); have hn6 : ¬ w5.heap.size = fb := (by omega); have hn7 : fb ≠ wq.heap.size := (by omega); have hn8 : ¬ wq.heap.size = fb := (by omega); obtain ⟨hbc5, hbf5⟩ := Go.Dol.bcell hb5))
        all_goals
          go_wp2_with fail
          go_meet
          first
            | (have hA := (by with_reducible exact cutA (wq := wq) (w5 := w5) (x0 := x0) (x1 := x1) (x2 := x2) (x3 := x3) hb5); exact ⟨w5.heap.size, rfl, hA⟩)
            | (have hA := cutB (wq := wq) (w5 := w5) (x0 := x0) (x1 := x1) (x2 := x2) (x3 := x3) hb5; exact ⟨wq.heap.size, rfl, hA⟩)
      case rest =>
        obtain ⟨lb, rfl, hlb1, hlblk, hcb⟩ := hcut
        have hblkc := hblkq.below hcb hlb
        have hmapc := hmapq.belowW hcb
        have hgrpc := hgrpq.belowW hcb
        have hbelc : Bk 5 base w wc := hbelq.transB hcb (by omega)
        have hsc := hbelc.size
        clear hblkq hmapq hgrpq hbelq c0 c2 hrq hnew0 hnew2 hcb
        go_wp2_with fail
        have c1 : wc.cell? ⟨fb, 1, none⟩ = some (.map (some B)) := by rw [hblkc.cell]; rfl
        have c2 : wc.cell? ⟨fb, 2, none⟩ = some (.int .i64 (n' : Nat)) := by rw [hblkc.cell]; rfl
        have l0 : wc.cell? ⟨lb, 0, none⟩ = some (.int .u8 x0.toNat) := by rw [hlblk.cell]; rfl
        have l1 : wc.cell? ⟨lb, 1, none⟩ = some (.int .u8 x1.toNat) := by rw [hlblk.cell]; rfl
        have l2 : wc.cell? ⟨lb, 2, none⟩ = some (.int .u8 x2.toNat) := by rw [hlblk.cell]; rfl
        have l3 : wc.cell? ⟨lb, 3, none⟩ = some (.int .u8 x3.toNat) := by rw [hlblk.cell]; rfl
        have hnew1 := World.new_ne wc _ c1
        have hnewl := World.new_ne wc _ l0
        have hltB := hmapc.lt
        have hltf := hblkc.lt
        have hneB : some fb ≠ some B := fun e => hmapc.blk_ne hblkc (by injection e)
        have hneL : some lb ≠ some B := fun e => hmapc.blk_ne hlblk (by injection e)
        have hneS : some wc.heap.size ≠ some B := fun e => by injection e; omega
        have hkey : Hid (∃ kl, keyOf Try.prog 59 (.agg #[.int .u8 x0.toNat, .int .u8 x1.toNat, .int .u8 x2.toNat, .int .u8 x3.toNat]) = some kl) := four_key [x0, x1, x2, x3] rfl
        have hlenK := posOf_length b n' [x0, x1, x2, x3]
        have hWm := (hmapc.alloc (.cells #[.int .i64 (n' : Nat)] 3)).drew
        have hWb := (hblkc.alloc (.cells #[.int .i64 (n' : Nat)] 3)).drew
        have hWg : Grp (World.drew (wc.alloc (.cells #[.int .i64 (n' : Nat)] 3))) base 3 (posOf b n') al := (hgrpc.alloc (.cells #[.int .i64 (n' : Nat)] 3)).drewN 1
        have hWbel : Bk 5 base w (World.drew (wc.alloc (.cells #[.int .i64 (n' : Nat)] 3))) := (hbelc.alloc (by omega) _).drew
        have hWs : (World.drew (wc.alloc (.cells #[.int .i64 (n' : Nat)] 3))).heap.size = wc.heap.size + 1 := by show (wc.alloc _).heap.size = _; simp
        have hWc : (World.drew (wc.alloc (.cells #[.int .i64 (n' : Nat)] 3))).cell? ⟨wc.heap.size, 0, none⟩ = some (.int .i64 (n' : Nat)) := by rw [(Blk.new wc 3 [.int .i64 (n' : Nat)]).drew.cell]; rfl
        obtain ⟨kl, hkl⟩ := hkey.out
        obtain ⟨v0, st, w1, hent, hg1, hat1, hor1, hst1⟩ := hWm.entry four_law Try.underlying45 ints_zero hkl
        have hent' : (Instr.mapEntry 45 (.map (some B)) (.agg #[.int .u8 x0.toNat, .int .u8 x1.toNat, .int .u8 x2.toNat, .int .u8 x3.toNat])).run Try.prog (World.drew (wc.alloc (.cells #[.int .i64 (n' : Nat)] 3))) = .ok (.tuple #[v0, .int .i64 (st : Nat)]) w1 := hent
        have hB1 := hWb.grown hg1 hneB
        have hgr1 : Grp w1 base 3 (posOf b n') al := hWg.keep (fun p _ n xs ho => hWm.is.kept ho hg1)
        have hbel1 : Bk 5 base w w1 := hWbel.grown hg1 (by omega) (fun k hk => by injection hk with hk; omega) (notU_map hWm.is)
        have hc1 : w1.cell? ⟨wc.heap.size, 0, none⟩ = some (.int .i64 (n' : Nat)) := (World.cell?_of_block (hg1.block wc.heap.size (by omega) hneS)).trans hWc
        have hs1 := hg1.size
        have hown1 := hgr1.at (K := [x0, x1, x2, x3]) rfl hor1
        have hnd := hWm.nodup
        have HS := Lib.hid hst1
        have HWS := Lib.hid hWs
        have hs1b : base ≤ w1.heap.size := by omega
        have hLa := hlblk.alloc (.cells #[.int .i64 (n' : Nat)] 3)
        have hFa := hblkc.alloc (.cells #[.int .i64 (n' : Nat)] 3)
        have la0 : (wc.alloc (.cells #[.int .i64 (n' : Nat)] 3)).cell? ⟨lb, 0, none⟩ = some (.int .u8 x0.toNat) := by rw [hLa.cell]; rfl
        have la1 : (wc.alloc (.cells #[.int .i64 (n' : Nat)] 3)).cell? ⟨lb, 1, none⟩ = some (.int .u8 x1.toNat) := by rw [hLa.cell]; rfl
        have la2 : (wc.alloc (.cells #[.int .i64 (n' : Nat)] 3)).cell? ⟨lb, 2, none⟩ = some (.int .u8 x2.toNat) := by rw [hLa.cell]; rfl
        have la3 : (wc.alloc (.cells #[.int .i64 (n' : Nat)] 3)).cell? ⟨lb, 3, none⟩ = some (.int .u8 x3.toNat) := by rw [hLa.cell]; rfl
        have fa1 : (wc.alloc (.cells #[.int .i64 (n' : Nat)] 3)).cell? ⟨fb, 1, none⟩ = some (.map (some B)) := by rw [hFa.cell]; rfl
        clear hst1 hent hWs hWb hWg hWm hWbel hWc hLa hFa
        go_region_law ((refine appLr (by rfl) (.tmp 45) (.tmp 50) 57 3 _ 8 (by rfl) Try.underlying57 info_int rfl base v0 (posOf b n' [x0, x1, x2, x3]).length (ic (posOf b n' [x0, x1, x2, x3])) (by rfl) (w := w1) hown1 (wc.heap.size + 1) _ 1 1 [.int .i64 (n' : Nat)] (by rfl) (Rd.cellOne hc1) (by simp [Value.oneCell']) (by unfold maxLen; omega) (by omega) hs1b ?_; intro A' c' w2 ho2 hg2 hl2; obtain ⟨al', w3, hrun3, hmap3, hput3, hg3⟩ := HS.out w2 (.slice A' ((posOf b n' [x0, x1, x2, x3]).length + 1) c') (hg2.block B hat1.lt (fun e => hat1.own_ne hown1 e.symm)); have hrun3' : (Instr.entryStore 45 (.map (some B)) (.int .i64 (st : Nat)) (.slice A' ((posOf b n' [x0, x1, x2, x3]).length + 1) c')).run Try.prog w2 = .ok () w3 := hrun3))
        all_goals
          obtain ⟨al2, hb3, hm3, hgr3, hbel3⟩ := know_step HK4.out rfl hB1 hgr1 hnd hat1 hor1 hg2 ho2 hl2 hmap3 hput3 hg3 hbel1 hbf hbB hs1b
          have hnx := know_next hb3 hm3 hgr3 hbel3 hbf hbB
          have c23 : w3.cell? ⟨fb, 2, none⟩ = some (.int .i64 (n' : Nat)) := by rw [hb3.cell]; rfl
          have fr23 := hb3.free 2
          have HNX := Lib.hid hnx
          clear hnx hb3 hm3 hgr3 hbel3 hB1 hgr1 hnd hat1 hor1 hg2 ho2 hl2 hmap3 hput3 hg3 hbel1 la0 la1 la2 la3 fa1 c1 c2 l0 l1 l2 l3 hent' hrun3 hrun3' hc1 hown1
          go_wp2_with fail
          go_roundg (i - (n' + 1))
          case measure => omega
          case rel => exact ⟨n' + 1, rfl, by omega, HNX.out.1, HNX.out.2⟩
    · have d1 : decide ((n' : Int) < (i : Int)) = false := by simp; omega
      have d1' : (i : Int) ≤ (n' : Int) := by omega
      have hin : n' = i := by omega
      have HI := Lib.hid hin
      clear hin
      go_wp2_with fail
      go_quiet (fail)
      go_wp2_with fail
      go_end0
      refine ⟨rfl, ?_, hbel.drewN' nq⟩
      rw [← HI.out]
      exact ⟨B, al, hblk.drewN nq, hmap.drewN nq, hgrp.drewN nq, hbf, hbB⟩
end Go.Proofs.Ytjikoeokmdnciaa
