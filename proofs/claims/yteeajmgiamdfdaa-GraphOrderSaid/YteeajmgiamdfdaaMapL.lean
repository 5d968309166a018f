/- A map of the call's own, known by its entries in the order in which they came; its operations as laws on that list. Conditions: none beyond what each law names. -/
import Derived.Test.YteeajmgiamdfdaaSeg2
import Derived.Maps.OwnOps
import Derived.DeepKeys4
import Derived.WideKeyEntry
namespace Go.Dol
open Go.RowKit Go.MapKept
open Go.Maps (Keyed)
open Go.ChangeMaps (setBlock heap_setBlock_same heap_setBlock_other modify_eq_set)

/-- Block B holds a map of just these entries. -/
def MapL (P : Program) (k : TypeId) (w : World) (B : Nat) (al : List (Value × Value)) : Prop :=
  ∃ es clock, w.heap[B]? = some (.map es clock) ∧ Stamped es clock ∧ (∀ e ∈ es.toList, ∃ l, keyOf P k e.key = some l) ∧ es.toList.map (fun e => (e.key, e.val)) = al
/-- What becomes of the entries where a value is put at a key. -/
def MPut (al : List (Value × Value)) (key v : Value) (al' : List (Value × Value)) : Prop :=
  ((∀ p ∈ al, p.1 ≠ key) ∧ al' = al ++ [(key, v)]) ∨ ∃ l r v0, al = l ++ (key, v0) :: r ∧ al' = l ++ (key, v) :: r

/-- Block B holds some map. -/
def MapAt (w : World) (B : Nat) : Prop := ∃ es clock, w.heap[B]? = some (.map es clock)
theorem MapAt.own_ne {w : World} {B base : Nat} {e : TypeId} {size : Nat} {v : Value} {n : Nat} {xs : List Value} (h : MapAt w B) (ho : w.ownsRow base e size v n xs) : v.ownBlock ≠ some B := by
  obtain ⟨es, clock, hb⟩ := h
  intro hv
  rcases ho.2 with ⟨rfl, _⟩ | ⟨g, cap, cur, rfl, _, hh, _⟩
  · cases hv
  · have hv' : g = B := by simpa [Value.ownBlock] using hv
    rw [hv', hb] at hh
    cases hh
theorem MapAt.kept {w w' : World} {B base : Nat} {e : TypeId} {size : Nat} {v : Value} {n : Nat} {xs : List Value} (h : MapAt w B) (ho : w.ownsRow base e size v n xs) (hg : w.grownBy w' (some B)) : w'.ownsRow base e size v n xs :=
  ho.kept hg (.inr (h.own_ne ho))
theorem MapAt.keepB {w w' : World} {B : Nat} (h : MapAt w B) (hk : w'.heap[B]? = w.heap[B]?) : MapAt w' B := by
  obtain ⟨es, clock, hb⟩ := h
  exact ⟨es, clock, hk.trans hb⟩
theorem MapAt.lt {w : World} {B : Nat} (h : MapAt w B) : B < w.heap.size := by
  obtain ⟨es, clock, hb⟩ := h
  exact (Array.getElem?_eq_some_iff.1 hb).1

section
variable {P : Program} {k e t : TypeId} {w w' : World} {B : Nat} {al : List (Value × Value)}
theorem MapL.is (h : MapL P k w B al) : MapAt w B := by
  obtain ⟨es, clock, hb, _⟩ := h
  exact ⟨es, clock, hb⟩
theorem MapL.lt (h : MapL P k w B al) : B < w.heap.size := by
  obtain ⟨es, clock, hb, _⟩ := h
  exact (Array.getElem?_eq_some_iff.1 hb).1
theorem MapL.keepB (h : MapL P k w B al) (hk : w'.heap[B]? = w.heap[B]?) : MapL P k w' B al := by
  obtain ⟨es, clock, hb, h2⟩ := h
  exact ⟨es, clock, hk.trans hb, h2⟩
theorem MapL.below {N : Nat} (h : MapL P k w B al) (hb : Below N w w') (hB : B < N) : MapL P k w' B al := h.keepB (hb.block B hB)
theorem MapL.belowW (h : MapL P k w B al) (hb : Below w.heap.size w w') : MapL P k w' B al := h.keepB (hb.block B h.lt)
theorem MapL.grown {row : Option Nat} (h : MapL P k w B al) (hb : w.grownBy w' row) (hr : some B ≠ row) : MapL P k w' B al := h.keepB (hb.block B h.lt hr)
theorem MapL.drew (h : MapL P k w B al) : MapL P k w.drew B al := h
theorem MapL.drewN (h : MapL P k w B al) (n : Nat) : MapL P k (w.drewN n) B al := h
theorem MapL.alloc (h : MapL P k w B al) (o : Obj) : MapL P k (w.alloc o) B al := h.keepB (Below.heap_alloc w o B h.lt)
theorem MapL.far (h : MapL P k w B al) {p : Addr} (hp : B ≠ p.block) (u : Value) : MapL P k (w.setCell p u) B al := h.keepB (Below.heap_setCell w p u B hp)
theorem MapL.new (w : World) : MapL P k (w.alloc (.map #[] 0)) w.heap.size [] := ⟨#[], 0, heap_alloc_new w _, stamped_empty 0, by simp, rfl⟩
theorem MapL.nodup (h : MapL P k w B al) : (al.map Prod.fst).Nodup := by
  obtain ⟨es, clock, _, ⟨_, _, h3⟩, _, rfl⟩ := h
  rw [List.map_map]
  exact h3
/-- What is owned does not lie in a map's block, nor does a block of cells. -/
theorem MapL.own_ne {base : Nat} {e : TypeId} {size : Nat} {v : Value} {n : Nat} {xs : List Value} (h : MapL P k w B al) (ho : w.ownsRow base e size v n xs) : v.ownBlock ≠ some B := by
  obtain ⟨es, clock, hb, _⟩ := h
  intro hv
  rcases ho.2 with ⟨rfl, _⟩ | ⟨g, cap, cur, rfl, _, hh, _⟩
  · cases hv
  · have hv' : g = B := by simpa [Value.ownBlock] using hv
    rw [hv', hb] at hh
    cases hh
theorem MapL.blk_ne {g : Nat} {T : TypeId} {cs : List Value} (h : MapL P k w B al) (hb : Blk w g T cs) : g ≠ B := by
  obtain ⟨es, clock, h1, _⟩ := h
  rintro rfl
  unfold Blk at hb
  rw [hb] at h1
  cases h1

theorem grown_setBlock {es : Array MapEntry} {clock : Nat} (hb : w.heap[B]? = some (.map es clock)) (o : Obj) : w.grownBy (setBlock w B o) (some B) :=
  ⟨rfl, rfl, rfl, by simp [setBlock], fun i _ hi => heap_setBlock_other hb o (fun e => hi (by rw [e]))⟩

/-- 'm[k]' and 'v, ok := m[k]'. -/
theorem MapL.look (h : MapL P k w B al) (K : Keyed P k) (ht : P.underlying t = some (.map k e)) {z : Value} (hz : (zeroValue e).run P w = .ok z w) {key : Value} {kl : Lit} (hkey : keyOf P k key = some kl) (ok : Bool) :
    ((∀ p ∈ al, p.1 ≠ key) ∧ (Instr.lookup t (.map (some B)) key ok).run P w = .ok (if ok then .tuple #[z, .bool false] else z) w) ∨
    ∃ v, (key, v) ∈ al ∧ (Instr.lookup t (.map (some B)) key ok).run P w = .ok (if ok then .tuple #[v, .bool true] else v) w := by
  obtain ⟨es, clock, hb, hs, hk, rfl⟩ := h
  rcases K.find w hkey es.toList hk with ⟨h1, h2⟩ | ⟨j, e0, h1, h2, h3⟩
  · refine .inl ⟨fun p hp => ?_, ?_⟩
    · obtain ⟨x, hx, rfl⟩ := List.mem_map.1 hp
      exact h2 x hx
    · simp [Instr.lookup, run_underlying ht, MapKept.run_getObj_map hb, K.check w _ hkey, h1, hz, Result.andThen]
  · refine .inr ⟨e0.val, List.mem_map.2 ⟨e0, List.mem_of_getElem? h2, by rw [h3]⟩, ?_⟩
    simp [Instr.lookup, run_underlying ht, MapKept.run_getObj_map hb, K.check w _ hkey, h1, Result.andThen]

/-- 'm[k] = v'. -/
theorem MapL.update (h : MapL P k w B al) (K : Keyed P k) (ht : P.underlying t = some (.map k e)) {key : Value} {kl : Lit} (hkey : keyOf P k key = some kl) (v : Value) :
    ∃ al' w', (Instr.mapUpdate t (.map (some B)) key v).run P w = .ok () w' ∧ MapL P k w' B al' ∧ MPut al key v al' ∧ w.grownBy w' (some B) := by
  obtain ⟨es, clock, hb, hs, hk, rfl⟩ := h
  rcases K.find w hkey es.toList hk with ⟨h1, h2⟩ | ⟨j, e0, h1, h2, h3⟩
  · refine ⟨_, setBlock w B (.map (es.push ⟨key, v, clock⟩) (clock + 1)), ?_, ⟨_, _, heap_setBlock_same hb _, stamped_push hs h2, ?_, rfl⟩, .inl ⟨?_, ?_⟩, grown_setBlock hb _⟩
    · simp [Instr.mapUpdate, run_underlying ht, MapKept.run_getObj_map hb, K.check w false hkey, h1, MapKept.run_setObj_map _ hb, Result.andThen, setBlock]
    · intro x hx
      simp only [Array.toList_push, List.mem_append, List.mem_singleton] at hx
      rcases hx with hx | rfl
      · exact hk x hx
      · exact ⟨kl, hkey⟩
    · intro p hp
      obtain ⟨x, hx, rfl⟩ := List.mem_map.1 hp
      exact h2 x hx
    · simp
  · have hj : es[j]? = some e0 := by simpa using h2
    have hkeyf : ∀ e', es[j]? = some e' → ({ e' with key := key, val := v } : MapEntry).key = e'.key := fun e' he' => by rw [hj] at he'; cases he'; exact h3.symm
    have hlist : (es.modify j (fun e' => { e' with key := key, val := v })).toList = es.toList.set j { e0 with key := key, val := v } := by rw [Array.toList_modify, modify_eq_set _ _ _ _ h2]
    refine ⟨_, setBlock w B (.map (es.modify j (fun e' => { e' with key := key, val := v })) clock), ?_, ⟨_, _, heap_setBlock_same hb _, stamped_modify hs _ _ (fun _ _ => rfl) (fun e' _ he' => hkeyf e' he'), ?_, rfl⟩, .inr ⟨(es.toList.take j).map (fun e => (e.key, e.val)), (es.toList.drop (j + 1)).map (fun e => (e.key, e.val)), e0.val, ?_, ?_⟩, grown_setBlock hb _⟩
    · simp [Instr.mapUpdate, run_underlying ht, MapKept.run_getObj_map hb, K.check w false hkey, h1, hj, h3, K.stays w hkey, MapKept.run_setObj_map _ hb, Result.andThen, setBlock]
    · intro x hx
      rw [hlist] at hx
      rcases List.mem_or_eq_of_mem_set hx with hx | rfl
      · exact hk x hx
      · exact ⟨kl, hkey⟩
    · have hjl := (List.getElem?_eq_some_iff.1 h2).1
      have := List.take_append_drop j es.toList
      rw [List.drop_eq_getElem_cons hjl, (List.getElem?_eq_some_iff.1 h2).2] at this
      rw [← h3]
      conv => lhs; rw [← this]
      simp
    · have hjl := (List.getElem?_eq_some_iff.1 h2).1
      rw [hlist, List.set_eq_take_append_cons_drop, if_pos hjl]
      simp

/-- 'm[k] = f(m[k])', as the translation hands it over: the entry is found or made; what is put there later. -/
theorem MapL.entry (h : MapL P k w B al) (K : Keyed P k) (ht : P.underlying t = some (.map k e)) {z : Value} (hz : ∀ u : World, (zeroValue e).run P u = .ok z u) {key : Value} {kl : Lit} (hkey : keyOf P k key = some kl) :
    ∃ v0 st w1, (Instr.mapEntry t (.map (some B)) key).run P w = .ok (.tuple #[v0, goInt (st : Nat)]) w1 ∧ w.grownBy w1 (some B) ∧ MapAt w1 B ∧ (((∀ p ∈ al, p.1 ≠ key) ∧ v0 = z) ∨ (key, v0) ∈ al) ∧
      ∀ (w2 : World) (v : Value), w2.heap[B]? = w1.heap[B]? → ∃ al' w3, (Instr.entryStore t (.map (some B)) (goInt st) v).run P w2 = .ok () w3 ∧ MapL P k w3 B al' ∧ MPut al key v al' ∧ w2.grownBy w3 (some B) := by
  obtain ⟨es, clock, hb, hs, hk, rfl⟩ := h
  obtain ⟨s1, s2, _⟩ := hs
  rcases K.find w hkey es.toList hk with ⟨h1, h2⟩ | ⟨j, e0, h1, h2, h3⟩
  · refine ⟨z, clock, setBlock w B (.map (es.push ⟨key, z, clock⟩) (clock + 1)), ?_, grown_setBlock hb _, ⟨_, _, heap_setBlock_same hb _⟩, .inl ⟨fun p hp => ?_, rfl⟩, fun w2 v hw2 => ?_⟩
    · simp [Instr.mapEntry, run_underlying ht, MapKept.run_getObj_map hb, K.check w false hkey, h1, hz, MapKept.run_setObj_map _ hb, Result.andThen, setBlock]
    · obtain ⟨x, hx, rfl⟩ := List.mem_map.1 hp
      exact h2 x hx
    · rw [heap_setBlock_same hb] at hw2
      have hidx : (es.push ⟨key, z, clock⟩).findIdx? (fun e => ((e.born : Nat) : Int) == ((clock : Nat) : Int)) = some es.size := by
        rw [WideElems.findIdx_arr]
        exact WideElems.findIdx_born (l := (es.push ⟨key, z, clock⟩).toList) (j := es.size) (e0 := ⟨key, z, clock⟩) (by
          simp only [Array.toList_push, List.map_append, List.map_cons, List.map_nil]
          refine List.nodup_append.2 ⟨s2, by simp, fun a ha c hc e1 => ?_⟩
          simp only [List.mem_singleton] at hc
          obtain ⟨x, hx, rfl⟩ := List.mem_map.1 ha
          have := s1 x hx
          omega) (by simp)
      have hmod : (es.push ⟨key, z, clock⟩).modify es.size (fun e => { e with val := v }) = es.push ⟨key, v, clock⟩ := by
        apply Array.ext'
        rw [Array.toList_modify, Array.toList_push, Array.toList_push, ← Array.length_toList, WideElems.modify_last]
      refine ⟨_, setBlock w2 B (.map (es.push ⟨key, v, clock⟩) (clock + 1)), ?_, ⟨_, _, heap_setBlock_same hw2 _, stamped_push ⟨s1, s2, by assumption⟩ h2, ?_, rfl⟩, .inl ⟨?_, ?_⟩, grown_setBlock hw2 _⟩
      · simp [Instr.entryStore, MapKept.run_getObj_map hw2, asInt, asIntOf, goInt, hidx, hmod, MapKept.run_setObj_map _ hw2, Result.andThen, setBlock]
      · intro x hx
        simp only [Array.toList_push, List.mem_append, List.mem_singleton] at hx
        rcases hx with hx | rfl
        · exact hk x hx
        · exact ⟨kl, hkey⟩
      · intro p hp
        obtain ⟨x, hx, rfl⟩ := List.mem_map.1 hp
        exact h2 x hx
      · simp
  · have hj : es[j]? = some e0 := by simpa using h2
    have hsame : es.modify j (fun e => { e with key := key }) = es := by
      apply Array.ext'
      rw [Array.toList_modify, modify_eq_set _ _ _ _ h2]
      have : ({ e0 with key := key } : MapEntry) = e0 := by rw [← h3]
      rw [this]
      exact WideElems.set_self _ _ _ h2
    refine ⟨e0.val, e0.born, setBlock w B (.map es clock), ?_, grown_setBlock hb _, ⟨_, _, heap_setBlock_same hb _⟩, .inr (List.mem_map.2 ⟨e0, List.mem_of_getElem? h2, by rw [h3]⟩), fun w2 v hw2 => ?_⟩
    · simp [Instr.mapEntry, run_underlying ht, MapKept.run_getObj_map hb, K.check w false hkey, h1, hj, h3, K.stays w hkey, hsame, MapKept.run_setObj_map _ hb, Result.andThen, setBlock]
    · rw [heap_setBlock_same hb] at hw2
      have hidx : es.findIdx? (fun e => ((e.born : Nat) : Int) == ((e0.born : Nat) : Int)) = some j := by
        rw [WideElems.findIdx_arr]
        exact WideElems.findIdx_born s2 h2
      have hlist : (es.modify j (fun e' => { e' with val := v })).toList = es.toList.set j { e0 with val := v } := by rw [Array.toList_modify, modify_eq_set _ _ _ _ h2]
      refine ⟨_, setBlock w2 B (.map (es.modify j (fun e' => { e' with val := v })) clock), ?_, ⟨_, _, heap_setBlock_same hw2 _, stamped_modify ⟨s1, s2, by assumption⟩ _ _ (fun _ _ => rfl) (fun e' _ _ => rfl), ?_, rfl⟩, .inr ⟨(es.toList.take j).map (fun e => (e.key, e.val)), (es.toList.drop (j + 1)).map (fun e => (e.key, e.val)), e0.val, ?_, ?_⟩, grown_setBlock hw2 _⟩
      · simp [Instr.entryStore, MapKept.run_getObj_map hw2, asInt, asIntOf, goInt, hidx, MapKept.run_setObj_map _ hw2, Result.andThen, setBlock]
      · intro x hx
        rw [hlist] at hx
        rcases List.mem_or_eq_of_mem_set hx with hx | rfl
        · exact hk x hx
        · exact hk e0 (List.mem_of_getElem? h2)
      · have hjl := (List.getElem?_eq_some_iff.1 h2).1
        have := List.take_append_drop j es.toList
        rw [List.drop_eq_getElem_cons hjl, (List.getElem?_eq_some_iff.1 h2).2] at this
        rw [← h3]
        conv => lhs; rw [← this]
        simp
      · have hjl := (List.getElem?_eq_some_iff.1 h2).1
        rw [hlist, List.set_eq_take_append_cons_drop, if_pos hjl, ← h3]
        simp
end

theorem MPut.mem {al al' : List (Value × Value)} {key v : Value} (h : MPut al key v al') : (key, v) ∈ al' := by
  rcases h with ⟨_, rfl⟩ | ⟨l, r, v0, _, rfl⟩ <;> simp
theorem MPut.cases {al al' : List (Value × Value)} {key v : Value} (h : MPut al key v al') {p : Value × Value} (hp : p ∈ al') : p = (key, v) ∨ p ∈ al := by
  rcases h with ⟨_, rfl⟩ | ⟨l, r, v0, rfl, rfl⟩
  · rcases List.mem_append.1 hp with hp | hp
    · exact .inr hp
    · exact .inl (by simpa using hp)
  · rcases List.mem_append.1 hp with hp | hp
    · exact .inr (by simp [hp])
    · rcases List.mem_cons.1 hp with hp | hp
      · exact .inl hp
      · exact .inr (by simp [hp])
/-- An array of bytes as a key. -/
theorem keyOf_bytes {P : Program} {k e : TypeId} {n : Nat} (hu : P.underlying k = some (.array n e)) (hkt : P.keyType k = true) (hc : P.cellsOf k = n) (he : P.underlying e = some (.int .u8)) (h1 : P.cellsOf e = 1) (hsz : ∃ m, P.types.size = m + 1) (l : List UInt8) (hl : l.length = n) :
    ∃ kl, keyOf P k (.agg (bc l).toArray) = some kl := by
  obtain ⟨m, hm⟩ := hsz
  have hmap : ∀ (n : Nat) (cs : List UInt8), cs.length = n → (List.range n).mapM (fun i => P.keyLits (m + 1) e (((bc cs).drop (i * 1)).take 1)) = some (cs.map fun c => [Lit.int .u8 c.toNat]) := by
    intro n cs hcs
    subst hcs
    have : ∀ i ∈ List.range cs.length, P.keyLits (m + 1) e (((bc cs).drop (i * 1)).take 1) = some [Lit.int .u8 ((cs.getD i 0).toNat : Int)] := by
      intro i hi
      have hi' : i < cs.length := by simpa using hi
      rw [Nat.mul_one, bc_drop, List.drop_eq_getElem_cons hi', bc_take, List.take_succ_cons, List.take_zero]
      have hb := (cs[i]).toNat_lt
      simp [bc, Program.keyLits, he, Lit.wf, IntKind.min, IntKind.max, IntKind.signed, IntKind.bits, List.getD, List.getElem?_eq_getElem hi']
      omega
    have e2 : (List.range cs.length).mapM (fun i => P.keyLits (m + 1) e (((bc cs).drop (i * 1)).take 1)) = some ((List.range cs.length).map fun i => [Lit.int .u8 ((cs.getD i 0).toNat : Int)]) := by
      generalize List.range cs.length = L at this
      induction L with
      | nil => rfl
      | cons a L ih =>
        rw [List.mapM_cons, this a (by simp), ih (fun i hi => this i (by simp [hi]))]
        rfl
    rw [e2]
    congr 1
    apply List.ext_getElem
    · simp
    · intro i h1 h2
      simp only [List.length_map, List.length_range] at h1
      simp [List.getD, List.getElem?_eq_getElem h1]
  unfold keyOf
  simp only [hu]
  rw [if_pos (by simp [hkt, Value.formed, hu, hc, bc, hl]), hm]
  unfold Program.keyLits
  simp only [hu, Value.cells]
  rw [if_pos (by simp [hc, bc, hl])]
  have := hmap n l hl
  simp only [h1, Nat.mul_one] at this ⊢
  rw [this]
  exact ⟨_, rfl⟩
end Go.Dol
