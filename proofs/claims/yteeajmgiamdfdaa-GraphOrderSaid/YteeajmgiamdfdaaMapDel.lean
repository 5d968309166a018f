/- delete on a map that is known by its entries; the library's maps.DeleteFunc; its keys, sorted. Conditions: fewer than 2^39 ids. -/
import Derived.Test.YteeajmgiamdfdaaSortK
import Derived.Test.YteeajmgiamdfdaaBasLaw
import Derived.Lib.SlMapFilter
import Derived.Maps.Ext
import Derived.Maps.RangeWalk
import Derived.Laws.IdiomRangeMap
import Derived.Deep.LoopGhost
namespace Go.Dol
open Go.RowKit Go.MapKept Go.Maps
open Go.ChangeMaps (setBlock heap_setBlock_same heap_setBlock_other modify_eq_set)
set_option linter.unusedVariables false
theorem erase_map {α β : Type} (f : α → β) : ∀ (l : List α) (j : Nat), (l.eraseIdx j).map f = (l.map f).eraseIdx j
  | [], _ => rfl
  | _ :: _, 0 => rfl
  | x :: r, j + 1 => by simp [erase_map f r j]
/-- 'delete(m, k)', of a key that is there. -/
theorem MapL.drop {P : Program} {k e t : TypeId} {w : World} {B : Nat} {al : List (Value × Value)} (h : MapL P k w B al) (K : Keyed P k) (ht : P.underlying t = some (.map k e)) {key : Value} {kl : Lit} (hkey : keyOf P k key = some kl) {v0 : Value} (hin : (key, v0) ∈ al) :
    ∃ j w', (∀ ty, (Builtin.delete_ #[t, k] ty #[.map (some B), key]).run P w = .ok (.tuple #[]) w') ∧ MapL P k w' B (al.eraseIdx j) ∧ (∃ v, al[j]? = some (key, v)) ∧ w.grownBy w' (some B) := by
  obtain ⟨es, clock, hb, hs, hk, rfl⟩ := h
  rcases K.find w hkey es.toList hk with ⟨h1, h2⟩ | ⟨j, e0, h1, h2, h3⟩
  · obtain ⟨x, hx, he⟩ := List.mem_map.1 hin
    injection he with he _
    exact absurd he (h2 x hx)
  · have hjl : j < es.toList.length := (List.getElem?_eq_some_iff.1 h2).1
    have hjs : j < es.size := by simpa using hjl
    have hsub : (es.eraseIdxIfInBounds j).toList = es.toList.eraseIdx j := by
      unfold Array.eraseIdxIfInBounds
      rw [dif_pos hjs]
      simp
    refine ⟨j, setBlock w B (.map (es.eraseIdxIfInBounds j) clock), ?_, ⟨_, clock, heap_setBlock_same hb _, stamped_erase hs j, ?_, ?_⟩, ⟨e0.val, ?_⟩, grown_setBlock hb _⟩
    · intro ty
      simp [Builtin.delete_, run_underlying ht, MapKept.run_getObj_map hb, K.check w _ hkey, h1, MapKept.run_setObj_map _ hb, Result.andThen, setBlock]
    · intro x hx
      rw [hsub] at hx
      exact hk x ((List.eraseIdx_sublist _ _).subset hx)
    · rw [hsub, erase_map]
    · rw [List.getElem?_map, h2, ← h3]
      rfl
end Go.Dol
namespace Go.Proofs.Yteeajmgiamdfdaa
open Go.RowKit Go.Dol Go.Maps
set_option linter.unusedVariables false
abbrev RU : Value → Option (DataW Unit × List MemPlace) := fun _ => some (.nil, [])
theorem str_of_lit {key : Value} {kl : Lit} (h : keyOf Try.prog 9 key = some kl) : ∃ s : ByteArray, key = .string s ∧ kl = .string s.data.toList ∧ s.size ≤ maxLen := by
  obtain ⟨x, hx, hk, hl⟩ := Maps.keyOf_str Try.underlying9 h
  exact ⟨⟨x.toArray⟩, hx, by simpa using hk, by simpa [ByteArray.size] using hl⟩
theorem strKeys_filter (q : Lit → Bool) (pd : List UInt8 → Bool) (D : DataW Unit) (h : ∀ es, D = .map es → ∀ p ∈ es, q p.1 = pd (strOf p.1)) : strKeys (Lib.deleteFuncD (fun kl _ => q kl) D) = (strKeys D).filter fun s => !pd s := by
  cases D with
  | map es =>
    show (es.filter fun p => !q p.1).map (fun p => strOf p.1) = (es.map fun p => strOf p.1).filter fun s => !pd s
    rw [List.filter_map]
    congr 1
    exact List.filter_congr fun p hp => by simp [Function.comp, h es rfl p hp]
  | _ => rfl
set_option maxHeartbeats 4000000 in
set_option maxRecDepth 100000 in
/-- maps.DeleteFunc of a map that is known by its keys; del a closure that writes nothing that lay. -/
theorem mapsDel (pd : ByteArray → Bool) (g : Nat) (cb : Array Value) (b : Nat) (mt : List ByteArray) (w : World) (hM : MapL Try.prog 9 w b (mtE mt)) (hl : mt.length ≤ 549755813888)
    (eg : ∀ args w, (callFunc g args).run Try.prog w = .ok (.enter g args) w)
    (hdel : ∀ (W : World) (s : ByteArray) (val : Value), w.grownBy W (some b) → s.size ≤ maxLen → Calls Try.prog g (#[.string s, val] ++ cb) W fun e w' => e = .returned (.bool (pd s)) ∧ W.grownBy w' none) :
    Calls Try.prog 24 #[.map (some b), .func (.func g) #[] cb] w fun e w' => e = .returned (.tuple #[]) ∧ (∃ D : DataW Unit, w'.ownsMap Try.prog 9 RU b mt.length D ∧ (strKeys D).Perm ((mt.filter fun s => !pd s).map fun n => n.data.toList)) ∧ w.grownBy w' (some b) := by
  obtain ⟨D, hown, hsz, hkeys0⟩ := hM.owns Try.underlying9 (by simp [mtE]; unfold maxLen; omega)
  have hml : (mtE mt).length = mt.length := by simp [mtE]
  rw [hml] at hown
  have hperm := hkeys0 mt (by unfold mtE; rw [List.map_map]; rfl)
  obtain ⟨q, hq⟩ : ∃ q : Lit → DataW Unit → Bool, q = fun kl _ => pd ⟨(strOf kl).toArray⟩ := ⟨_, rfl⟩
  have HK := Lib.hid (str_law : Keyed Try.prog 9)
  obtain ⟨es0, rfl, hap, hkeys⟩ := hown.entries str_law
  have hfin : ∃ pf : List UInt8 → Bool, (strKeys (Lib.deleteFuncD q (.map es0))).Perm ((mt.filter fun s => !pd s).map fun n => n.data.toList) := by
    refine ⟨fun s => pd ⟨s.toArray⟩, ?_⟩
    rw [hq, strKeys_filter (fun kl => pd ⟨(strOf kl).toArray⟩) (fun s => pd ⟨s.toArray⟩) (.map es0) (fun es h p hp => rfl)]
    refine (hperm.filter _).trans ?_
    rw [List.filter_map]
    refine List.Perm.of_eq (congrArg _ (List.filter_congr fun s _ => ?_))
    simp [Function.comp]
  obtain ⟨_, hfin⟩ := hfin
  have HF := Lib.hid hfin
  have HD : Hid (∀ (W : World) (key val : Value) (kl : Lit) (yd : DataW Unit) (yp : List MemPlace), w.grownBy W (some b) → keyOf Try.prog 9 key = some kl → RU val = some (yd, yp) →
      Calls Try.prog g (#[key, val] ++ cb) W fun e w' => e = .returned (.bool (q kl yd)) ∧ W.grownBy w' none) := fun W key val kl yd yp hW hkey _ => by
    obtain ⟨s, rfl, rfl, hs⟩ := str_of_lit hkey
    have := hdel W s val hW hs
    rw [hq]
    exact this
  clear hdel hfin hperm hkeys0 hsz hM hml hq
  go_enter Try.func24, Try.ntmps24
  go_wp2_with (first
    | (at_range; refine wpList_range_own _ rfl _ 49 rfl 9 3 HK.out Try.underlying49 RU b mt.length _ rfl hown ?_; intro w0 hrg0 hg0 hs0)
    | fail)
  go_frame
  go_loopw [8] (fun _ wr => ∃ (left : Lit → Bool) (cnt : Nat), wr.ranges Try.prog 9 RU b w.heap.size mt.length (Fk q es0 left) left cnt ∧ w.grownBy wr (some b))
    (fun _ wr => wr.rangeLeft b w.heap.size)
  case atStart => exact ⟨_, _, by rw [Fk_start hkeys]; exact hrg0, hg0.but _⟩
  case round =>
    obtain ⟨left, cnt, hrg, hgw⟩ := hrel
    go_wp2_with (first
      | (at_next; refine wpList_next_ranges _ rfl _ rfl 9 HK.out RU id id (fun key _ _ => ⟨key, rfl⟩) (fun v _ _ => ⟨v, rfl⟩) b w.heap.size mt.length _ _ _ rfl hrg ?_ ?_)
      | fail)
    · intro _ hl0
      go_wp2_with fail
      go_end0
      exact ⟨rfl, ⟨_, by have := hrg.owns; rw [Fk_end hl0] at this; exact this, HF.out⟩, hgw⟩
    · intro x c kl yd yp w1 cnt1 hkey hlx hv1 hv2 hat hrg1 hlt hg1 hs1 hen
      have hgw1 := hgw.andThen hg1 (fun j hj => by cases hj; exact Or.inl (Nat.le_refl _))
      have hc := HD.out w1 x c kl yd yp hgw1 hkey (by rw [← hv1, hv2])
      clear hv1 hv2
      have hbl := hrg1.owns.lt
      have hrl := hrg1.lt
      cases hp : q kl yd <;> rw [hp] at hc
      · go_wp2_with (first
          | (go_at_fn g; refine hc.mono ?_; rintro e w2 ⟨rfl, hg2⟩)
          | fail)
        have hrg2 := hrg1.kept hg2 (by simp) (by simp)
        go_roundw
        case rel => exact ⟨_, cnt1, by rw [← Fk_stays hap (HK.out.key hkey) hlx hp hat]; exact hrg2, hgw1.andThen hg2 (fun j hj => by cases hj)⟩
        case measure => rw [hrg2.left_eq, hrg.left_eq]; exact hlt
      · go_wp2_with (first
          | (go_at_fn g; refine hc.mono ?_; rintro e w2 ⟨rfl, hg2⟩; have hrg2 := hrg1.kept hg2 (by simp) (by simp))
          | (at_delete; refine wpList_delete_ranges _ rfl _ _ 49 9 rfl 3 HK.out Try.underlying49 RU b w.heap.size mt.length _ _ _ rfl hrg2 _ _ rfl hkey ?_; intro w3 cnt3 hrg3 hle hturn; go_frame)
          | fail)
        rw [strike_twice] at hrg3
        go_roundw
        case rel => exact ⟨_, cnt3, by rw [← Fk_struck hap (HK.out.key hkey) hlx hp hat]; exact hrg3, (hgw1.andThen hg2 (fun j hj => by cases hj)).andThen hturn.grown (fun j hj => by cases hj; exact Or.inr rfl)⟩
        case measure => rw [hrg3.left_eq, hrg.left_eq]; omega
/-- The keys of a map, sorted. -/
theorem sortedOwn {w : World} {m n : Nat} {mt : List ByteArray} {D0 : DataW Unit} (hown : w.ownsMap Try.prog 9 RU m n D0) (hn : n ≤ 549755813888) (hp : (strKeys D0).Perm (mt.map fun n => n.data.toList)) (hnd : mt.Nodup) (hl : mt.length ≤ 549755813888) :
    Calls Try.prog 26 #[.func (.func 45) #[] #[.pointer (some ⟨w.heap.size, 0, none⟩)]] (w.alloc (.cells #[.map (some m)] 49)) (RetIds w (· ∈ mt)) := by
  have hsz := hown.size_le
  refine ((callsIn_wide (n := 5)).1 (sortedKeys m n D0 _ w hown (by unfold maxLen; omega) (by omega))).mono ?_
  rintro e w' ⟨v, ss, rfl, hS, hrow, _, hb⟩
  have hperm := hS.trans hp
  obtain ⟨L, hL, hst, hmem⟩ := sorted_keys hnd hperm
  have hsl : ss.length = L.length := by
    have h1 := congrArg List.length hL
    rwa [List.length_mergeSort, List.length_map] at h1
  have hlen : ss.length = mt.length := by rw [hperm.length_eq, List.length_map]
  rw [hL, List.map_map, hsl] at hrow
  have hxs : (L.map (Go.Proofs.encStr ∘ fun n => n.data.toList)) = pc L := List.map_congr_left fun n _ => rfl
  rw [hxs] at hrow
  have hbl : Below w.heap.size w w' := ((Below.refl _ _).alloc (Nat.le_refl _) _).trans (hb.mono (by simp))
  have hrow' : w'.ownsRow w.heap.size 9 1 v L.length (pc L) := World.ownsRow.mono hrow (by simp)
  have hv : ∃ A c, v = .slice A L.length c := by
    rcases hrow'.2 with ⟨rfl, h0⟩ | ⟨q, cap, cur, rfl, _⟩
    · exact ⟨none, 0, by rw [h0]⟩
    · exact ⟨_, cap, rfl⟩
  obtain ⟨A, c, rfl⟩ := hv
  exact ⟨L, A, c, rfl, hst, hmem, by omega, hrow', hbl⟩
end Go.Proofs.Yteeajmgiamdfdaa
