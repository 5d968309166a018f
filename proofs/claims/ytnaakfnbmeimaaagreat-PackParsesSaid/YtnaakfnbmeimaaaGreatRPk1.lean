/- The document's parts in memory; the walk of its twice. Conditions: at most 2^40 parts. -/
import Derived.Test.YtnaakfnbmeimaaaGreatPck
set_option linter.unusedVariables false
namespace Go.Dol
open Go.RowKit
def PtA.rcells (x : PtA) : List Value := [.string (idS x.p.id), .int .i64 (x.p.kind : Nat), .int .i64 (x.p.depth : Nat), .int .i64 (x.p.size : Nat), .slice x.A x.p.raw.length x.c]
def rpc (l : List PtA) : List Value := l.flatMap PtA.rcells
theorem rpc_get : ∀ {l : List PtA} {i : Nat} {x : PtA}, l[i]? = some x → ∀ j, j < 5 → (rpc l)[i * 5 + j]? = x.rcells[j]?
  | [], i, x, h, _, _ => by simp at h
  | y :: l, 0, x, h, j, hj => by
    have hx : y = x := by simpa using h
    subst hx
    rw [rpc, List.flatMap_cons, Nat.zero_mul, Nat.zero_add, List.getElem?_append_left (by show j < 5; omega)]
  | y :: l, i + 1, x, h, j, hj => by
    rw [rpc, List.flatMap_cons, List.getElem?_append_right (by show 5 ≤ _; omega)]
    have e : (i + 1) * 5 + j - y.rcells.length = i * 5 + j := by show (i + 1) * 5 + j - 5 = _; omega
    rw [e]
    exact rpc_get (l := l) (by simpa using h) j hj
theorem rpc_app (a b : List PtA) : rpc (a ++ b) = rpc a ++ rpc b := by simp [rpc]
theorem rpc_one (l : List PtA) : ∀ u ∈ rpc l, u.oneCell' = true := by
  intro u hu
  obtain ⟨x, _, hx⟩ := List.mem_flatMap.1 hu
  simp only [PtA.rcells, List.mem_cons, List.not_mem_nil, or_false] at hx
  rcases hx with rfl | rfl | rfl | rfl | rfl <;> rfl
def idsR (l : List PtA) : List (List UInt8) := l.map fun x => x.p.id
theorem idsR_ptp (l : List PtA) : idsR l = (ptp l).map (·.id) := by simp [idsR, ptp]
theorem nodup_snoc {l : List PtA} {k : Nat} {x : PtA} (hx : l[k]? = some x) (h : (idsR (l.take k)).Nodup) (hn : x.p.id ∉ idsR (l.take k)) : (idsR (l.take (k + 1))).Nodup := by
  obtain ⟨hk, e⟩ := List.getElem?_eq_some_iff.1 hx
  rw [List.take_succ_eq_append_getElem hk, e]
  unfold idsR
  rw [List.map_append, List.nodup_append]
  refine ⟨h, by simp, fun a ha b hb => ?_⟩
  simp only [List.map_cons, List.map_nil, List.mem_singleton] at hb
  subst hb
  exact fun e => hn (e ▸ ha)
theorem mem_snoc {l : List PtA} {j : Nat} {y : PtA} {s : List UInt8} (hy : l[j]? = some y) (h : s ∉ idsR (l.take j)) (hn : ¬ s = y.p.id) : s ∉ idsR (l.take (j + 1)) := by
  obtain ⟨hk, e⟩ := List.getElem?_eq_some_iff.1 hy
  rw [List.take_succ_eq_append_getElem hk, e]
  unfold idsR
  rw [List.map_append, List.mem_append]
  rintro (h2 | h2)
  · exact h h2
  · exact hn (by simpa using h2)
theorem dup_of {l : List PtA} {j k : Nat} {x y : PtA} (hx : l[k]? = some x) (hy : l[j]? = some y) (hjk : j < k) (h : x.p.id = y.p.id) : ¬ (idsR l).Nodup := by
  intro hn
  obtain ⟨hk, e⟩ := List.getElem?_eq_some_iff.1 hx
  obtain ⟨hj, e2⟩ := List.getElem?_eq_some_iff.1 hy
  have := List.pairwise_iff_getElem.1 hn j k (by simpa [idsR] using hj) (by simpa [idsR] using hk) hjk
  apply this
  simp only [idsR, List.getElem_map, e, e2, h]
end Go.Dol
namespace Go.Proofs.YtnaakfnbmeimaaaGreat
open Go.RowKit Go.Dol
def RetTw (l : List PtA) (w : World) (e : Ending) (w' : World) : Prop := ∃ b : Bool, e = .returned (.bool b) ∧ Hid (b = true ↔ ¬ (idsR l).Nodup) ∧ ∃ q, w' = w.drewN q
def TwRel (l : List PtA) (w : World) (i : Value) (wr : World) : Prop := ∃ k q : Nat, i = .int .i64 k ∧ k ≤ l.length ∧ Hid ((idsR (l.take k)).Nodup) ∧ Hid (wr = w.drewN q)
def TwIn (l : List PtA) (k : Nat) (s : List UInt8) (w : World) (i : Value) (wr : World) : Prop := ∃ j q : Nat, i = .int .i64 j ∧ j ≤ k ∧ Hid (s ∉ idsR (l.take j)) ∧ Hid (wr = w.drewN q)
set_option maxRecDepth 100000 in
set_option maxHeartbeats 1600000 in
theorem twice_calls (A : Option Addr) (l : List PtA) (c : Nat) (w : World) (B : Nat) (hr : Rd w B 5 A l.length (rpc l)) (hl : l.length ≤ 1099511627776) :
    Calls Tryz.prog 32 #[.slice A l.length c] w (RetTw l w) := by
  go_enter Tryz.func32, Tryz.ntmps32
  go_wp2_with fail
  go_loopw [3] (fun i wr => TwRel l w i wr) (fun i _ => l.length - (intOf i).toNat)
  case atStart => exact ⟨0, 0, rfl, Nat.zero_le _, by simp [idsR, Hid], rfl⟩
  case round =>
    obtain ⟨k, q, rfl, hk, hn, hwr⟩ := hrel
    have hrw : Rd wr B 5 A l.length (rpc l) := by rw [hwr.out]; exact hr.drewN q
    have f1 : IntKind.i64.wrap ((k : Int) + 1) = (k : Int) + 1 := IntWalk.i64_in _ (by omega)
    by_cases h1 : k < l.length
    · have d1 : decide ((k : Int) < (l.length : Int)) = true := decide_eq_true (by omega)
      have d1' : (k : Int) < (l.length : Int) := by omega
      have hk0 : (0 : Int) ≤ (k : Int) := by omega
      obtain ⟨x, hx⟩ : ∃ x, l[k]? = some x := ⟨l[k], List.getElem?_eq_getElem h1⟩
      obtain ⟨v0, hv0⟩ : ∃ v0, v0 = wr := ⟨_, rfl⟩
      have HX := Lib.hid hx
      rw [← hv0] at hrw hwr ⊢
      clear hv0 hx
      go_wp2_with fail
      go_loopw [4] (fun i wr => TwIn l k x.p.id v0 i wr) (fun i _ => k - (intOf i).toNat)
      case atStart => exact ⟨0, 0, rfl, Nat.zero_le _, by simp [idsR, Hid], rfl⟩
      case round =>
        obtain ⟨j, q2, rfl, hj, hnj, hwj⟩ := hrel
        have hrj : Rd wr B 5 A l.length (rpc l) := by rw [hwj.out]; exact hrw.drewN q2
        have f2 : IntKind.i64.wrap ((j : Int) + 1) = (j : Int) + 1 := IntWalk.i64_in _ (by omega)
        by_cases h2 : j < k
        · have d2 : decide ((j : Int) < (k : Int)) = true := decide_eq_true (by omega)
          have d2n : decide (j < k) = true := decide_eq_true h2
          have d2' : (j : Int) < (l.length : Int) := by omega
          have hj0 : (0 : Int) ≤ (j : Int) := by omega
          obtain ⟨y, hy⟩ : ∃ y, l[j]? = some y := ⟨l[j]'(by omega), List.getElem?_eq_getElem (by omega)⟩
          obtain ⟨bb, off, rfl, hbb, hcell⟩ := hrj.at_ (by omega)
          have c1 : wr.cell? ⟨bb, off + k * 5, none⟩ = some (.string (idS x.p.id)) := hcell (k * 5 + 0) _ (rpc_get HX.out 0 (by omega))
          have c2 : wr.cell? ⟨bb, off + j * 5, none⟩ = some (.string (idS y.p.id)) := hcell (j * 5 + 0) _ (rpc_get hy 0 (by omega))
          obtain ⟨s, hs⟩ : ∃ s, s = idS x.p.id := ⟨_, rfl⟩
          obtain ⟨t, ht⟩ : ∃ t, t = idS y.p.id := ⟨_, rfl⟩
          rw [← hs] at c1
          rw [← ht] at c2
          have HQ : Hid (∀ n, wr.drewN n = w.drewN (q + q2 + n)) := fun n => by rw [hwj.out, hwr.out, World.drewN_drewN, World.drewN_drewN, Nat.add_assoc]
          by_cases h3 : s = t
          · have hd := dup_of HX.out hy h2 (by have : idS x.p.id = idS y.p.id := by rw [← hs, ← ht, h3]
                                               have := congrArg (fun b : ByteArray => b.data.toList) this
                                               simpa [idS] using this)
            have HD := Lib.hid hd
            obtain rfl := h3
            clear hs ht hcell hy hd
            go_wp2_with fail
            go_quiet (fail)
            go_wp2_with fail
            go_ret
            exact ⟨true, rfl, by unfold Hid; simp [HD.out], _, HQ.out nq⟩
          · have hne : (s.toList == t.toList) = false := beq_eq_false_iff_ne.2 fun e => h3 (str_inj e)
            have hnj2 := mem_snoc hy hnj.out (fun e => h3 (by rw [hs, ht, e]))
            have HNJ := Lib.hid hnj2
            have HWJ : Hid (∀ n, wr.drewN n = v0.drewN (q2 + n)) := fun n => by rw [hwj.out, World.drewN_drewN]
            clear hs ht hcell hy hnj2 hnj h3
            go_wp2_with fail
            go_quiet (fail)
            go_wp2_with fail
            exact ⟨⟨j + 1, q2 + nq, by go_num, by omega, HNJ, Lib.hid (HWJ.out nq)⟩, by simp [intOf]; omega⟩
        · have d2 : decide ((j : Int) < (k : Int)) = false := decide_eq_false (by omega)
          have d2n : decide (j < k) = false := decide_eq_false h2
          have hjk : j = k := by omega
          rw [hjk] at hnj
          have hn2 := nodup_snoc HX.out hn.out hnj.out
          have HN2 := Lib.hid hn2
          have HWJ : Hid (wr = w.drewN (q + q2)) := by unfold Hid; rw [hwj.out, hwr.out, World.drewN_drewN]
          clear hn2 hjk hnj h2
          go_wp2_with fail
          exact ⟨⟨k + 1, q + q2, by go_num, by omega, HN2, HWJ⟩, by simp [intOf]; omega⟩
    · have d1 : decide ((k : Int) < (l.length : Int)) = false := decide_eq_false (by omega)
      have d1' : ¬ (k : Int) < (l.length : Int) := by omega
      have hk2 : k = l.length := by omega
      rw [hk2, List.take_length] at hn
      clear hk2 h1
      go_wp2_with fail
      go_ret
      exact ⟨false, rfl, by unfold Hid; simp [hn.out], q, hwr.out⟩
end Go.Proofs.YtnaakfnbmeimaaaGreat
