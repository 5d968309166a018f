/- Arrays as one value: loaded out of what reads, stored into a block of the call's own. Conditions: none beyond what each law names. -/
import Derived.Test.YtegolgkagdlocaaSeg2
import Derived.Laws.Cover3
namespace Go.Dol
open Go.RowKit
section
variable {P : Program} {ops : Array Oper} {rest : List Oper} {o : Oper} {a : Act} {w : World} {Q : Exit → Act → World → Prop}
/-- A whole value of several cells is loaded out of what reads. -/
theorem wpList_load_rd (hgd : o.guard = none) (ty : TypeId) (x : Operand) (ho : o.op = .load ty x) (A : Option Addr) (hx : a.eval x = .pointer A) (B n : Nat) (vs : List Value) (d : TypeDesc) (hr : Rd w B 1 A n vs) (hn : 0 < n)
    (hu : P.underlying ty = some d) (hd : (match d with | .struct _ | .array _ _ => true | _ => false) = true) (hi : (P.info? ty).map (·.size) = some n)
    (h : wpList P ops Q rest (a.put o.dst (.agg vs.toArray)) w) : wpList P ops Q (o :: rest) a w := by
  refine wpList_plain hgd fun K hK => ?_
  obtain ⟨g, f, rfl, _, hc⟩ := hr.at_ hn
  have hlen : vs.length = n := by have := hr.len; omega
  have hl : (loadCells ⟨g, f, none⟩ vs.length).run P w = .ok vs.toArray w :=
    run_loadCells_list (P := P) w ⟨g, f, none⟩ vs (fun j v hv => by
      rw [Addr.add_lit]
      exact hc j v hv)
  have hload : (loadVar ty ⟨g, f, none⟩).run P w = .ok (.agg vs.toArray) w := by
    cases hq : P.info? ty with
    | none => simp [hq] at hi
    | some i =>
      have hs : i.size = vs.length := by rw [hlen]; simpa [hq] using hi
      have hagg : (isAgg ty).run P w = .ok true w := by
        unfold isAgg
        rw [Sem.run_bind, run_underlying hu w]
        cases d <;> simp_all
      simp [loadVar, Sem.run_bind, hagg, sizeOf, typeInfo, hq, hs, hl]
  unfold Oper.wp execOp
  simp only [ho, hx, Instr.loadAt, Instr.sureAddr, Sem.run_bind, Sem.run_pure, Result.andThen_ok, hload]
  exact hK _ _ h
/-- A whole value is stored into a block of just its cells. -/
theorem wpList_store_blk (hgd : o.guard = none) (ty : TypeId) (x y : Operand) (ho : o.op = .store ty x y) (g : Nat) (vs : List Value) (hx : a.eval x = .pointer (some ⟨g, 0, none⟩)) (hy : a.eval y = .agg vs.toArray)
    (T : TypeId) (old : List Value) (hg : Blk w g T old) (hi : (P.info? ty).map (·.size) = some vs.length) (hold : old.length = vs.length) (h1 : ∀ v ∈ vs, v.oneCell' = true)
    (h : ∀ w', Blk w' g T vs → w.grownBy w' (some g) → wpList P ops Q rest (a.put o.dst undef) w') : wpList P ops Q (o :: rest) a w := by
  refine wpList_plain hgd fun K hK => ?_
  refine wp_store_row ty x y ho g vs.toArray hx hy T old.toArray hg (by simpa using hi) (by simpa using hold) ?_ (hK _ _ (h _ ?_ ?_))
  · rw [Array.all_eq_true_iff_forall_mem]
    intro v hv
    exact h1 v (by simpa using hv)
  · exact setRow_heap w g old.toArray _ T _ hg
  · exact ⟨rfl, rfl, rfl, by simp, fun k _ hk => setRow_other w g k _ (fun e => hk (by rw [e]))⟩
end
end Go.Dol
