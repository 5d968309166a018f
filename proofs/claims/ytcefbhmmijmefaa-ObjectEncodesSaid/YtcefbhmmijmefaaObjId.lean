/- The walks of the layer 'object': Id. Conditions: lengths below 2^47. -/
import Derived.Test.YtcefbhmmijmefaaObj13
import Derived.Test.YtcefbhmmijmefaaSumA
namespace Go.Proofs.Ytcefbhmmijmefaa
open Go.RowKit Go.Dol
set_option linter.unusedVariables false

/-- What Id hands back. -/
def RetId (w : World) (o : Go.Dol.Obj) (e : Ending) (w' : World) : Prop :=
  Below w.heap.size w w' ∧ ((checkB geS o = true ∧ ∃ l : List UInt8, Hid (l = sumOf (encO o)) ∧ e = .returned (.tuple #[.string ⟨l.toArray⟩, .int .i64 0])) ∨ (checkB geS o = false ∧ e = .returned (.tuple #[.string ⟨#[]⟩, .int .i64 1])))
set_option maxRecDepth 100000 in
set_option maxHeartbeats 2000000 in
theorem Id_calls (k : Int) (Ad : Option Addr) (d : List UInt8) (cd : Nat) (Ae : Option Addr) (en : List Ent) (ce : Nat) (tr : ByteArray) (Ap : Option Addr) (pa : List ByteArray) (cp : Nat) (ta na wh : ByteArray) (st : Int) (te : ByteArray) (w : World) (hd : Rd w w.heap.size 1 Ad d.length (bc d)) (he : Rd w w.heap.size 3 Ae en.length (ec en)) (hp : Rd w w.heap.size 1 Ap pa.length (pc pa)) (hel : en.length ≤ 140737488355328) (hpl : pa.length ≤ 140737488355328) (hsz : Hid (∀ p ∈ pa, p.size ≤ maxLen)) :
    Calls Try.prog 42 #[.agg #[.int .i64 k, .slice Ad d.length cd, .slice Ae en.length ce, .string tr, .slice Ap pa.length cp, .string ta, .string na, .string wh, .int .i64 st, .string te]] w (RetId w ⟨k, d, en, tr, pa, ta, na, wh, st, te⟩) := by
  have hb0 : Below w.heap.size w (w.alloc (.cells #[.int .i64 k, .slice Ad d.length cd, .slice Ae en.length ce, .string tr, .slice Ap pa.length cp, .string ta, .string na, .string wh, .int .i64 st, .string te] 43)) := (Below.refl _ _).alloc (Nat.le_refl _) _
  have hE := Encode_calls k Ad d cd Ae en ce tr Ap pa cp ta na wh st te _ (hd.alive hb0) (he.alive hb0) (hp.alive hb0) hel hpl hsz
  go_enter Try.func42, Try.ntmps42
  go_wp2_with fail
  refine hE.mono ?_
  rintro e w1 ⟨hb1, ⟨hc, l, A, c, el, rfl, ho⟩ | ⟨hc, rfl⟩⟩
  · have hl : l.length ≤ 5000000000 := by rw [el.out]; exact enc_small hc
    have hr := Rd.of_own ho
    have HC := Lib.hid hc
    clear hc
    go_wp2_with fail
    refine (Sum_calls A l c w1 hr (by omega)).mono ?_
    rintro e w2 ⟨s, es, rfl, hb2⟩
    go_wp2_with fail
    go_ret2
    exact ⟨(hb0.next hb1).next hb2, .inl ⟨HC.out, s, by unfold Hid; rw [es.out, el.out], rfl⟩⟩
  · have HC := Lib.hid hc
    clear hc
    go_wp2_with fail
    go_ret2
    exact ⟨hb0.next hb1, .inr ⟨HC.out, rfl⟩⟩

end Go.Proofs.Ytcefbhmmijmefaa
