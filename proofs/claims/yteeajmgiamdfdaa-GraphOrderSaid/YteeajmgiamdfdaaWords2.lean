/- More laws of operations on bytes: a text turned into bytes; bytes that two texts' equality is asked of. Conditions: none beyond what each law names. -/
import Derived.Test.YteeajmgiamdfdaaWords
import Derived.Laws.IdiomStrings
namespace Go.Dol
open Go.RowKit

theorem str_len (s : ByteArray) : s.data.toList.length = s.size := by rw [Array.length_toList]; rfl

/-- A text to bytes: a row of its own. -/
theorem run_conv_sb {P : Program} (w : World) (src dst e : TypeId) (s : ByteArray) (hs : P.underlying src = some .string) (hd : P.underlying dst = some (.slice e)) (he : P.underlying e = some (.int .u8)) (hl : s.size ≤ 140737488355328) :
    ∃ A c w', (convert src dst (.string s)).run P w = .ok (.slice A s.size c) w' ∧ Rd w' w'.heap.size 1 A s.size (bc s.data.toList) ∧ Below w.heap.size w w' ∧ s.size ≤ c ∧ c ≤ maxLen := by
  refine ⟨_, _, _, run_bytes_of_string w src dst e s hs hd he, ⟨by rw [bc_length, str_len, Nat.mul_one], fun _ => ⟨w.heap.size, 0, rfl, by simp, fun j u hu => ?_⟩⟩,
    ((Below.refl _ _).drew).alloc (by simp) _, grownCap_ge w s.size 0 e, grownCap_le_maxLen w s.size 0 e (by unfold maxLen; omega)⟩
  have hj := (List.getElem?_eq_some_iff.1 hu).1
  rw [bc_length, str_len] at hj
  show (World.alloc w.drew _).cell? ⟨w.drew.heap.size, 0 + j, none⟩ = _
  rw [World.cell?_alloc_mark]
  simp only [bytesRow, Nat.zero_add]
  rw [Array.getElem?_append_left (by simpa using hj)]
  simp only [bc, List.getElem?_map] at hu
  simpa using hu

theorem wpList_conv_sb {P : Program} {w : World} {ops : Array Oper} {rest : List Oper} {o : Oper} {a : Act} {Q : Exit → Act → World → Prop} (hgd : o.guard = none) (x : Operand) (src dst e : TypeId)
    (ho : o.op = .convert src dst x) (hs : P.underlying src = some .string) (hd : P.underlying dst = some (.slice e)) (he : P.underlying e = some (.int .u8))
    (s : ByteArray) (hx : a.eval x = .string s) (hl : s.size ≤ 140737488355328)
    (h : ∀ A c w', Rd w' w'.heap.size 1 A s.size (bc s.data.toList) → Below w.heap.size w w' → s.size ≤ c → c ≤ maxLen → wpList P ops Q rest (a.put o.dst (.slice A s.size c)) w') : wpList P ops Q (o :: rest) a w := by
  refine wpList_plain hgd fun K hK => ?_
  obtain ⟨A, c, w', hr, h1, h2, h3, h4⟩ := run_conv_sb w src dst e s hs hd he hl
  unfold Oper.wp execOp
  simp only [ho, hx, Sem.run_bind, hr, Result.andThen_ok, Sem.run_pure]
  exact hK _ _ (h A c w' h1 h2 h3 h4)

/-- Two texts made of bytes are one just if the bytes are. -/
theorem str_beq (a b : List UInt8) : ((⟨a.toArray⟩ : ByteArray).data.toList == (⟨b.toArray⟩ : ByteArray).data.toList) = decide (a = b) := by
  by_cases h : a = b <;> simp [h]
end Go.Dol
