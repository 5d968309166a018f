/- What the layer 'disk' computes, in plain Lean: files in order of their names; what is laid, taken away, renamed; room. No program is in sight. Conditions: none beyond what each lemma names. -/
import Derived.Test.YtnaakfnbmeimaaaGreatWordsA
import Derived.Laws.Cover1
set_option linter.unusedVariables false
namespace Go.Dol
open Go.RowKit
def sLt (a b : ByteArray) : Bool:=decide (a.data.toList < b.data.toList)
theorem ba_ext {a b : ByteArray} (h : a.data.toList = b.data.toList) : a = b:=by
 cases a; cases b
 congr 1
 exact Array.toList_inj.1 h
theorem sLt_irrefl (a : ByteArray) : sLt a a = false:=by
 unfold sLt
 exact decide_eq_false (List.lt_irrefl _)
theorem sLt_trans {a b c : ByteArray} (h1 : sLt a b = true) (h2 : sLt b c = true) : sLt a c = true:=by
 unfold sLt at *
 exact decide_eq_true (List.lt_trans (of_decide_eq_true h1) (of_decide_eq_true h2))
theorem sLt_total {a b : ByteArray} (h1 : sLt a b = false) (hne : a ≠ b) : sLt b a = true:=by
 unfold sLt at *
 have h:=of_decide_eq_false h1
 refine decide_eq_true ?_
 rcases Decidable.em (b.data.toList < a.data.toList) with hb | hb
 ·exact hb
 ·exact absurd (ba_ext (List.le_antisymm (List.not_lt.1 hb) (List.not_lt.1 h))) hne
theorem sLt_asymm {a b : ByteArray} (h1 : sLt a b = true) : sLt b a = false:=by
 cases h : sLt b a with
 | false => rfl
 | true =>
  have:=sLt_trans h1 h
  rw [sLt_irrefl] at this
  cases this
end Go.Dol
