/- What the laws PackIds, PackBack and PackKeeps say, in plain Lean: ids rise, each is found; the rows handed in are objects. Conditions: none. -/
import Derived.Test.YtnaakfnbmeimaaaGreatPckIds
import Derived.Test.YtnaakfnbmeimaaaGreatRaws
import Derived.Test.YtnaakfnbmeimaaaGreatPackLaw
import Derived.Test.YtnaakfnbmeimaaaGreatPack1
set_option linter.unusedVariables false
namespace Go.Proofs.YtnaakfnbmeimaaaGreat
open Go.RowKit Go.Dol
theorem look_own {l : List Pt} (hn : (l.map (·.id)).Nodup) {p : Pt} (h : p ∈ l) : lookP l p.id = some p:=by
 unfold lookP
 induction l with
 | nil => cases h
 | cons q l ih =>
  rw [List.map_cons,List.nodup_cons] at hn
  rw [List.find?_cons]
  rcases List.mem_cons.1 h with rfl | h
  ·simp
  ·have hne : q.id ≠ p.id:=fun e => hn.1 (by rw [e]; exact List.mem_map.2 ⟨p,h,rfl⟩)
   simp only [hne,decide_false]
   exact ih hn.2 h
end Go.Proofs.YtnaakfnbmeimaaaGreat
