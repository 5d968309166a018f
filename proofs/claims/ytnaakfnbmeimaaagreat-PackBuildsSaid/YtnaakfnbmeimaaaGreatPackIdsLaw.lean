/- What the laws PackIds, PackBack and PackKeeps say, in plain Lean: ids rise, each is found; the rows handed in are objects. Conditions: none. -/
import Derived.Test.YtnaakfnbmeimaaaGreatPckIds
import Derived.Test.YtnaakfnbmeimaaaGreatRaws
import Derived.Test.YtnaakfnbmeimaaaGreatPackLaw
import Derived.Test.YtnaakfnbmeimaaaGreatPack1
set_option linter.unusedVariables false
namespace Go.Proofs.YtnaakfnbmeimaaaGreat
open Go.RowKit Go.Dol
theorem raws_objs (os : List Go.Dol.Obj) : ∀ r ∈ rawsL geS os [],isObjL geS r = true:=by
 intro r hr
 unfold rawsL at hr
 rw [List.take_nil,List.append_nil] at hr
 obtain ⟨o,_,ho⟩:=List.mem_flatMap.1 hr
 unfold encIf at ho
 split at ho
 ·rename_i hc
  obtain rfl:=List.mem_singleton.1 ho
  unfold isObjL
  rw [dec_enc hc]
  rfl
 ·cases ho
theorem _root_.Go.Dol.Obs.more {w : World} {B B' : Nat} {l : List ObA} (h : Obs w B l) (hB : B ≤ B') : Obs w B' l:=fun x hx => by
 obtain ⟨h1,h2,h3,h4⟩:=h x hx
 exact ⟨h1.more hB,h2.more hB,h3.more hB,h4⟩
end Go.Proofs.YtnaakfnbmeimaaaGreat
