/- The walk of the layer 'disk': its names, in order. Conditions: a disk in good order. The walks of the document's 'disk', its first part: names, how its disk lies, where a name stands. Conditions: a disk in good order. -/
import Derived.Test.YtecpbcmpncgokaaGreatIter
import Derived.Test.YtecpbcmpncgokaaGreatDiskLaw
import Derived.Test.YtecpbcmpncgokaaGreatStoSpec
import Derived.Test.YtecpbcmpncgokaaGreatShort
import Derived.Test.YtecpbcmpncgokaaGreatShelfA
import Derived.Test.YtecpbcmpncgokaaGreatDisk2
import Derived.Laws.Cover1
import Derived.Deep.QuietTactic
import Derived.BigQuiet
import Derived.Test.YtecpbcmpncgokaaGreatWordsA
import Derived.Deep.Onto
import Derived.Deep.RegionHeld3
set_option linter.unusedVariables false
namespace Go.Dol
open Go.RowKit Go.MapKept Go.Maps
open Go.WideElems (Fit rd rg)
theorem Zak {l:List Fil} (h:InOrder l) {ss:List (LU)} (hp:ss.Perm (l.map fun f=>f.1.data.toList)):(ss.mergeSort fun x y=>decide (x≤y))=l.map fun f=>f.1.data.toList:=by
 have tr: ∀a b c:LU,decide (a≤b)=true→decide (b≤c)=true→decide (a≤c)=true:=fun a b c h1 h2=>dT (List.le_trans (of_decide_eq_true h1) (of_decide_eq_true h2));have to: ∀a b:LU,(decide (a≤b)||decide (b≤a))=true:=fun a b=>by
  rcases List.le_total a b with h | h<;>simp [h]
 refine List.Perm.eq_of_pairwise (le:=fun a b=>decide (a≤b)=true) (fun a b _ _ h1 h2=>List.le_antisymm (of_decide_eq_true h1) (of_decide_eq_true h2)) (List.pairwise_mergeSort tr to ss) ?_ ((List.mergeSort_perm ss _).trans hp);rw [List.pairwise_map];exact h.imp fun {a b} hab=>by
  unfold sLt at hab;exact dT (List.le_of_lt (of_decide_eq_true hab))
end Go.Dol
namespace Go.Proofs.YtecpbcmpncgokaaGreat
open Go.RowKit Go.Dol
def Z7t (w:World) (D:Dk) (e:Ending) (w':World):Prop:=
 ∃A c,e= .returned (.slice A D.l.length c)∧w'.ownsRow w.heap.size 9 1 (.slice A D.l.length c) D.l.length (sc (D.l.map Prod.fst))∧Below w.heap.size w w'
section
variable {w:World} {g m:Nat} {D:Dk}
theorem Dsk.sorted (h:Dsk w g m D) (hK:OkL D):Calls Tryz.prog 132 #[.func (.func 206) #[] #[.pointer (some ⟨w.heap.size,0,none⟩)]] (w.alloc (.cells #[.map (some m)] 140)) (Z7t w D):=by
 obtain ⟨al,hB,hM,M,hal,hby,hp⟩:=h;have hlen:al.length=D.l.length:=by rw [hal,List.length_map,←hp.length_eq,List.length_map]
 have hle:=hK.len;obtain ⟨D0,hown,hsz,hkeys⟩:=hM.owns Tryz.underlying9 (by unfold maxLen;omega);refine ((callsIn_wide (n:=5)).1 (Z7C m al.length D0 _ w hown (by unfold maxLen;omega) (by omega))).mono ?_;rintro e w' ⟨v,ss,rfl,hS,hrow,_,hb⟩;have hns:al.map Prod.fst=((M.map Prod.fst).map Prod.fst).map Value.string:=by
  rw [hal,List.map_map,List.map_map,List.map_map]
  rfl
 have hperm:ss.Perm (D.l.map fun f=>f.1.data.toList):=by
  refine hS.trans ((hkeys _ hns).trans ?_);rw [List.map_map];exact hp.map _
 have hsl:ss.length=D.l.length:=by rw [hperm.length_eq,List.length_map]
 rw [Zak hK.ord hperm,List.map_map,hsl] at hrow;have hxs:(D.l.map (Go.Proofs.encStr∘fun f=>f.1.data.toList))=sc (D.l.map Prod.fst):=by
  unfold sc;rw [List.map_map];exact List.map_congr_left fun f _=>rfl
 rw [hxs] at hrow;have hbl:Below w.heap.size w w':=((bR _ _).alloc (lR _) _).trans (hb.mono (by simp));have hrow':w'.ownsRow w.heap.size 9 1 v D.l.length (sc (D.l.map Prod.fst)):=World.ownsRow.mono hrow (by simp);have hv: ∃A c,v= .slice A D.l.length c:=by
  rcases hrow'.2 with ⟨rfl,h0⟩ | ⟨q,cap,cur,rfl,_⟩
  ·exact ⟨none,0,by rw [h0]⟩
  ·exact ⟨_,cap,rfl⟩
 obtain ⟨A,c,rfl⟩:=hv;exact ⟨A,c,rfl,hrow',hbl⟩
theorem Zdc (mb:Option Nat) (W:World):Calls Tryz.prog 133 #[.map mb] W fun e w'=>e= .returned (.func (.func 206) #[] #[.pointer (some ⟨W.heap.size,0,none⟩)])∧w'=W.alloc (.cells #[.map mb] 140):=
 (callsIn_wide (n:=5)).1 (ZbF mb W)
set_option maxRecDepth 100000 in
set_option maxHeartbeats 800000 in
theorem Z0T (h:Dsk w g m D) (hK:OkL D):Calls Tryz.prog 59 #[.pointer (some ⟨g,0,none⟩)] w (Z7t w D):=by
 obtain ⟨k0,k1,k2,k3,k4,k5⟩:=h.cells;have HS:=qI (h.sorted hK);have HK:=qI (Zdc (some m) w);go_in
 go_wp2_with (first
  | (go_at_call 88;refine (Z04 h).mono ?_;rintro e w' ⟨rfl,hw⟩;obtain rfl:=hw.symm)
  | (go_at_call 133;refine HK.out.mono ?_;rintro e w' ⟨rfl,rfl⟩)
  | (go_at_call 132;refine HS.out.mono ?_;rintro e w' ⟨A,c,rfl,ho,hb⟩))
 go_ret;exact ⟨A,c,rfl,ho,hb⟩
theorem Zbw (h:Dsk w g m D) (hK:OkD D):Calls Tryz.prog 59 #[.pointer (some ⟨g,0,none⟩)] w (Z7t w D):=Z0T h hK.toL
end
end Go.Proofs.YtecpbcmpncgokaaGreat
set_option linter.unusedVariables false
namespace Go.Dol
open Go.RowKit
theorem ZjU (s:BA) {k:Nat} (h:k<s.size):s[k]'h=s.data.toList[k]'(by rw [Zq];exact h):=rfl
end Go.Dol
namespace Go.Proofs.YtecpbcmpncgokaaGreat
open Go.RowKit Go.Dol
section
variable {w w':World} {g:Nat} {D:Dk}
end
section
variable {w w':World} {g:Nat} {D:Dk}
end
end Go.Proofs.YtecpbcmpncgokaaGreat
namespace Go.Dol
open Go.RowKit
end Go.Dol
namespace Go.Proofs.YtecpbcmpncgokaaGreat
open Go.RowKit Go.Dol
section
variable {w w':World} {g:Nat} {D:Dk}
end
end Go.Proofs.YtecpbcmpncgokaaGreat
namespace Go.Dol
open Go.RowKit
end Go.Dol
namespace Go.Proofs.YtecpbcmpncgokaaGreat
open Go.RowKit Go.Dol
section
variable {w w':World} {g:Nat} {D:Dk}
end
section
variable {w w':World} {g:Nat} {D:Dk}
end
end Go.Proofs.YtecpbcmpncgokaaGreat
namespace Go.Dol
open Go.RowKit
end Go.Dol
namespace Go.Proofs.YtecpbcmpncgokaaGreat
open Go.RowKit Go.Dol
section
variable {w w':World} {g:Nat} {D:Dk}
end
section
variable {w w':World} {g:Nat} {D:Dk}
end
section
variable {w w':World} {g:Nat} {D:Dk}
end
end Go.Proofs.YtecpbcmpncgokaaGreat
namespace Go.Dol
open Go.RowKit
end Go.Dol
namespace Go.Proofs.YtecpbcmpncgokaaGreat
open Go.RowKit Go.Dol
section
variable {w w':World} {g:Nat} {D:Dk}
end
end Go.Proofs.YtecpbcmpncgokaaGreat
namespace Go.Dol
open Go.RowKit
end Go.Dol
namespace Go.Proofs.YtecpbcmpncgokaaGreat
open Go.RowKit Go.Dol
section
variable {w w':World} {g:Nat} {D:Dk}
end
end Go.Proofs.YtecpbcmpncgokaaGreat
namespace Go.Dol
open Go.RowKit
end Go.Dol
namespace Go.Proofs.YtecpbcmpncgokaaGreat
open Go.RowKit Go.Dol
section
variable {w w':World} {g:Nat} {D:Dk}
end
section
variable {w:World} {g:Nat} {D:Dk}
end
end Go.Proofs.YtecpbcmpncgokaaGreat
