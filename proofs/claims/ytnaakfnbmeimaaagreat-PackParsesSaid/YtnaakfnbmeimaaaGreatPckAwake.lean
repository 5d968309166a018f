/- The walk of the law's awake. Conditions: none. -/
import Derived.Test.YtnaakfnbmeimaaaGreatPckBuild
import Derived.Test.YtnaakfnbmeimaaaGreatPckParse
import Derived.Test.YtnaakfnbmeimaaaGreatPckIds
set_option linter.unusedVariables false
namespace Go.Proofs.YtnaakfnbmeimaaaGreat
open Go.RowKit Go.Dol
def body0 : List UInt8:=bodyL [] ++ sumOf (bodyL [])
theorem bodyL_nil : bodyL [] = [68,80,75,49,0]:=by
 show magicL ++ (num 0 ++ partsL [] 0 []) = _
 rw [partsL,List.append_nil]
 have : num 0 = [0]:=by unfold num; simp
 rw [this]
 rfl
theorem build_nil : buildL geS [] = some body0:=by
 unfold buildL
 rw [if_pos]
 ·rfl
 ·exact ⟨by simp,fun r hr => (List.not_mem_nil hr).elim,by simp⟩
theorem body0_length : body0.length = 37:=by
 unfold body0
 rw [List.length_append,sumOf_length,bodyL_nil]
 rfl
theorem body0_take : body0.take 5 = [68,80,75,49,0]:=by
 unfold body0
 rw [bodyL_nil]
 rfl
set_option maxRecDepth 100000 in
set_option maxHeartbeats 1600000 in
theorem awake_calls (w : World) : Calls Tryz.prog 10 #[] w fun e w' => e = .returned (.bool true) ∧ Below w.heap.size w w':=by
 have hB : Calls Tryz.prog 11 #[.slice none 0 0] w (RetBuild w (some body0)):=by
  have h:=Build_calls none [] 0 w Rd.nil Rws.nil (by simp) (fun x hx => (List.not_mem_nil hx).elim)
  rw [List.map_nil,build_nil] at h
  exact h
 have HB:=Lib.hid hB
 clear hB
 go_enter Tryz.func10,Tryz.ntmps10
 go_wp2_with fail
 refine HB.out.mono ?_
 rintro e w1 ⟨hb1,l,A1,c1,hl,rfl,ho1,i1,i2⟩
 have hll : l.length = 37:=by rw [hl.out]; exact body0_length
 have hP:=Parse_calls A1 l c1 w1 (Rd.of_own ho1) i1 i2 (by omega)
 rw [show parseL geS l = some [] by rw [hl.out]; exact parse_build obj_few build_nil] at hP
 have HP:=Lib.hid hP
 have HLL:=Lib.hid hll
 clear hP HB hll
 go_wp2_with fail
 refine HP.out.mono ?_
 rintro e w2 ⟨hb2,g,ps,A2,c2,m,hps,rfl,hpk⟩
 obtain rfl : ps = []:=List.map_eq_nil_iff.1 hps.out
 have hS:=Lib.hid (Sum_calls none [] 0 w2 Rd.nil (by simp))
 go_wp2_with fail
 refine hS.out.mono ?_
 rintro e w3 ⟨sm,hsm,rfl,hb3⟩
 have h32 : (⟨sm.toArray⟩ : ByteArray).size = 32:=by show sm.toArray.size = 32; simp; rw [hsm.out]; exact sumOf_length _
 have hpk3:=hpk.below hb3
 have hG:=Get_calls hpk3 ⟨sm.toArray⟩ (by rw [h32]; unfold maxLen; omega) (fun x hx => (List.not_mem_nil hx).elim)
 rw [show getP (ptp []) ⟨sm.toArray⟩ = .error 6 by unfold getP; rw [if_pos h32]; rfl] at hG
 have HG:=Lib.hid hG
 clear hG hS
 go_wp2_with fail
 refine HG.out.mono ?_
 rintro e w4 ⟨hb4,rfl⟩
 have hI:=Ids_calls (hpk3.below hb4) (by simp)
 have HI:=Lib.hid hI
 clear hI
 have hr4:=(Rd.of_own ho1).belowW (hb2.next (hb3.next hb4)) (Nat.le_refl _)
 obtain ⟨m5,hm5,hm51,hm52,hm5p,_,hsl⟩:=sl_to (k:=5) 5 rfl hr4 (by have:=HLL.out; omega) i1 i2
 have hcv:=conv8f (c:=c1) hm5p.1
 have hm5e : m5 = [68,80,75,49,0]:=by rw [hm5.out,hl.out]; exact body0_take
 have d1 : ((l.length : Int) == 37) = true:=by have:=HLL.out; simp; omega
 have hs2:=hb2.size
 have hgw : w.heap.size ≤ g:=Nat.le_trans hb1.size hpk.gb
 have hb04:=hb1.next (hb2.next (hb3.next hb4))
 subst hm5e
 have hcv5 : (convert 25 9 (.slice A1 5 c1)).run Tryz.prog w4 = .ok (.string ⟨#[68,80,75,49,0]⟩) w4:=hcv
 clear hcv
 clear hb2 hb3 hb4 hr4 ho1 hm5 hm5p hpk hpk3 HLL
 go_wp2_with (go_at_call 22; refine HI.out.mono ?_; rintro e w5 ⟨⟨A5,c5,rfl,_⟩,_,hg5⟩)
 go_ret
 exact ⟨rfl,hb04.trans (below_of_grown hg5 hgw hb04.size)⟩
end Go.Proofs.YtnaakfnbmeimaaaGreat
