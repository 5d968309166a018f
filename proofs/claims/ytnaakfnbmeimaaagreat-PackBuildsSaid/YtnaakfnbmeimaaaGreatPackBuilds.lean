/- The walk of the law PackBuilds. Conditions: the form's reach. -/
import Derived.Test.YtnaakfnbmeimaaaGreatRPk4
import Derived.Test.YtnaakfnbmeimaaaGreatPckAwake
import Derived.Test.YtnaakfnbmeimaaaGreatPackIdsLaw
set_option linter.unusedVariables false
namespace Go.Proofs.YtnaakfnbmeimaaaGreat
open Go.RowKit Go.Dol
theorem raws_len {os : List Go.Dol.Obj} {ms : List RowB} {ys : List RowB} (h : ys.map (·.l) = rawsL geS os (ms.map (·.l))) (hm : ∀ x ∈ ms,x.l.length ≤ 140737488351232) : ∀ x ∈ ys,x.l.length ≤ 140737488351232:=fun x hx => by
 have h1 : x.l ∈ rawsL geS os (ms.map (·.l)):=by rw [← h]; exact List.mem_map.2 ⟨x,hx,rfl⟩
 unfold rawsL at h1
 rcases List.mem_append.1 h1 with h1 | h1
 ·have h2 : x.l ∈ rawsL geS os []:=by
   unfold rawsL
   rw [List.take_nil,List.append_nil]
   exact h1
  have:=obj_few _ (raws_objs os _ h2)
  omega
 ·obtain ⟨y,hy,e⟩:=List.mem_map.1 (List.mem_of_mem_take h1)
  rw [← e]
  exact hm y hy
set_option maxRecDepth 100000 in
set_option maxHeartbeats 1600000 in
theorem packBuilds_walk (A : Option Addr) (l : List ObA) (c : Nat) (Am : Option Addr) (ms : List RowB) (cm : Nat) (w : World) (hr : Rd w w.heap.size 10 A l.length (oc l)) (hos : Obs w w.heap.size l) (hl : l.length ≤ 140737488351232)
  (hrm : Rd w w.heap.size 1 Am ms.length (rc ms)) (hms : Rws w w.heap.size ms) (hml : ms.length ≤ 140737488351232) (hmb : ∀ x ∈ ms,x.l.length ≤ 140737488351232) :
  Calls Tryz.prog 3 #[.slice A l.length c,.slice Am ms.length cm] w fun e w' => e = .returned (.bool true) ∧ Below w.heap.size w w':=by
 have HA:=Lib.hid (awake_calls w)
 go_enter Tryz.func3,Tryz.ntmps3
 go_wp2_with fail
 refine HA.out.mono ?_
 rintro e w1 ⟨rfl,hb1⟩
 have hs1:=hb1.size
 have HR:=Lib.hid (raws_calls A l c Am ms cm w1 ((hr.below hb1).more hs1) ((hos.below hb1).more hs1) hl ((hrm.below hb1).more hs1) ((hms.below hb1).more hs1) hml)
 clear HA
 go_wp2_with fail
 refine HR.out.mono ?_
 rintro e w2 ⟨ys,A2,c2,hys,rfl,ho2,hf2,hb2,hy44⟩
 have hb02:=hb1.next hb2
 have hs2:=hb02.size
 have HB:=Lib.hid (Build_calls A2 ys c2 w2 (Rd.of_own ho2) hf2.rws (by omega) (raws_len hys.out hmb))
 clear HR ho2 hf2
 go_wp2_with fail
 refine HB.out.mono ?_
 rintro e w3 ⟨hb3,hm3⟩
 have hb03:=hb02.next hb3
 have hs3:=hb03.size
 have HR2:=Lib.hid (raws_calls A l c Am ms cm w3 ((hr.below hb03).more hs3) ((hos.below hb03).more hs3) hl ((hrm.below hb03).more hs3) ((hms.below hb03).more hs3) hml)
 clear HB
 obtain ⟨r,hre⟩ : ∃ r,r = buildL geS (ys.map (·.l)):=⟨_,rfl⟩
 rw [← hre] at hm3
 have HRE:=Lib.hid hre
 clear hre
 cases r with
 | none =>
  obtain rfl : e = .returned (.tuple #[.slice none 0 0,.int .i64 1]):=hm3
  go_wp2_with fail
  refine HR2.out.mono ?_
  rintro e w4 ⟨zs,A4,c4,hzs,rfl,ho4,hf4,hb4,hz44⟩
  have hb04:=hb03.next hb4
  have hB2:=refBuild_calls A4 zs c4 w4 (Rd.of_own ho4) hf4.rws (raws_len hzs.out hmb)
  rw [hzs.out,← hys.out,← HRE.out] at hB2
  have HB2:=Lib.hid hB2
  clear hB2 HR2 ho4 hf4
  go_wp2_with fail
  refine HB2.out.mono ?_
  rintro e w5 ⟨hb5,hm5⟩
  obtain rfl : e = .returned (.tuple #[.slice none 0 0,.int .i64 1]):=hm5
  have HS:=Lib.hid (Same_calls none [] 0 none [] 0 w5 0 0 Rd.nil Rd.nil rfl)
  go_wp2_with fail
  refine HS.out.mono ?_
  rintro e w6 ⟨rfl,rfl⟩
  go_wp2_with fail
  go_ret
  exact ⟨rfl,hb04.next hb5⟩
 | some b =>
  obtain ⟨bl,A3,c3,hbl,rfl,ho3,i1,i2⟩:=hm3
  go_wp2_with fail
  refine HR2.out.mono ?_
  rintro e w4 ⟨zs,A4,c4,hzs,rfl,ho4,hf4,hb4,hz44⟩
  have hb04:=hb03.next hb4
  have ho34:=own_belowW ho3 hb4
  have hB2:=refBuild_calls A4 zs c4 w4 (Rd.of_own ho4) hf4.rws (raws_len hzs.out hmb)
  rw [hzs.out,← hys.out,← HRE.out] at hB2
  have HB2:=Lib.hid hB2
  clear hB2 HR2 ho4 hf4 ho3
  go_wp2_with fail
  refine HB2.out.mono ?_
  rintro e w5 ⟨hb5,hm5⟩
  obtain ⟨cl,A5,c5,hcl,rfl,ho5,j1,j2⟩:=hm5
  have ho35:=own_belowW ho34 hb5
  have HS:=Lib.hid (Same_calls A3 bl c3 A5 cl c5 w5 w5.heap.size w5.heap.size (Rd.of_own ho35) (Rd.of_own ho5) (by unfold Hid; rw [hbl.out,hcl.out]))
  clear ho34 ho35 ho5
  go_wp2_with fail
  refine HS.out.mono ?_
  rintro e w6 ⟨rfl,rfl⟩
  go_wp2_with fail
  go_ret
  exact ⟨rfl,hb04.next hb5⟩
end Go.Proofs.YtnaakfnbmeimaaaGreat
