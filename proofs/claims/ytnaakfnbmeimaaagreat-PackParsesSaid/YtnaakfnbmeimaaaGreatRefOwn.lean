/- The document's Open and Apply: what they hand back lies in a row of its own. Conditions: as each law names. -/
import Derived.Test.YtnaakfnbmeimaaaGreatPressA
import Derived.Test.YtnaakfnbmeimaaaGreatDeltaA
import Derived.Deep.RegionHeld3
set_option maxRecDepth 100000
set_option maxHeartbeats 4000000
set_option linter.unusedVariables false
namespace Go.Proofs.YtnaakfnbmeimaaaGreat
open Go.RowKit Go.Dol
theorem refOpen_own (A : Option Addr) (l : List UInt8) (c : Nat) (most : Int) (w : World) (hr : Rd w w.heap.size 1 A l.length (bc l)) (hl : l.length ≤ 140737488355328) (hc : l.length ≤ c) (hm : most ≤ 70368744177664) :
  Calls Tryz.prog 81 #[.slice A l.length c,.int .i64 most] w (RetOpenN w (openL l most)):=by
 obtain ⟨r,hre⟩ : ∃ r,r = openL l most:=⟨_,rfl⟩
 rw [← hre]
 have HR:=Lib.hid hre
 clear hre
 go_enter Tryz.func81,Tryz.ntmps81
 go_wp2_with fail
 refine (RefTakeNum_calls A l c w hr hl hc).mono ?_
 intro e w1 h1
 rcases ht : takeNum l with _ | ⟨size,q⟩
 ·rw [ht] at h1
  obtain ⟨rfl,hb1⟩:=h1
  have hn : Hid (r = none):=by unfold Hid; rw [HR.out,openL,ht]
  clear ht
  go_wp2_with fail
  go_ret2
  rw [hn.out]
  exact ⟨rfl,hb1⟩
 rw [ht] at h1
 obtain ⟨q1,A1,c1,e1,rfl,ho1,hb1,i1,i2⟩:=h1
 have hql : q1.length < l.length:=by rw [e1.out]; exact takeNum_less ht
 by_cases hbig : most < (size : Int)
 ·have hn : Hid (r = none):=by
   unfold Hid
   rw [HR.out,openL,ht]
   simp only
   rw [if_neg (by omega)]
  clear ht
  go_wp2_with fail
  go_ret2
  rw [hn.out]
  exact ⟨rfl,hb1⟩
 have hgo : Hid (r = openGo size [] q1):=by
  unfold Hid
  rw [HR.out,openL,ht,e1.out]
  simp only
  rw [if_pos (by omega)]
 have hsm : size ≤ 70368744177664:=by omega
 clear ht
 go_wp2_with fail
 go_loopw [0,8] (fun p out wr => OpenRel size r w p out wr) (fun p _ _ => lenV p)
 case atStart =>
  exact ⟨q1,[],A1,none,c1,0,rfl,rfl,hgo,Nat.zero_le _,by omega,Seg.of_own ho1,⟨by simp [bc],.inl ⟨rfl,rfl⟩⟩,Apart.nil _ _,hb1⟩
 case round =>
  clear ho1 hb1 hgo e1 hql
  obtain ⟨p,o,Ap,Ao,cp,co,rfl,rfl,hgo,hos,hpl,hseg,hown,hap,hbel⟩:=hrel
  have hs:=hbel.size
  have hol:=own_le hown
  have hpc:=hseg.2.1
  rcases Nat.eq_zero_or_pos p.length with hp0 | hp0
  ·have hpe : p = []:=List.eq_nil_of_length_eq_zero hp0
   have HP:=Lib.hid hp0
   have hpi : ¬ ((0 : Int) < (p.length : Int)):=by omega
   have hpd : decide (0 < p.length) = false:=by simp; omega
   by_cases hfin : o.length = size
   ·have hq : Hid (r = some o):=by unfold Hid; rw [hgo.out,hpe,openGo_nil,if_pos hfin]
    have HF:=Lib.hid hfin
    have hne : ((o.length : Int) != (size : Int)) = false:=by simp; omega
    clear hpe hfin hp0
    go_wp2_with fail
    go_ret2
    rw [hq.out]
    exact ⟨o,Ao,co,rfl,rfl,hown,hbel,hol.1,hol.2⟩
   ·have hq : Hid (r = none):=by unfold Hid; rw [hgo.out,hpe,openGo_nil,if_neg hfin]
    have HF:=Lib.hid hfin
    have hne : ((o.length : Int) != (size : Int)) = true:=by simp; omega
    clear hpe hfin hp0
    go_wp2_with fail
    go_ret2
    rw [hq.out]
    exact ⟨rfl,hbel⟩
  ·have hpi : (0 : Int) < (p.length : Int):=by omega
   have hpne : Hid (p ≠ []):=fun h => by rw [h] at hp0; simp at hp0
   go_wp2_with fail
   refine (RefTakeNum_calls Ap p cp wr hseg.rd hpl hpc).mono ?_
   intro e w2 h2
   rcases ht : takeNum p with _ | ⟨t,q⟩
   ·rw [ht] at h2
    obtain ⟨rfl,hb2⟩:=h2
    have hn : Hid (r = none):=by unfold Hid; rw [hgo.out,openGo_none hpne.out ht]
    clear ht
    go_wp2_with fail
    go_ret2
    rw [hn.out]
    exact ⟨rfl,hbel.trans (hb2.mono hs)⟩
   rw [ht] at h2
   obtain ⟨q2,A2,c2,e2,rfl,ho2,hb2,j1,j2⟩:=h2
   have hql : q2.length < p.length:=by rw [e2.out]; exact takeNum_less ht
   have htm : t ≤ 4611686018427387903:=(num_takeNum ht).2
   have HT:=Lib.hid ht
   have hs2:=hb2.size
   have hown2:=own_belowW hown hb2
   have hap2 : Apart A2 c2 (.slice Ao o.length co):=Apart.new hown (Seg.of_own ho2) (Nat.le_refl _)
   have hbel2 : Below w.heap.size w w2:=hbel.trans (hb2.mono hs)
   clear ht hap hseg hown
   obtain ⟨y,hy⟩ : ∃ y,y = t / 2:=⟨_,rfl⟩
   have hyi : (t : Int) / 2 = (y : Int):=by omega
   have hyq : (t : Int).tdiv 2 = (y : Int):=by rw [Int.tdiv_eq_ediv_of_nonneg (by omega)]; exact hyi
   have HY:=Lib.hid hy
   have hyb : y ≤ 2305843009213693951:=by omega
   clear hy
   by_cases hev : t % 2 = 0
   ·have hm0 : (t : Int) % 2 = 0:=by omega
    have hm1 : (t : Int).tmod 2 = 0:=by rw [Int.tmod_eq_emod_of_nonneg (by omega)]; exact hm0
    have hrun : Hid (r = if y + 1 ≤ size - o.length ∧ y + 1 ≤ q2.length then openGo size (o ++ q2.take (y + 1)) (q2.drop (y + 1)) else none):=by
     unfold Hid
     rw [hgo.out,openGo_run HT.out hev,← HY.out,e2.out]
    have HEV:=Lib.hid hev
    clear hev
    by_cases hroom : y + 1 ≤ size - o.length
    ·have hri : (y : Int) + 1 ≤ (size : Int) - (o.length : Int):=by omega
     by_cases hfit : y + 1 ≤ q2.length
     ·rw [if_pos ⟨hroom,hfit⟩] at hrun
      have hfi : (y : Int) + 1 ≤ (q2.length : Int):=by omega
      go_wp2_with (at_builtin; refine app8 rfl (.tmp 63) (.tmp 66) rfl w.heap.size _ o.length o rfl hown2 w2.heap.size A2 (y + 1) c2 (q2.take (y + 1)) rfl ((Rd.of_own ho2).head (l:=q2) hfit) (by omega) (by omega) ?_)
      intro o3 Ao3 co3 w3 e3 ho3 hb3 hg3 hw3 j3 j4
      have ho3l : Hid (o3.length = o.length + (y + 1)):=by unfold Hid; rw [e3.out,List.length_append,List.length_take]; omega
      have hseg2:=Seg.of_own ho2
      have hseg3:=(hseg2.keepR hg3 hap2).lower (base':=w.heap.size) hs
      have hap3 : Apart A2 c2 (.slice Ao3 o3.length co3):=hap2.app hseg2 (Nat.le_refl _) hw3.out
      have htl:=hseg3.tail8 hfit
      have hbel3:=hbel2.trans hb3
      have hr3 : Hid (r = openGo size o3 (q2.drop (y + 1))):=by unfold Hid; rw [hrun.out,e3.out]
      have hdl : Hid ((q2.drop (y + 1)).length = q2.length - (y + 1)):=by unfold Hid; simp
      by_cases hcc : c2 = y + 1
      ·rw [if_pos hcc] at htl
       have HCC:=Lib.hid hcc
       go_wp2_with fail
       rw [← hdl.out] at htl ⊢
       have hz : c2 - (y + 1) = 0:=by have:=HCC.out; omega
       rw [hz] at htl
       refine ⟨⟨q2.drop (y + 1),o3,A2,Ao3,0,co3,rfl,rfl,hr3,by rw [ho3l.out]; omega,by rw [hdl.out]; omega,htl,ho3,hap3.piece (by omega) rfl,hbel3⟩,?_⟩
       show (q2.drop (y + 1)).length < p.length
       rw [hdl.out]
       omega
      ·rw [if_neg hcc,add_spelt] at htl
       have HCC:=Lib.hid hcc
       go_wp2_with fail
       rw [← hdl.out] at htl ⊢
       refine ⟨⟨q2.drop (y + 1),o3,_,Ao3,c2 - (y + 1),co3,rfl,rfl,hr3,by rw [ho3l.out]; omega,by rw [hdl.out]; omega,htl,ho3,hap3.piece (by omega) (by rw [← add_spelt,segBlock_add]),hbel3⟩,?_⟩
       show (q2.drop (y + 1)).length < p.length
       rw [hdl.out]
       omega
     ·rw [if_neg (fun hh => hfit hh.2)] at hrun
      have hfi : ¬ ((y : Int) + 1 ≤ (q2.length : Int)):=by omega
      go_wp2_with fail
      go_ret2
      rw [hrun.out]
      exact ⟨rfl,hbel2⟩
    ·rw [if_neg (fun hh => hroom hh.1)] at hrun
     have hri : ¬ ((y : Int) + 1 ≤ (size : Int) - (o.length : Int)):=by omega
     go_wp2_with fail
     go_ret2
     rw [hrun.out]
     exact ⟨rfl,hbel2⟩
   ·have hm0 : (t : Int) % 2 = 1:=by omega
    have hm1 : (t : Int).tmod 2 = 1:=by rw [Int.tmod_eq_emod_of_nonneg (by omega)]; exact hm0
    have hod : Hid (t % 2 = 1):=by unfold Hid; omega
    clear hev
    by_cases hroom : y + 4 ≤ size - o.length
    ·have hri : (y : Int) + 4 ≤ (size : Int) - (o.length : Int):=by omega
     go_wp2_with fail
     refine (RefTakeNum_calls A2 q2 c2 w2 (Rd.of_own ho2) (by omega) j1).mono ?_
     intro e w3 h3
     rcases ht : takeNum q2 with _ | ⟨d,q⟩
     ·rw [ht] at h3
      obtain ⟨rfl,hb3⟩:=h3
      have hn : Hid (r = none):=by unfold Hid; rw [hgo.out,openGo_copy_none HT.out hod.out (by rw [← e2.out]; exact ht)]
      clear ht
      go_wp2_with fail
      go_ret2
      rw [hn.out]
      exact ⟨rfl,hbel2.trans (hb3.mono (Nat.le_trans hs hs2))⟩
     rw [ht] at h3
     obtain ⟨q3,A3,c3,e3,rfl,ho3,hb3,j3,j4⟩:=h3
     have hql3 : q3.length < q2.length:=by rw [e3.out]; exact takeNum_less ht
     have hdm : d ≤ 4611686018427387903:=(num_takeNum ht).2
     have hcp : Hid (r = if y + 4 ≤ size - o.length ∧ y + 4 ≤ 259 ∧ 1 ≤ d ∧ d ≤ o.length ∧ d ≤ 4096 then openGo size (copyN o d (y + 4)) q3 else none):=by
      unfold Hid
      rw [hgo.out,openGo_copy HT.out hod.out (by rw [← e2.out]; exact ht),← HY.out,e3.out]
     have hs3:=hb3.size
     have hbel3:=hbel2.trans (hb3.mono (Nat.le_trans hs hs2))
     have hown3:=own_belowW hown2 hb3
     have hap3 : Apart A3 c3 (.slice Ao o.length co):=Apart.new hown2 (Seg.of_own ho3) (Nat.le_refl _)
     have hseg3:=(Seg.of_own ho3).lower (base':=w.heap.size) (Nat.le_trans hs hs2)
     clear ht hown2 hap2 ho2
     have hbad : ¬ (y + 4 ≤ 259 ∧ 1 ≤ d ∧ d ≤ o.length ∧ d ≤ 4096) → Hid (r = none):=fun hh => by
      unfold Hid
      rw [hcp.out,if_neg (fun h => hh h.2)]
     have HB:=Lib.hid hbad
     clear hbad
     by_cases g1 : y + 4 ≤ 259
     ·have g1i : (y : Int) + 4 ≤ 259:=by omega
      by_cases g2 : 1 ≤ d
      ·have g2i : ¬ ((d : Int) < 1):=by omega
       have g2d : decide ((d : Int) < 1) = false:=by simp; omega
       by_cases g3 : d ≤ o.length
       ·have g3i : ¬ ((o.length : Int) < (d : Int)):=by omega
        have g3d : decide (o.length < d) = false:=by simp; omega
        by_cases g4 : d ≤ 4096
        ·have g4i : ¬ ((4096 : Int) < (d : Int)):=by omega
         have g4d : decide ((4096 : Int) < (d : Int)) = false:=by simp; omega
         rw [if_pos ⟨hroom,g1,g2,g3,g4⟩] at hcp
         go_wp2_with fail
         go_loopw [8,15] (fun out k wr => CopyRel o d (y + 4) A3 c3 q3 w out k wr) (fun _ k _ => 260 - (intOf k).toNat)
         case atStart => exact ⟨0,o,Ao,co,rfl,rfl,Nat.zero_le _,rfl,rfl,hseg3,hown3,hap3,hbel3⟩
         case round =>
          clear hseg3 hown3 hap3 hbel3 ho3 hb3 hs3
          obtain ⟨m,o4,Ao4,co4,rfl,rfl,hm4,hcpy,ho4l,hseg4,hown4,hap4,hbel4⟩:=hrel
          have hs4:=hbel4.size
          have ho4b : o4.length ≤ o.length + m:=by have:=ho4l.out; omega
          have ho4c : o.length + m ≤ o4.length:=by have:=ho4l.out; omega
          by_cases hlt : m < y + 4
          ·have hlti : (m : Int) < (y : Int) + 4:=by omega
           have hdo : o4.length - d < o4.length:=by omega
           obtain ⟨bo,offo,rfl,hbo,hcell⟩:=(Rd.of_own hown4).at_ (by omega)
           have hcx:=hcell (o4.length - d) _ (bc_get o4 (o4.length - d) hdo)
           obtain ⟨x,hx⟩ : ∃ x,x = (o4[o4.length - d]).toNat:=⟨_,rfl⟩
           have hx256 : x < 256:=by have:=(o4[o4.length - d]).toNat_lt; omega
           rw [← hx] at hcx
           have f1 : IntKind.i64.wrap ((o4.length : Int) - (d : Int)) = (o4.length : Int) - (d : Int):=IntWalk.i64_in _ (by omega)
           have f2 : ((o4.length : Int) - (d : Int)).toNat = o4.length - d:=by omega
           have f3 : (0 : Int) ≤ (o4.length : Int) - (d : Int):=by omega
           have f4 : (o4.length : Int) - (d : Int) < (o4.length : Int):=by omega
           have hgd : o4.getD (o4.length - d) 0 = UInt8.ofNat x:=by
            rw [List.getD_eq_getElem?_getD,List.getElem?_eq_getElem hdo,hx]
            simp
           have HG:=Lib.hid hgd
           clear hx hgd hcell
           go_wp2_with (at_builtin; refine push8 rfl (.tmp 103) (.tmp 111) rfl w.heap.size _ o4.length o4 rfl hown4 rfl (by omega) (by omega) (by omega) hs4 ?_)
           intro b5 o5 Ao5 co5 w5 eb e5 ho5 hb5 hg5 hw5 j5 j6
           go_wp2_with fail
           have hcpy' : Hid (copyN o d (y + 4) = copyN o5 d (y + 4 - (m + 1))):=by
            have hb' : b5 = UInt8.ofNat x:=byte_of eb rfl
            unfold Hid
            rw [hcpy.out,show y + 4 - m = (y + 4 - (m + 1)) + 1 by omega,copyN,HG.out,e5.out,hb']
           have ho5l : Hid (o5.length = o.length + (m + 1)):=by unfold Hid; rw [e5.out,List.length_append,ho4l.out]; rfl
           exact ⟨⟨m + 1,o5,Ao5,co5,rfl,by go_num,by omega,hcpy',ho5l,hseg4.keepR hg5 hap4,ho5,hap4.app hseg4 (Nat.le_succ _) hw5.out,hbel4.trans hb5⟩,by simp [intOf]; omega⟩
          ·have hlti : ¬ ((m : Int) < (y : Int) + 4):=by omega
           have hmy : m = y + 4:=by omega
           have hfin : Hid (r = openGo size o4 q3):=by
            unfold Hid
            rw [hcp.out,hcpy.out,hmy,Nat.sub_self]
            rfl
           have HM:=Lib.hid hmy
           have ho4z : o4.length ≤ size:=by omega
           clear hmy
           go_wp2_with fail
           exact ⟨⟨q3,o4,A3,Ao4,c3,co4,rfl,rfl,hfin,ho4z,by omega,hseg4,hown4,hap4,hbel4⟩,by show q3.length < p.length; omega⟩
        ·have g4i : (4096 : Int) < (d : Int):=by omega
         have hn:=HB.out (fun h => g4 h.2.2.2)
         go_wp2_with fail
         go_ret2
         rw [hn.out]
         exact ⟨rfl,hbel3⟩
       ·have g3i : (o.length : Int) < (d : Int):=by omega
        have hn:=HB.out (fun h => g3 h.2.2.1)
        go_wp2_with fail
        go_ret2
        rw [hn.out]
        exact ⟨rfl,hbel3⟩
      ·have g2i : (d : Int) < 1:=by omega
       have hn:=HB.out (fun h => g2 h.2.1)
       go_wp2_with fail
       go_ret2
       rw [hn.out]
       exact ⟨rfl,hbel3⟩
     ·have g1i : ¬ ((y : Int) + 4 ≤ 259):=by omega
      have hn:=HB.out (fun h => g1 h.1)
      go_wp2_with fail
      go_ret2
      rw [hn.out]
      exact ⟨rfl,hbel3⟩
    ·have hri : ¬ ((y : Int) + 4 ≤ (size : Int) - (o.length : Int)):=by omega
     have hn : Hid (r = none):=by unfold Hid; rw [hgo.out,openGo_copy_bad HT.out hod.out (by rw [← HY.out]; omega)]
     go_wp2_with fail
     go_ret2
     rw [hn.out]
     exact ⟨rfl,hbel2⟩
theorem refApply_own (Ab : Option Addr) (b : List UInt8) (cb : Nat) (A : Option Addr) (l : List UInt8) (c : Nat) (most : Int) (w : World) (hrb : Rd w w.heap.size 1 Ab b.length (bc b)) (hbl : b.length ≤ 140737488355328) (hcb : b.length ≤ cb)
  (hr : Rd w w.heap.size 1 A l.length (bc l)) (hl : l.length ≤ 140737488355328) (hc : l.length ≤ c) (hm : most ≤ 70368744177664) :
  Calls Tryz.prog 82 #[.slice Ab b.length cb,.slice A l.length c,.int .i64 most] w (RetOpenN w (applyL b l most)):=by
 obtain ⟨r,hre⟩ : ∃ r,r = applyL b l most:=⟨_,rfl⟩
 rw [← hre]
 have HR:=Lib.hid hre
 clear hre
 go_enter Tryz.func82,Tryz.ntmps82
 go_wp2_with fail
 refine (RefTakeNum_calls A l c w hr hl hc).mono ?_
 intro e w1 h1
 rcases ht : takeNum l with _ | ⟨nb,q⟩
 ·rw [ht] at h1
  obtain ⟨rfl,hb1⟩:=h1
  have hn : Hid (r = none):=by unfold Hid; rw [HR.out,applyL,ht]
  clear ht
  go_wp2_with fail
  go_ret2
  rw [hn.out]
  exact ⟨rfl,hb1⟩
 rw [ht] at h1
 obtain ⟨q1,A1,c1,e1,rfl,ho1,hb1,i1,i2⟩:=h1
 have hql : q1.length < l.length:=by rw [e1.out]; exact takeNum_less ht
 by_cases hnb : nb = b.length
 ·have hnz : ((nb : Int) != (b.length : Int)) = false:=by simp; omega
  have h2 : Hid (r = match takeNum q1 with | none => none | some (size,q2) => if (size : Int) ≤ most then dGo b size [] q2 else none):=by
   unfold Hid
   rw [HR.out,applyL,ht,e1.out]
   simp only
   rw [if_pos hnb]
   try (cases takeNum q <;> rfl)
  have HNB:=Lib.hid hnb
  clear ht hnb
  have s1:=hb1.size
  go_wp2_with fail
  refine (RefTakeNum_calls A1 q1 c1 w1 (Rd.of_own ho1) (by omega) i1).mono ?_
  intro e w2 h3
  rcases ht : takeNum q1 with _ | ⟨size,q⟩
  ·rw [ht] at h3
   obtain ⟨rfl,hb2⟩:=h3
   have hn : Hid (r = none):=by unfold Hid; rw [h2.out,ht]
   clear ht
   go_wp2_with fail
   go_ret2
   rw [hn.out]
   exact ⟨rfl,hb1.next hb2⟩
  rw [ht] at h3
  obtain ⟨q2,A2,c2,e2,rfl,ho2,hb2,i3,i4⟩:=h3
  have hql2 : q2.length < q1.length:=by rw [e2.out]; exact takeNum_less ht
  by_cases hbig : most < (size : Int)
  ·have hn : Hid (r = none):=by
    unfold Hid
    rw [h2.out,ht]
    simp only
    rw [if_neg (by omega)]
   clear ht
   go_wp2_with fail
   go_ret2
   rw [hn.out]
   exact ⟨rfl,hb1.next hb2⟩
  have hgo : Hid (r = dGo b size [] q2):=by
   unfold Hid
   rw [h2.out,ht,e2.out]
   simp only
   rw [if_pos (by omega)]
  have hsm : size ≤ 70368744177664:=by omega
  clear ht
  go_wp2_with fail
  go_loopw [9,12] (fun p out wr => ApplyRel b size r w p out wr) (fun p _ _ => lenV p)
  case atStart =>
   exact ⟨q2,[],A2,none,c2,0,rfl,rfl,hgo,Nat.zero_le _,by omega,(Seg.of_own ho2).lower s1,⟨by simp [bc],.inl ⟨rfl,rfl⟩⟩,Apart.nil _ _,hb1.next hb2⟩
  case round =>
   clear ho1 hb1 hgo e1 hql ho2 hb2 e2 hql2 h2 i1 i2 i3 i4 s1
   obtain ⟨p,o,Ap,Ao,cp,co,rfl,rfl,hgo,hos,hpl,hseg,hown,hap,hbel⟩:=hrel
   have hs:=hbel.size
   have hol:=own_le hown
   have hpc:=hseg.2.1
   rcases Nat.eq_zero_or_pos p.length with hp0 | hp0
   ·have hpe : p = []:=List.eq_nil_of_length_eq_zero hp0
    have HP:=Lib.hid hp0
    have hpi : ¬ ((0 : Int) < (p.length : Int)):=by omega
    have hpd : decide (0 < p.length) = false:=by simp; omega
    by_cases hfin : o.length = size
    ·have hq : Hid (r = some o):=by unfold Hid; rw [hgo.out,hpe,dGo_nil,if_pos hfin]
     have HF:=Lib.hid hfin
     have hne : ((o.length : Int) != (size : Int)) = false:=by simp; omega
     clear hpe hfin hp0
     go_wp2_with fail
     go_ret2
     rw [hq.out]
     exact ⟨o,Ao,co,rfl,rfl,hown,hbel,hol.1,hol.2⟩
    ·have hq : Hid (r = none):=by unfold Hid; rw [hgo.out,hpe,dGo_nil,if_neg hfin]
     have HF:=Lib.hid hfin
     have hne : ((o.length : Int) != (size : Int)) = true:=by simp; omega
     clear hpe hfin hp0
     go_wp2_with fail
     go_ret2
     rw [hq.out]
     exact ⟨rfl,hbel⟩
   ·have hpi : (0 : Int) < (p.length : Int):=by omega
    have hpne : Hid (p ≠ []):=fun h => by rw [h] at hp0; simp at hp0
    go_wp2_with fail
    refine (RefTakeNum_calls Ap p cp wr hseg.rd hpl hpc).mono ?_
    intro e w2 h2
    rcases ht : takeNum p with _ | ⟨t,q⟩
    ·rw [ht] at h2
     obtain ⟨rfl,hb2⟩:=h2
     have hn : Hid (r = none):=by unfold Hid; rw [hgo.out,dGo_none hpne.out ht]
     clear ht
     go_wp2_with fail
     go_ret2
     rw [hn.out]
     exact ⟨rfl,hbel.trans (hb2.mono hs)⟩
    rw [ht] at h2
    obtain ⟨q2,A2,c2,e2,rfl,ho2,hb2,j1,j2⟩:=h2
    have hql : q2.length < p.length:=by rw [e2.out]; exact takeNum_less ht
    have htm : t ≤ 4611686018427387903:=(num_takeNum ht).2
    have HT:=Lib.hid ht
    have hs2:=hb2.size
    have hown2:=own_belowW hown hb2
    have hap2 : Apart A2 c2 (.slice Ao o.length co):=Apart.new hown (Seg.of_own ho2) (Nat.le_refl _)
    have hbel2 : Below w.heap.size w w2:=hbel.trans (hb2.mono hs)
    clear ht hap hseg hown
    obtain ⟨y,hy⟩ : ∃ y,y = t / 2:=⟨_,rfl⟩
    have hyi : (t : Int) / 2 = (y : Int):=by omega
    have hyq : (t : Int).tdiv 2 = (y : Int):=by rw [Int.tdiv_eq_ediv_of_nonneg (by omega)]; exact hyi
    have HY:=Lib.hid hy
    have hyb : y ≤ 2305843009213693951:=by omega
    clear hy
    have hbadr : ¬ (y + 1 ≤ size - o.length) → Hid (r = none):=fun hh => by
     unfold Hid
     rw [hgo.out]
     exact dGo_big HT.out (by rw [← HY.out]; exact hh)
    have HBR:=Lib.hid hbadr
    clear hbadr
    by_cases hroom : y + 1 ≤ size - o.length
    ·have hri : ¬ ((size : Int) - (o.length : Int) < (y : Int) + 1):=by omega
     have hrd : decide ((size : Int) - (o.length : Int) < (y : Int) + 1) = false:=by simp; omega
     clear HBR
     by_cases hev : t % 2 = 0
     ·have hm0 : (t : Int) % 2 = 0:=by omega
      have hm1 : (t : Int).tmod 2 = 0:=by rw [Int.tmod_eq_emod_of_nonneg (by omega)]; exact hm0
      have hrun : Hid (r = if y + 1 ≤ size - o.length ∧ y + 1 ≤ q2.length then dGo b size (o ++ q2.take (y + 1)) (q2.drop (y + 1)) else none):=by
       unfold Hid
       rw [hgo.out,dGo_run HT.out hev,← HY.out,e2.out]
      have HEV:=Lib.hid hev
      clear hev
      by_cases hfit : y + 1 ≤ q2.length
      ·rw [if_pos ⟨hroom,hfit⟩] at hrun
       have hfi : ¬ ((q2.length : Int) < (y : Int) + 1):=by omega
       have hfd : decide ((q2.length : Int) < (y : Int) + 1) = false:=by simp; omega
       go_wp2_with (at_builtin; refine app8 rfl (.tmp 98) (.tmp 106) rfl w.heap.size _ o.length o rfl hown2 w2.heap.size A2 (y + 1) c2 (q2.take (y + 1)) rfl ((Rd.of_own ho2).head (l:=q2) hfit) (by omega) (by omega) ?_)
       intro o3 Ao3 co3 w3 e3 ho3 hb3 hg3 hw3 j3 j4
       have ho3l : Hid (o3.length = o.length + (y + 1)):=by unfold Hid; rw [e3.out,List.length_append,List.length_take]; omega
       have hseg2:=Seg.of_own ho2
       have hseg3:=(hseg2.keepR hg3 hap2).lower (base':=w.heap.size) hs
       have hap3 : Apart A2 c2 (.slice Ao3 o3.length co3):=hap2.app hseg2 (Nat.le_refl _) hw3.out
       have htl:=hseg3.tail8 hfit
       have hbel3:=hbel2.trans hb3
       have hr3 : Hid (r = dGo b size o3 (q2.drop (y + 1))):=by unfold Hid; rw [hrun.out,e3.out]
       have hdl : Hid ((q2.drop (y + 1)).length = q2.length - (y + 1)):=by unfold Hid; simp
       by_cases hcc : c2 = y + 1
       ·rw [if_pos hcc] at htl
        have HCC:=Lib.hid hcc
        go_wp2_with fail
        rw [← hdl.out] at htl ⊢
        have hz : c2 - (y + 1) = 0:=by have:=HCC.out; omega
        rw [hz] at htl
        refine ⟨⟨q2.drop (y + 1),o3,A2,Ao3,0,co3,rfl,rfl,hr3,by rw [ho3l.out]; omega,by rw [hdl.out]; omega,htl,ho3,hap3.piece (by omega) rfl,hbel3⟩,?_⟩
        show (q2.drop (y + 1)).length < p.length
        rw [hdl.out]
        omega
       ·rw [if_neg hcc,add_spelt] at htl
        have HCC:=Lib.hid hcc
        go_wp2_with fail
        rw [← hdl.out] at htl ⊢
        refine ⟨⟨q2.drop (y + 1),o3,_,Ao3,c2 - (y + 1),co3,rfl,rfl,hr3,by rw [ho3l.out]; omega,by rw [hdl.out]; omega,htl,ho3,hap3.piece (by omega) (by rw [← add_spelt,segBlock_add]),hbel3⟩,?_⟩
        show (q2.drop (y + 1)).length < p.length
        rw [hdl.out]
        omega
      ·rw [if_neg (fun hh => hfit hh.2)] at hrun
       have hfi : (q2.length : Int) < (y : Int) + 1:=by omega
       have hfd : decide ((q2.length : Int) < (y : Int) + 1) = true:=by simp; omega
       go_wp2_with fail
       go_ret2
       rw [hrun.out]
       exact ⟨rfl,hbel2⟩
     ·have hm0 : (t : Int) % 2 = 1:=by omega
      have hm1 : (t : Int).tmod 2 = 1:=by rw [Int.tmod_eq_emod_of_nonneg (by omega)]; exact hm0
      have hod : Hid (t % 2 = 1):=by unfold Hid; omega
      clear hev
      go_wp2_with fail
      refine (RefTakeNum_calls A2 q2 c2 w2 (Rd.of_own ho2) (by omega) j1).mono ?_
      intro e w3 h3
      rcases ht : takeNum q2 with _ | ⟨d,q⟩
      ·rw [ht] at h3
       obtain ⟨rfl,hb3⟩:=h3
       have hn : Hid (r = none):=by unfold Hid; rw [hgo.out,dGo_copy_none HT.out hod.out (by rw [← e2.out]; exact ht)]
       clear ht
       go_wp2_with fail
       go_ret2
       rw [hn.out]
       exact ⟨rfl,hbel2.trans (hb3.mono (Nat.le_trans hs hs2))⟩
      rw [ht] at h3
      obtain ⟨q3,A3,c3,e3,rfl,ho3,hb3,j3,j4⟩:=h3
      have hql3 : q3.length < q2.length:=by rw [e3.out]; exact takeNum_less ht
      have hdm : d ≤ 4611686018427387903:=(num_takeNum ht).2
      have hcp : Hid (r = if y + 1 ≤ size - o.length ∧ d + (y + 1) ≤ b.length then dGo b size (o ++ (b.drop d).take (y + 1)) q3 else none):=by
       unfold Hid
       rw [hgo.out,dGo_copy HT.out hod.out (by rw [← e2.out]; exact ht),← HY.out,e3.out]
      have hs3:=hb3.size
      have hbel3:=hbel2.trans (hb3.mono (Nat.le_trans hs hs2))
      have hown3:=own_belowW hown2 hb3
      have hap3 : Apart A3 c3 (.slice Ao o.length co):=Apart.new hown2 (Seg.of_own ho3) (Nat.le_refl _)
      have hseg3:=(Seg.of_own ho3).lower (base':=w.heap.size) (Nat.le_trans hs hs2)
      clear ht hown2 hap2 ho2
      by_cases hfit : d + (y + 1) ≤ b.length
      ·rw [if_pos ⟨hroom,hfit⟩] at hcp
       have g1 : ¬ ((b.length : Int) < (d : Int)):=by omega
       have g1d : decide ((b.length : Int) < (d : Int)) = false:=by simp; omega
       have g2 : ¬ ((b.length : Int) - (d : Int) < (y : Int) + 1):=by omega
       have g2d : decide ((b.length : Int) - (d : Int) < (y : Int) + 1) = false:=by simp; omega
       have f1 : IntKind.i64.wrap ((d : Int) + (y : Int)) = (d : Int) + (y : Int):=IntWalk.i64_in _ (by omega)
       have f2 : IntKind.i64.wrap ((d : Int) + (y : Int) + 1) = (d : Int) + (y : Int) + 1:=IntWalk.i64_in _ (by omega)
       have hcd : ¬ cb = d:=by omega
       have hrm : Rd w3 w.heap.size 1 (Ab.map fun x => x.add d) (d + y + 1 - d) (bc ((b.drop d).take (y + 1))):=(hrb.below hbel3).mid (by omega) hfit hcb hcd
       go_wp2_with (at_builtin; refine app8 rfl (.tmp 98) (.tmp 106) rfl w.heap.size _ o.length o rfl hown3 w.heap.size _ (d + y + 1 - d) (cb - d) ((b.drop d).take (y + 1)) rfl hrm (by omega) (by omega) ?_)
       intro o4 Ao4 co4 w4 e4 ho4 hb4 hg4 hw4 j5 j6
       have ho4l : o4.length = o.length + (y + 1):=by rw [e4.out,List.length_append,List.length_take,List.length_drop]; omega
       have ho4s : o4.length ≤ size:=by omega
       have hr4 : Hid (r = dGo b size o4 q3):=by unfold Hid; rw [hcp.out,e4.out]
       clear ho4l
       go_wp2_with fail
       exact ⟨⟨q3,o4,A3,Ao4,c3,co4,rfl,rfl,hr4,ho4s,by omega,hseg3.keepR hg4 hap3,ho4,hap3.app hseg3 (Nat.le_refl _) hw4.out,hbel3.trans hb4⟩,by show q3.length < p.length; omega⟩
      ·rw [if_neg (fun hh => hfit hh.2)] at hcp
       by_cases h1 : d ≤ b.length
       ·have g1 : ¬ ((b.length : Int) < (d : Int)):=by omega
        have g1d : decide ((b.length : Int) < (d : Int)) = false:=by simp; omega
        have g2 : ((b.length : Int) - (d : Int) < (y : Int) + 1):=by omega
        have g2d : decide ((b.length : Int) - (d : Int) < (y : Int) + 1) = true:=by simp; omega
        go_wp2_with fail
        go_ret2
        rw [hcp.out]
        exact ⟨rfl,hbel3⟩
       ·have g1 : (b.length : Int) < (d : Int):=by omega
        have g1d : decide ((b.length : Int) < (d : Int)) = true:=by simp; omega
        go_wp2_with fail
        go_ret2
        rw [hcp.out]
        exact ⟨rfl,hbel3⟩
    ·have hri : (size : Int) - (o.length : Int) < (y : Int) + 1:=by omega
     have hrd : decide ((size : Int) - (o.length : Int) < (y : Int) + 1) = true:=by simp; omega
     have hn:=HBR.out hroom
     go_wp2_with fail
     go_ret2
     rw [hn.out]
     exact ⟨rfl,hbel2⟩
 ·have hnz : ((nb : Int) != (b.length : Int)) = true:=by simp; omega
  have hn : Hid (r = none):=by unfold Hid; rw [HR.out]; exact applyL_other (base:=[]) ht hnb most
  clear ht
  go_wp2_with fail
  go_ret2
  rw [hn.out]
  exact ⟨rfl,hb1⟩
end Go.Proofs.YtnaakfnbmeimaaaGreat
