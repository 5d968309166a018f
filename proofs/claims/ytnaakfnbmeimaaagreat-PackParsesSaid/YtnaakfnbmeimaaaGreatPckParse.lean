/- The walk of a pack's Parse. Conditions: bytes of at most 2^47 - 4096. -/
import Derived.Test.YtnaakfnbmeimaaaGreatPckPart
import Derived.Test.YtnaakfnbmeimaaaGreatPackRead
import Derived.Test.YtnaakfnbmeimaaaGreatCutPre
import Derived.Deep.DeepCutAuto
import Derived.Deep.CutBlock
import Derived.Test.YtnaakfnbmeimaaaGreatShort
set_option linter.unusedVariables false
namespace Go.Proofs.YtnaakfnbmeimaaaGreat
open Go.RowKit Go.Dol
def RetParse (w : World) (r : Option (List Pt)) (e : Ending) (w' : World) : Prop :=
 Below w.heap.size w w' ∧ match r with
 | none => e = .returned (.tuple #[.pointer none,.int .i64 2])
 | some ps => ∃ g l A c m,Hid (ptp l = ps) ∧ e = .returned (.tuple #[.pointer (some ⟨g,0,none⟩),.int .i64 0]) ∧ Pck w' w.heap.size g l A c m 0 (.slice none 0 0)
def ParseRel (p0 : List UInt8) (n : Nat) (gr g m : Nat) (w : World) (i : Value) (wr : World) : Prop :=
 ∃ (l : List PtA) (A : Option Addr) (c : Nat) (p : List UInt8) (Ar : Option Addr) (cr : Nat) (pv : PtA),i = .int .i64 l.length ∧ l.length ≤ n ∧ Rdr wr w.heap.size gr g l A c m p Ar cr pv ∧ Hid (readPts geS l.length [] 0 p0 = some (ptp l,p)) ∧ Hid (pv.p.raw = lastRaw [] (ptp l) ∧ pv.p.depth = lastD 0 (ptp l)) ∧ pv.p.raw.length ≤ 2097152 ∧ pv.p.depth ≤ 7 ∧ p.length ≤ p0.length ∧ Below w.heap.size w wr
set_option maxRecDepth 100000 in
set_option maxHeartbeats 6400000 in
theorem Parse_calls (A : Option Addr) (b : List UInt8) (c : Nat) (w : World) (hr : Rd w w.heap.size 1 A b.length (bc b)) (hc : b.length ≤ c) (hcm : c ≤ maxLen) (hl : b.length ≤ 140737488351232) :
  Calls Tryz.prog 15 #[.slice A b.length c] w (RetParse w (parseL geS b)):=by
 obtain ⟨r,hre⟩ : ∃ r,r = parseL geS b:=⟨_,rfl⟩
 rw [← hre]
 have HR:=Lib.hid hre
 clear hre
 obtain ⟨aN,haN⟩ : ∃ aN,aN = b.length - 32:=⟨_,rfl⟩
 have w1 : IntKind.i64.wrap ((b.length : Int) - 32) = (b.length : Int) - 32:=IntWalk.i64_in _ (by omega)
 have hM1 : ∀ W : World,(Builtin.max_ #[3,3] 3 #[.int .i64 ((b.length : Int) - 32),.int .i64 0]).run Tryz.prog W = .ok (.int .i64 (aN : Int)) W:=fun W => by
  have e : (aN : Int) = if 0 > ((b.length : Int) - 32) then 0 else ((b.length : Int) - 32):=by split <;> omega
  rw [e]
  exact run_max_int2 _ _ _ _ _ _ _
 obtain ⟨bp,hbp,hbp1,hbpB,hbpp,_,hsl⟩:=sl_to (k:=aN) (aN : Int) rfl hr (by omega) hc hcm
 have HA:=Lib.hid haN
 clear haN
 have kc:=magic_conv w
 have hbg : Below w.heap.size w (w.alloc (.cells #[.int .u8 68,.int .u8 80,.int .u8 75,.int .u8 49] 5 (4,5))):=(Below.refl _ _).alloc (Nat.le_refl _) _
 have hcut : Calls Tryz.prog 37 #[.slice A bp.length c,.slice (some ⟨w.heap.size,0,none⟩) 4 4] (w.alloc (.cells #[.int .u8 68,.int .u8 80,.int .u8 75,.int .u8 49] 5 (4,5))) (RetCut (w.alloc (.cells #[.int .u8 68,.int .u8 80,.int .u8 75,.int .u8 49] 5 (4,5))) w.heap.size A bp c mgL):=cutPrefix_calls A bp c (some ⟨w.heap.size,0,none⟩) mgL 4 (w.alloc (.cells #[.int .u8 68,.int .u8 80,.int .u8 75,.int .u8 49] 5 (4,5))) w.heap.size _ (hbpp.1.alloc (Nat.le_refl _) _) (magic_rd w) hbpp.2.1 hcm
 have HCUT:=Lib.hid hcut
 clear hcut
 go_enter Tryz.func15,Tryz.ntmps15
 go_wp2_with fail
 refine HCUT.out.mono ?_
 intro e v0 hcr
 unfold RetCut at hcr
 by_cases hpre : bp.take mgL.length = mgL
 ·rw [if_pos hpre] at hcr
  obtain ⟨mb,Am,cm,hmb,rfl,hmp,hv⟩:=hcr
  have h36 : 36 ≤ b.length:=by
   have h1:=congrArg List.length hpre
   rw [List.length_take] at h1
   have h2 : mgL.length = 4:=rfl
   have h3:=HA.out
   omega
  have hpre2 : Hid (b.take 4 = magicL):=by
   unfold Hid
   have h1 : bp.take 4 = magicL:=hpre
   rw [hbp.out,List.take_take] at h1
   rw [← h1]
   congr 1
   have:=HA.out
   omega
  have hat : (b.length : Int) - 32 = (aN : Int):=by have:=HA.out; omega
  obtain ⟨bs,As,cs,hbs,hbs1,hbs2,hbsp,_,_,_,hsl3⟩:=sl_from (k:=aN) (aN : Int) rfl hr (by omega) hc hcm
  obtain ⟨v1,hv1⟩ : ∃ v1,v1 = w.alloc (.cells #[.int .u8 68,.int .u8 80,.int .u8 75,.int .u8 49] 5 (4,5)):=⟨_,rfl⟩
  rw [← hv1] at hv hbg
  have hmp1 : Piece v1 w.heap.size mb Am cm:=by rw [hv1]; exact hmp
  subst hv
  clear hv1 hmp kc hpre
  have hcs:=conv8f (c:=cs) (hbsp.1.below hbg).drew
  have hSum:=Lib.hid (Sum_calls A bp c v0.drew (((hbpp.1.below hbg).more hbg.size).drew) (by omega))
  have hb1s:=hbsp.1
  by_cases hsum : sumOf bp = bs
  ·have HS:=Lib.hid hsum
   clear hsum
   go_upto_region 3 with (fail)
   refine wp_region_held_drew (S:=fun W => (convert 25 9 (.slice As bs.length cs)).run Tryz.prog W = .ok (.string ⟨bs.toArray⟩) W) (by kernel_rfl) (hcs) (fun hHeld => ?_)
   refine tk 0 (.bool true) rfl (fun _ _ _ h => h) (Or.inl ⟨by rfl,fun w9 hS => ?_⟩) hHeld ?_
   ·have s0:=hS
    go_simp
   try simp only [Act.put,sA,sB,sC,sD,sF]
   refine tk 1 (.bool false) rfl (fun _ _ _ h => h) (Or.inl ⟨by rfl,fun w9 hS => ?_⟩) hHeld ?_
   ·have s0:=hS
    go_simp
   try simp only [Act.put,sA,sB,sC,sD,sE,sF]
   refine tk 2 (.bool false) rfl (fun _ _ _ h => h) (Or.inl ⟨by rfl,fun w9 hS => ?_⟩) hHeld ?_
   ·have s0:=hS
    go_simp
   try simp only [Act.put,sA,sB,sC,sD,sE,sF]
   refine tk 3 (.slice A b.length c) rfl (fun _ _ _ h => h) (Or.inl ⟨by rfl,fun w9 hS => ?_⟩) hHeld ?_
   ·have s0:=hS
    go_simp
   try simp only [Act.put,sA,sB,sC,sD,sE,sF]
   refine tk 4 (.int .i64 (aN : Int)) rfl (fun _ _ _ h => h) (Or.inl ⟨by rfl,fun w9 hS => ?_⟩) hHeld ?_
   ·have s0:=hS
    go_simp
   try simp only [Act.put,sA,sB,sC,sD,sE,sF]
   refine tk 5 (.slice A bp.length c) rfl (fun _ _ _ h => h) (Or.inl ⟨by rfl,fun w9 hS => ?_⟩) hHeld ?_
   ·have s0:=hS
    go_simp
   try simp only [Act.put,sA,sB,sC,sD,sE,sF]
   refine tk 7 (.slice A b.length c) rfl (fun _ _ _ h => h) (Or.inl ⟨by rfl,fun w9 hS => ?_⟩) hHeld ?_
   ·have s0:=hS
    go_simp
   try simp only [Act.put,sA,sB,sC,sD,sE,sF]
   refine tk 8 (.int .i64 (aN : Int)) rfl (fun _ _ _ h => h) (Or.inl ⟨by rfl,fun w9 hS => ?_⟩) hHeld ?_
   ·have s0:=hS
    go_simp
   try simp only [Act.put,sA,sB,sC,sD,sE,sF]
   refine tk 9 (.slice As bs.length cs) rfl (fun _ _ _ h => h) (Or.inl ⟨by rfl,fun w9 hS => ?_⟩) hHeld ?_
   ·have s0:=hS
    go_simp
   try simp only [Act.put,sA,sB,sC,sD,sE,sF]
   refine tk 10 (.string ⟨bs.toArray⟩) rfl (fun _ _ _ h => h) (Or.inl ⟨by rfl,fun w9 hS => ?_⟩) hHeld ?_
   ·have s0:=hS
    go_simp
   try simp only [Act.put,sA,sB,sC,sD,sE,sF]
   refine wpAnyH_ready (rs:=[6]) (by kernel_rfl) (by simp) (AllReadyH.cons (o:=_) rfl (fun K hK => ?_) AllReadyH.nil)
   go_simp
   refine (hSum.out).mono ?_
   rintro e w2 ⟨sm,hsm,rfl,hb2⟩
   have hb2 : Below v0.heap.size v0 w2:=⟨hb2.os,hb2.tape,hb2.output,hb2.size,hb2.block⟩
   have hcs2:=conv8f (c:=cs) ((hb1s.below hbg).belowW hb2 hbg.size)
   refine hK.out _ _ hcs2 (fun hHeld => ?_)
   clear hK K
   try simp only [Act.put,sA,sB,sC,sD,sE,sF]
   obtain rfl : sm = bs:=by rw [hsm.out]; exact HS.out
   refine tk 11 (.bool false) rfl (fun _ _ _ h => h) (Or.inl ⟨by rfl,fun w9 hS => ?_⟩) hHeld ?_
   ·have s0:=hS
    go_simp
   try simp only [Act.put,sA,sB,sC,sD,sE,sF]
   refine tk 12 (.bool false) rfl (fun _ _ _ h => h) (Or.inl ⟨by rfl,fun w9 hS => ?_⟩) hHeld ?_
   ·have s0:=hS
    go_simp
   try simp only [Act.put,sA,sB,sC,sD,sE,sF]
   refine wpAnyH_done (by kernel_rfl) ?_ _
   have hb02:=hbg.next hb2
   have hs02:=hb02.size
   have hmb2:=(hmp1.1.belowW hb2 hbg.size).more hs02
   have hmbl : mb.length ≤ b.length:=by rw [hmb.out,hbp.out,List.length_drop,List.length_take]; omega
   have hrp : Hid (r = match takeNum mb with
    | none => none
    | some (n,p) => if 4096 < n then none else match readPts geS n [] 0 p with
     | none => none
     | some (ps,q) => if q = [] ∧ (ps.map (·.id)).Nodup then some ps else none):=by
    unfold Hid
    rw [HR.out]
    unfold parseL
    rw [if_neg (by
     rintro (h | h | h)
     ·omega
     ·exact h hpre2.out
     ·exact h (by rw [← HA.out,← hbp.out,← hbs.out]; exact HS.out))]
    rw [← HA.out,← hbp.out]
    rw [show bp.drop 4 = mb from hmb.out.symm]
    rfl
   have htn:=TakeNum_calls Am mb cm w2 hmb2 (by omega) hmp1.2.1
   clear HS hcs hcs2 hSum hsm hb2 hmp1 hbsp hb1s hsl3 hsl hbpp hM1 hpre2 HCUT
   cases hnt : takeNum mb with
   | none =>
    rw [hnt] at htn hrp
    have HT:=Lib.hid htn
    have hr0 : Hid (r = none):=hrp.out
    clear htn hnt
    go_wp2_with fail
    refine HT.out.mono ?_
    rintro e w3 ⟨rfl,hb3⟩
    go_wp2_with fail
    go_ret2
    rw [hr0.out]
    exact ⟨hb02.next hb3,rfl⟩
   | some np =>
    obtain ⟨n,p⟩:=np
    rw [hnt] at htn hrp
    have HT:=Lib.hid htn
    have hpl:=takeNum_less hnt
    clear htn hnt
    go_wp2_with fail
    refine HT.out.mono ?_
    rintro e w3 ⟨q,Aq,cq,hq,rfl,hoq,hb3,i1,i2⟩
    have hb03:=hb02.next hb3
    have hs03:=hb03.size
    have hoq:=hoq.base hs02
    by_cases hn : n ≤ 4096
    ·have d4 : decide ((4096 : Int) < (n : Int)) = false:=decide_eq_false (by omega)
     have d4' : ¬ (4096 : Int) < (n : Int):=by omega
     have hmm:=@run_makeMap Tryz.prog
     have hrn : Hid (r = match readPts geS n [] 0 p with
      | none => none
      | some (ps,q) => if q = [] ∧ (ps.map (·.id)).Nodup then some ps else none):=by unfold Hid; rw [hrp.out]; (try simp only); rw [if_neg (by omega)]
     clear HT hrp
     obtain ⟨m,hm⟩ : ∃ m,m = w3.heap.size:=⟨_,rfl⟩
     obtain ⟨w4,hw4⟩ : ∃ w4,w4 = (((w3.alloc (.map #[] 0)).alloc (.cells #[.slice none 0 0,.map (some w3.heap.size),.int .u32 0,.int .i32 0,.int .u32 0,.slice none 0 0] 66)).alloc (.cells #[.slice Aq q.length cq,.slice none 0 0,.int .i64 0,.pointer (some ⟨w3.heap.size + 1,0,none⟩)] 98)):=⟨_,rfl⟩
     have hb34 : Below w3.heap.size w3 w4:=by rw [hw4]; exact ((((Below.refl _ _).alloc (Nat.le_refl _) _).alloc (by simp) _).alloc (by simp; omega) _)
     have hM4 : MapL Tryz.prog 9 w4 m []:=by rw [hw4,hm]; exact ((MapL.new w3).alloc _).alloc _
     have hG4 : Blk w4 (m + 1) 66 [.slice none 0 0,.map (some m),.int .u32 0,.int .i32 0,.int .u32 0,.slice none 0 0]:=by
      rw [hw4,hm]
      have h:=(Blk.new (w3.alloc (.map #[] 0)) 66 [.slice none 0 0,.map (some w3.heap.size),.int .u32 0,.int .i32 0,.int .u32 0,.slice none 0 0]).alloc (.cells #[.slice Aq q.length cq,.slice none 0 0,.int .i64 0,.pointer (some ⟨w3.heap.size + 1,0,none⟩)] 98)
      rw [show (w3.alloc (.map #[] 0)).heap.size = w3.heap.size + 1 by simp] at h
      exact h
     have hD4 : Blk w4 (m + 1 + 1) 98 [.slice Aq q.length cq,.slice none 0 0,.int .i64 0,.pointer (some ⟨m + 1,0,none⟩)]:=by
      rw [hw4,hm]
      have h:=Blk.new ((w3.alloc (.map #[] 0)).alloc (.cells #[.slice none 0 0,.map (some w3.heap.size),.int .u32 0,.int .i32 0,.int .u32 0,.slice none 0 0] 66)) 98 [.slice Aq q.length cq,.slice none 0 0,.int .i64 0,.pointer (some ⟨w3.heap.size + 1,0,none⟩)]
      rw [show ((w3.alloc (.map #[] 0)).alloc (.cells #[.slice none 0 0,.map (some w3.heap.size),.int .u32 0,.int .i32 0,.int .u32 0,.slice none 0 0] 66)).heap.size = w3.heap.size + 1 + 1 by simp] at h
      exact h
     have hR4 : Rdr w4 w.heap.size (m + 1 + 1) (m + 1) [] none 0 m q Aq cq ⟨⟨[],0,0,0,[]⟩,none,0⟩ :=
      ⟨hD4,by omega,⟨hG4,by omega,by omega,World.ownsRow_nil _ _ _ _,hM4,(fun x hx => (List.not_mem_nil hx).elim),.inl ⟨rfl,rfl⟩⟩,(Seg.of_own hoq).belowW hb34,B8.nil,Nat.le_refl _,by show 0 ≤ maxLen; unfold maxLen; omega⟩
     have hpq : q = p:=hq.out
     have hst : ParseRel p n (m + 1 + 1) (m + 1) m w (.int .i64 0) w4:=⟨[],none,0,q,Aq,cq,_,rfl,Nat.zero_le _,hR4,by unfold Hid; rw [hpq]; rfl,Lib.hid ⟨rfl,rfl⟩,by simp,by simp,by rw [hpq]; exact Nat.le_refl _,hb03.next hb34⟩
     have HST:=Lib.hid hst
     have HPL : Hid (p.length ≤ 140737488351232):=by unfold Hid; omega
     clear hst hR4 hD4 hG4 hM4 hb34 hpq hq hoq hb3 hb03 hpl
     go_upto_block 1 with (fail)
     rw [← hw4,← hm]
     clear hw4 hm hmm hs03
     go_loopw [57] (fun i wr => ParseRel p n (m + 1 + 1) (m + 1) m w i wr) (fun i _ => n - (intOf i).toNat)
     case atStart => exact HST.out
     case round =>
      clear HST
      obtain ⟨l,A5,c5,p5,Ar,cr,pv,rfl,hln,hR,hread,hlast,hraw,hd,hple,hbel⟩:=hrel
      have hs:=hbel.size
      have f1 : IntKind.i64.wrap ((l.length : Int) + 1) = (l.length : Int) + 1:=IntWalk.i64_in _ (by omega)
      by_cases h1 : l.length < n
      ·have d1 : decide ((l.length : Int) < (n : Int)) = true:=decide_eq_true (by omega)
       have d1' : (l.length : Int) < (n : Int):=by omega
       have hp:=part_calls hR (by omega) hraw hd (by have:=HPL.out; omega) hs
       rw [one_most obj_few] at hp
       cases hone : onePt geS 1099511627776 pv.p.raw pv.p.depth p5 with
       | none =>
        rw [hone] at hp
        have hr0 : Hid (r = none):=by
         unfold Hid
         rw [hrn.out,read_fails hread.out h1 (by rw [← hlast.out.1,← hlast.out.2]; exact hone)]
        have HP:=Lib.hid hp
        clear hp hone hread hlast hR
        go_wp2_with fail
        refine HP.out.mono ?_
        rintro e w5 ⟨rfl,hb5⟩
        go_wp2_with fail
        go_ret2
        rw [hr0.out]
        exact ⟨hbel.trans hb5,rfl⟩
       | some pr =>
        obtain ⟨pt,rest⟩:=pr
        rw [hone] at hp
        obtain ⟨ho1,ho2,ho3,ho4⟩:=onePt_some hone hd
        have hone2 : Hid (onePt geS 1099511627776 (lastRaw [] (ptp l)) (lastD 0 (ptp l)) p5 = some (pt,rest)):=by unfold Hid; rw [← hlast.out.1,← hlast.out.2]; exact hone
        have hfew:=obj_few _ ho1
        clear hone ho1
        by_cases hin : pt.id ∈ l.map fun x => x.p.id
        ·have hr0 : Hid (r = none):=by
          unfold Hid
          rw [hrn.out]
          cases hrd : readPts geS n [] 0 p with
          | none => rfl
          | some qr =>
           obtain ⟨qs,q'⟩:=qr
           have:=read_twice hread.out h1 hone2.out (by simpa [ptp] using hin) hrd
           simp only
           rw [if_neg (fun h => this h.2)]
         have hp2 : Calls Tryz.prog 39 #[.pointer (some ⟨m + 1 + 1,0,none⟩)] wr (fun e w' => e = .returned (.int .i64 2) ∧ Below w.heap.size wr w'):=hp.mono fun e w' hh => by
          obtain ⟨h8,h9⟩:=hh
          rw [if_pos hin] at h9
          exact ⟨h9,h8⟩
         have HP:=Lib.hid hp2
         clear hp hp2 hread hlast hR hin
         go_wp2_with fail
         refine HP.out.mono ?_
         rintro e w5 ⟨rfl,hb5⟩
         go_wp2_with fail
         go_ret2
         rw [hr0.out]
         exact ⟨hbel.trans hb5,rfl⟩
        ·have hp2 : Calls Tryz.prog 39 #[.pointer (some ⟨m + 1 + 1,0,none⟩)] wr (fun e w' => e = .returned (.int .i64 0) ∧ ParseRel p n (m + 1 + 1) (m + 1) m w (.int .i64 ((l.length + 1 : Nat) : Int)) w'):=hp.mono fun e w' hh => by
          obtain ⟨h8,h9⟩:=hh
          rw [if_neg hin] at h9
          obtain ⟨h9,x,A6,c6,q6,Ar6,cr6,hxp,hq6,hR6⟩:=h9
          have e6 : (l ++ [x]).length = l.length + 1:=by simp
          have ep : ptp (l ++ [x]) = ptp l ++ [pt]:=by unfold ptp; rw [List.map_append,List.map_cons,hxp.out]; rfl
          refine ⟨h9,l ++ [x],A6,c6,q6,Ar6,cr6,x,by rw [e6],by omega,hR6,?_,?_,?_,?_,?_,hbel.trans h8⟩
          ·unfold Hid
           rw [e6,ep,hq6.out]
           exact read_snoc hread.out hone2.out
          ·unfold Hid
           rw [ep,lastRaw_snoc,lastD_snoc,hxp.out]
           exact ⟨rfl,rfl⟩
          ·rw [hxp.out]; exact hfew
          ·rw [hxp.out]; exact ho2
          ·rw [hq6.out]; omega
         have HP:=Lib.hid hp2
         clear hp hp2 hread hlast hR hin hone2
         go_wp2_with fail
         refine HP.out.mono ?_
         rintro e w5 ⟨rfl,hrel5⟩
         have HREL:=Lib.hid hrel5
         clear hrel5
         go_wp2_with fail
         exact ⟨by rw [show ((l.length : Int) + 1) = ((l.length + 1 : Nat) : Int) by omega]; exact HREL.out,by simp [intOf]; omega⟩
      ·have d1 : decide ((l.length : Int) < (n : Int)) = false:=decide_eq_false (by omega)
       have d1' : ¬ (l.length : Int) < (n : Int):=by omega
       have hln2 : l.length = n:=by omega
       have hrd : Hid (r = if p5 = [] ∧ ((ptp l).map (·.id)).Nodup then some (ptp l) else none):=by
        unfold Hid
        rw [hrn.out,← hln2,hread.out]
       have k0 : wr.cell? ⟨m + 1 + 1,0,none⟩ = some (.slice Ar p5.length cr):=by rw [hR.blk.cell]; rfl
       have k3 : wr.cell? ⟨m + 1 + 1,3,none⟩ = some (.pointer (some ⟨m + 1,0,none⟩)):=by rw [hR.blk.cell]; rfl
       have hnd : ((ptp l).map (·.id)).Nodup:=by have:=hR.pck.nodup; unfold ptp; rw [List.map_map]; exact this
       have HPK:=Lib.hid hR.pck
       clear hln2 hread hlast hR
       by_cases hp0 : p5.length = 0
       ·have hpe : p5 = []:=List.eq_nil_of_length_eq_zero hp0
        have hr0 : Hid (r = some (ptp l)):=by unfold Hid; rw [hrd.out,if_pos ⟨hpe,hnd⟩]
        have d2 : decide ((0 : Int) < (p5.length : Int)) = false:=decide_eq_false (by omega)
        have d2' : ¬ (0 : Int) < (p5.length : Int):=by omega
        have d2n : ¬ 0 < p5.length:=by omega
        clear hpe hp0 hnd
        go_wp2_with fail
        go_ret2
        rw [hr0.out]
        exact ⟨hbel,m + 1,l,A5,c5,m,rfl,rfl,HPK.out⟩
       ·have hr0 : Hid (r = none):=by unfold Hid; rw [hrd.out,if_neg (fun h => hp0 (by rw [h.1]; rfl))]
        have d2 : decide ((0 : Int) < (p5.length : Int)) = true:=decide_eq_true (by omega)
        have d2' : (0 : Int) < (p5.length : Int):=by omega
        have d2n : 0 < p5.length:=by omega
        clear hnd
        go_wp2_with fail
        go_ret2
        rw [hr0.out]
        exact ⟨hbel,rfl⟩
    ·have d4 : decide ((4096 : Int) < (n : Int)) = true:=decide_eq_true (by omega)
     have d4' : (4096 : Int) < (n : Int):=by omega
     have hr0 : Hid (r = none):=by unfold Hid; rw [hrp.out]; (try simp only); rw [if_pos (by omega)]
     clear HT
     go_wp2_with fail
     go_ret2
     rw [hr0.out]
     exact ⟨hb03,rfl⟩
  ·have hr0 : Hid (r = none):=by unfold Hid; rw [HR.out]; unfold parseL; rw [if_pos (.inr (.inr (by rw [← HA.out,← hbp.out,← hbs.out]; exact hsum)))]
   go_upto_region 3 with (fail)
   refine wp_region_held_drew (S:=fun W => (convert 25 9 (.slice As bs.length cs)).run Tryz.prog W = .ok (.string ⟨bs.toArray⟩) W) (by kernel_rfl) (hcs) (fun hHeld => ?_)
   refine tk 0 (.bool true) rfl (fun _ _ _ h => h) (Or.inl ⟨by rfl,fun w9 hS => ?_⟩) hHeld ?_
   ·have s0:=hS
    go_simp
   try simp only [Act.put,sA,sB,sC,sD,sF]
   refine tk 1 (.bool false) rfl (fun _ _ _ h => h) (Or.inl ⟨by rfl,fun w9 hS => ?_⟩) hHeld ?_
   ·have s0:=hS
    go_simp
   try simp only [Act.put,sA,sB,sC,sD,sE,sF]
   refine tk 2 (.bool false) rfl (fun _ _ _ h => h) (Or.inl ⟨by rfl,fun w9 hS => ?_⟩) hHeld ?_
   ·have s0:=hS
    go_simp
   try simp only [Act.put,sA,sB,sC,sD,sE,sF]
   refine tk 3 (.slice A b.length c) rfl (fun _ _ _ h => h) (Or.inl ⟨by rfl,fun w9 hS => ?_⟩) hHeld ?_
   ·have s0:=hS
    go_simp
   try simp only [Act.put,sA,sB,sC,sD,sE,sF]
   refine tk 4 (.int .i64 (aN : Int)) rfl (fun _ _ _ h => h) (Or.inl ⟨by rfl,fun w9 hS => ?_⟩) hHeld ?_
   ·have s0:=hS
    go_simp
   try simp only [Act.put,sA,sB,sC,sD,sE,sF]
   refine tk 5 (.slice A bp.length c) rfl (fun _ _ _ h => h) (Or.inl ⟨by rfl,fun w9 hS => ?_⟩) hHeld ?_
   ·have s0:=hS
    go_simp
   try simp only [Act.put,sA,sB,sC,sD,sE,sF]
   refine tk 7 (.slice A b.length c) rfl (fun _ _ _ h => h) (Or.inl ⟨by rfl,fun w9 hS => ?_⟩) hHeld ?_
   ·have s0:=hS
    go_simp
   try simp only [Act.put,sA,sB,sC,sD,sE,sF]
   refine tk 8 (.int .i64 (aN : Int)) rfl (fun _ _ _ h => h) (Or.inl ⟨by rfl,fun w9 hS => ?_⟩) hHeld ?_
   ·have s0:=hS
    go_simp
   try simp only [Act.put,sA,sB,sC,sD,sE,sF]
   refine tk 9 (.slice As bs.length cs) rfl (fun _ _ _ h => h) (Or.inl ⟨by rfl,fun w9 hS => ?_⟩) hHeld ?_
   ·have s0:=hS
    go_simp
   try simp only [Act.put,sA,sB,sC,sD,sE,sF]
   refine tk 10 (.string ⟨bs.toArray⟩) rfl (fun _ _ _ h => h) (Or.inl ⟨by rfl,fun w9 hS => ?_⟩) hHeld ?_
   ·have s0:=hS
    go_simp
   try simp only [Act.put,sA,sB,sC,sD,sE,sF]
   refine wpAnyH_ready (rs:=[6]) (by kernel_rfl) (by simp) (AllReadyH.cons (o:=_) rfl (fun K hK => ?_) AllReadyH.nil)
   go_simp
   refine (hSum.out).mono ?_
   rintro e w2 ⟨sm,hsm,rfl,hb2⟩
   have hb2 : Below v0.heap.size v0 w2:=⟨hb2.os,hb2.tape,hb2.output,hb2.size,hb2.block⟩
   have hcs2:=conv8f (c:=cs) ((hb1s.below hbg).belowW hb2 hbg.size)
   refine hK.out _ _ hcs2 (fun hHeld => ?_)
   clear hK K
   try simp only [Act.put,sA,sB,sC,sD,sE,sF]
   have hne : ¬ sm = bs:=by rw [hsm.out]; exact hsum
   refine tk 11 (.bool true) rfl (fun _ _ _ h => h) (Or.inl ⟨by rfl,fun w9 hS => ?_⟩) hHeld ?_
   ·have s0:=hS
    go_simp
   try simp only [Act.put,sA,sB,sC,sD,sE,sF]
   refine tk 12 (.bool true) rfl (fun _ _ _ h => h) (Or.inl ⟨by rfl,fun w9 hS => ?_⟩) hHeld ?_
   ·have s0:=hS
    go_simp
   try simp only [Act.put,sA,sB,sC,sD,sE,sF]
   refine wpAnyH_done (by kernel_rfl) ?_ _
   go_wp2_with fail
   go_ret2
   rw [hr0.out]
   exact ⟨hbg.next hb2,rfl⟩
 ·rw [if_neg hpre] at hcr
  obtain ⟨rfl,hv⟩:=hcr
  have hr0 : Hid (r = none):=by
   unfold Hid
   rw [HR.out]
   unfold parseL
   rw [if_pos]
   by_cases h36 : b.length < 36
   ·exact .inl h36
   ·refine .inr (.inl fun h => hpre ?_)
    show bp.take 4 = magicL
    rw [hbp.out,List.take_take,← h]
    congr 1
    have:=HA.out
    omega
  clear hpre
  subst hv
  go_wp2_with fail
  go_quiet (fail)
  go_wp2_with fail
  go_ret2
  rw [hr0.out]
  exact ⟨hbg.drewN' _,rfl⟩
end Go.Proofs.YtnaakfnbmeimaaaGreat
