/- The walks of the law's sameParts and of the law PackParses. Conditions: the form's reach. -/
import Derived.Test.YtnaakfnbmeimaaaGreatRPk5
import Derived.Test.YtnaakfnbmeimaaaGreatPckAwake
import Derived.Test.YtnaakfnbmeimaaaGreatPckParse
import Derived.Test.YtnaakfnbmeimaaaGreatPckIds
import Derived.Deep.DeepCutAuto
set_option maxRecDepth 100000
set_option maxHeartbeats 3200000
set_option linter.unusedVariables false
namespace Go.Dol
theorem onePt_id {ge : ByteArray → ByteArray → Bool} {most : Int} {prev : List UInt8} {d : Nat} {l : List UInt8} {p : Pt} {rest : List UInt8} (h : onePt ge most prev d l = some (p,rest)) : p.id = sumOf p.raw ∧ isObjL ge p.raw = true:=by
 unfold onePt at h
 split at h
 ·cases h
 ·split at h
  ·cases h
  ·split at h
   ·cases h
   ·split at h
    ·rename_i hc
     injection h with h
     injection h with h1 h2
     subst h1 h2
     exact ⟨hc.1.symm,hc.2⟩
    ·cases h
theorem read_ids {ge : ByteArray → ByteArray → Bool} : ∀ (n : Nat) (prev : List UInt8) (d : Nat) (l : List UInt8) (ps : List Pt) (r : List UInt8),readPts ge n prev d l = some (ps,r) → ∀ p ∈ ps,p.id = sumOf p.raw ∧ isObjL ge p.raw = true
 | 0,prev,d,l,ps,r,h,p,hp => by
  rw [readPts] at h
  injection h with h
  injection h with h1 h2
  subst h1
  cases hp
 | n + 1,prev,d,l,ps,r,h,p,hp => by
  rw [readPts] at h
  split at h
  ·cases h
  ·rename_i p0 rest h1
   split at h
   ·cases h
   ·rename_i qs r' h2
    injection h with h
    injection h with h3 h4
    subst h3
    rcases List.mem_cons.1 hp with rfl | hp
    ·exact onePt_id h1
    ·exact read_ids n _ _ _ _ _ h2 p hp
theorem read_len {ge : ByteArray → ByteArray → Bool} : ∀ (n : Nat) (prev : List UInt8) (d : Nat) (l : List UInt8) (ps : List Pt) (r : List UInt8),readPts ge n prev d l = some (ps,r) → ps.length = n
 | 0,prev,d,l,ps,r,h => by
  rw [readPts] at h
  injection h with h
  injection h with h1 h2
  subst h1
  rfl
 | n + 1,prev,d,l,ps,r,h => by
  rw [readPts] at h
  split at h
  ·cases h
  ·split at h
   ·cases h
   ·rename_i qs r' h2
    injection h with h
    injection h with h3 h4
    subst h3
    rw [List.length_cons,read_len n _ _ _ _ _ h2]
theorem parse_few {ge : ByteArray → ByteArray → Bool} {b : List UInt8} {ps : List Pt} (h : parseL ge b = some ps) : ps.length ≤ 4096:=by
 unfold parseL at h
 split at h
 ·cases h
 ·split at h
  ·cases h
  ·split at h
   ·cases h
   ·split at h
    ·cases h
    ·rename_i hn _ qs r h1
     split at h
     ·injection h with h
      subst h
      rw [read_len _ _ _ _ _ _ h1]
      omega
     ·cases h
theorem parse_ids {ge : ByteArray → ByteArray → Bool} {b : List UInt8} {ps : List Pt} (h : parseL ge b = some ps) : (∀ p ∈ ps,p.id = sumOf p.raw ∧ isObjL ge p.raw = true) ∧ (ps.map (·.id)).Nodup:=by
 unfold parseL at h
 split at h
 ·cases h
 ·split at h
  ·cases h
  ·split at h
   ·cases h
   ·split at h
    ·cases h
    ·rename_i qs r h1
     split at h
     ·rename_i h2
      injection h with h
      subst h
      exact ⟨read_ids _ _ _ _ _ _ h1,h2.2⟩
     ·cases h
end Go.Dol
namespace Go.Proofs.YtnaakfnbmeimaaaGreat
open Go.RowKit Go.Dol
theorem RPts.grown {w w' : World} {base : Nat} {A : Option Addr} {c : Nat} {l : List PtA} (h : RPts w base A c l) {r : Nat} {T : TypeId} {cs : List Value} (hb : Blk w r T cs) (hg : w.grownBy w' (some r)) (h1 : T ≠ 88) (h2 : T ≠ 5) : RPts w' base A c l :=
 ⟨own_other h.1 hb h1 hg,fun x hx => ⟨(h.2 x hx).1.grown hg (Other.blk hb h2 (Nat.zero_le _)),(h.2 x hx).2⟩⟩
def SpRel (n : Nat) (w : World) (i : Value) (wr : World) : Prop:=∃ k : Nat,i = .int .i64 k ∧ k ≤ n ∧ Below w.heap.size w wr
def RetSp (w : World) (base g : Nat) (l : List PtA) (A : Option Addr) (c m : Nat) (e : Ending) (w' : World) : Prop:=e = .returned (.bool true) ∧ (∃ vi,Pck w' base g l A c m 1 vi) ∧ w.grownBy w' (some g)
section
variable {w : World} {base g : Nat} {l : List PtA} {A : Option Addr} {c m : Nat}
theorem sameParts_calls (h : Pck w base g l A c m 0 (.slice none 0 0)) (hl : l.length ≤ 4096) (baseR : Nat) (R : List PtA) (AR : Option Addr) (cR : Nat) (hR : RPts w baseR AR cR R) (heq : ptp l = ptp R) (hid : ∀ p ∈ ptp l,p.id = sumOf p.raw ∧ isObjL geS p.raw = true) (hnd : ((ptp l).map (·.id)).Nodup) :
  Calls Tryz.prog 20 #[.pointer (some ⟨g,0,none⟩),.slice AR R.length cR] w (RetSp w base g l A c m):=by
 have hlen : l.length = R.length:=by have:=congrArg List.length heq; simpa [ptp] using this
 have hRl : R.length ≤ 4096:=by omega
 have d0 : ((l.length : Int) != (R.length : Int)) = false:=by simp; omega
 have HL:=Lib.hid hlen
 have HEQ:=Lib.hid heq
 have HID:=Lib.hid hid
 have HND:=Lib.hid hnd
 have HP:=Lib.hid (Parts_calls h hl)
 clear hlen heq hid hnd
 go_enter Tryz.func20,Tryz.ntmps20
 go_wp2_with fail
 refine HP.out.mono ?_
 rintro e w5 ⟨A5,c5,rfl,ho5,hb5⟩
 have h5:=h.below hb5
 have hR5:=hR.below hb5
 have HI:=Lib.hid (Ids_calls h5 hl)
 clear HP
 go_wp2_with fail
 refine HI.out.mono ?_
 rintro e w6 ⟨⟨Ai,ci,rfl,hoi⟩,⟨vi,h6⟩,hg6⟩
 have ho6:=own_other ho5 h5.blk (by decide) hg6
 have hR6:=hR5.grown h5.blk hg6 (by decide) (by decide)
 have HRI:=Lib.hid (refIds_calls AR R cR w6 (Rd.of_own hR6.1) hRl (by rw [← HEQ.out]; exact HND.out))
 have hgw6:=grown_step (grown_of_below hb5 (some g)) hg6
 have hil : (idsL (ptp l)).length = l.length:=by rw [idsL_length]; simp [ptp]
 have HIL:=Lib.hid hil
 clear HI h5 hR5 hg6 ho5 hb5 hil
 go_wp2_with fail
 refine HRI.out.mono ?_
 rintro e w7 ⟨A6,c6,rfl,ho7,hb7⟩
 have hil2 : (idsL (ptp R)).length = l.length:=by rw [← HEQ.out]; exact HIL.out
 rw [hil2] at ho7 ⊢
 have ho67:=own_belowW hoi hb7
 have hST:=SameTexts_calls Ai (idsL (ptp l)) ci A6 (idsL (ptp R)) c6 w7 w7.heap.size w7.heap.size (by rw [HIL.out]; exact Rd.of_own ho67) (by rw [hil2]; exact Rd.of_own ho7) (by rw [HIL.out]; omega) (by rw [hil2]; omega)
 rw [HIL.out,hil2] at hST
 have HST:=Lib.hid hST
 have h7:=h6.below hb7
 have hR7:=hR6.below hb7
 have ho57:=own_belowW ho6 hb7
 have hgw7:=grown_step hgw6 (grown_of_below hb7 (some g))
 clear HRI hST hil2 ho67 ho7 hoi hR6 h6 ho6 hgw6 hb7
 go_wp2_with fail
 refine HST.out.mono ?_
 rintro e w8 ⟨bb,q8,rfl,hbb,hw8⟩
 have hbb2 : bb = true:=by rw [← decide_eq_true_iff (p:=idsL (ptp l) = idsL (ptp R))] at hbb; exact hbb.2 (by rw [HEQ.out]; simp)
 subst hbb2
 have hb8 : Below w7.heap.size w7 w8:=by rw [hw8]; exact (Below.refl _ _).drewN' _
 have h8:=h7.below hb8
 have hR8:=hR7.below hb8
 have ho8:=own_belowW ho57 hb8
 have hgw8:=grown_step hgw7 (grown_of_below hb8 (some g))
 have hrd8:=Rd.of_own ho8
 have hrR8:=Rd.of_own hR8.1
 clear HST h7 hR7 ho57 hgw7 hb8 hw8 hbb ho8
 go_wp2_with fail
 go_loopw [6] (fun i wr => SpRel R.length w8 i wr) (fun i _ => R.length - (intOf i).toNat)
 case atStart => exact ⟨0,rfl,Nat.zero_le _,Below.refl _ _⟩
 case round =>
  obtain ⟨k,rfl,hk,hbel⟩:=hrel
  have f1 : IntKind.i64.wrap ((k : Int) + 1) = (k : Int) + 1:=IntWalk.i64_in _ (by omega)
  by_cases h1 : k < R.length
  ·have d1 : decide ((k : Int) < (R.length : Int)) = true:=decide_eq_true (by omega)
   have d1n : decide (k < R.length) = true:=decide_eq_true h1
   have d1' : (k : Int) < (R.length : Int):=by omega
   have hk0 : (0 : Int) ≤ (k : Int):=by omega
   have d2' : (k : Int) < (l.length : Int):=by have:=HL.out; omega
   obtain ⟨x,hx⟩ : ∃ x,l[k]? = some x:=⟨l[k]'(by have:=HL.out; omega),List.getElem?_eq_getElem _⟩
   obtain ⟨y,hy⟩ : ∃ y,R[k]? = some y:=⟨R[k],List.getElem?_eq_getElem h1⟩
   have hxy : x.p = y.p:=by
    have e1 : (ptp l)[k]? = some x.p:=by simp [ptp,hx]
    have e2 : (ptp R)[k]? = some y.p:=by simp [ptp,hy]
    rw [HEQ.out,e2] at e1
    exact (Option.some.inj e1).symm
   have hpm : y.p ∈ ptp l:=by rw [HEQ.out]; exact List.mem_map.2 ⟨y,List.mem_of_getElem? hy,rfl⟩
   obtain ⟨hpi,hpo⟩:=HID.out y.p hpm
   have hfew:=obj_few _ hpo
   obtain ⟨pb,po,rfl,hpb,hpc⟩:=hrd8.at_ (by omega)
   obtain ⟨rb,ro,rfl,hrb,hrc⟩:=hrR8.at_ (by omega)
   obtain ⟨yB,yc,ym⟩:=hR8.2 y (List.mem_of_getElem? hy)
   obtain ⟨sid,hsid⟩ : ∃ sid,sid = idS y.p.id:=⟨_,rfl⟩
   obtain ⟨kd,hkd⟩ : ∃ kd,kd = y.p.kind:=⟨_,rfl⟩
   obtain ⟨dp,hdp⟩ : ∃ dp,dp = y.p.depth:=⟨_,rfl⟩
   obtain ⟨sz,hsz⟩ : ∃ sz,sz = y.p.size:=⟨_,rfl⟩
   have hsz32 : sid.size = 32:=by rw [hsid]; show y.p.id.toArray.size = 32; rw [List.size_toArray,hpi,sumOf_length]
   have hsidl : sid.data.toList = y.p.id:=by rw [hsid]; simp [idS]
   have hget : getP (ptp l) sid = .ok y.p.raw:=by
    unfold getP
    rw [if_pos hsz32,hsidl,look_own HND.out hpm]
   have hlk : lookP (ptp l) sid.data.toList = some y.p:=by rw [hsidl]; exact look_own HND.out hpm
   have hQ : ∀ W,Below w8.heap.size w8 W → W.cell? ⟨pb,po + k * 4,none⟩ = some (.string sid) ∧ W.cell? ⟨pb,po + k * 4 + 1,none⟩ = some (.int .i64 (kd : Int)) ∧ W.cell? ⟨pb,po + k * 4 + 2,none⟩ = some (.int .i64 (dp : Int)) ∧ W.cell? ⟨pb,po + k * 4 + 3,none⟩ = some (.int .i64 (sz : Int)) ∧
     W.cell? ⟨rb,ro + k * 5,none⟩ = some (.string sid) ∧ W.cell? ⟨rb,ro + k * 5 + 1,none⟩ = some (.int .i64 (kd : Int)) ∧ W.cell? ⟨rb,ro + k * 5 + 2,none⟩ = some (.int .i64 (dp : Int)) ∧ W.cell? ⟨rb,ro + k * 5 + 3,none⟩ = some (.int .i64 (sz : Int)) ∧ W.cell? ⟨rb,ro + k * 5 + 4,none⟩ = some (.slice y.A y.p.raw.length y.c):=fun W hW => by
    have a0:=hpc (k * 4 + 0) _ (ptc_get hx 0 (by omega))
    have a1:=hpc (k * 4 + 1) _ (ptc_get hx 1 (by omega))
    have a2:=hpc (k * 4 + 2) _ (ptc_get hx 2 (by omega))
    have a3:=hpc (k * 4 + 3) _ (ptc_get hx 3 (by omega))
    rw [hxy,← hsid] at a0
    rw [hxy,← hkd] at a1
    rw [hxy,← hdp] at a2
    rw [hxy,← hsz] at a3
    have b0:=hrc (k * 5 + 0) _ (rpc_get hy 0 (by omega))
    have b1:=hrc (k * 5 + 1) _ (rpc_get hy 1 (by omega))
    have b2:=hrc (k * 5 + 2) _ (rpc_get hy 2 (by omega))
    have b3:=hrc (k * 5 + 3) _ (rpc_get hy 3 (by omega))
    have b4:=hrc (k * 5 + 4) _ (rpc_get hy 4 (by omega))
    rw [← hsid] at b0
    rw [← hkd] at b1
    rw [← hdp] at b2
    rw [← hsz] at b3
    exact ⟨(hW.cell (p:=⟨pb,po + k * 4,none⟩) hpb).trans a0,(hW.cell (p:=⟨pb,po + k * 4 + 1,none⟩) hpb).trans a1,(hW.cell (p:=⟨pb,po + k * 4 + 2,none⟩) hpb).trans a2,(hW.cell (p:=⟨pb,po + k * 4 + 3,none⟩) hpb).trans a3,
     (hW.cell (p:=⟨rb,ro + k * 5,none⟩) hrb).trans b0,(hW.cell (p:=⟨rb,ro + k * 5 + 1,none⟩) hrb).trans b1,(hW.cell (p:=⟨rb,ro + k * 5 + 2,none⟩) hrb).trans b2,(hW.cell (p:=⟨rb,ro + k * 5 + 3,none⟩) hrb).trans b3,(hW.cell (p:=⟨rb,ro + k * 5 + 4,none⟩) hrb).trans b4⟩
   obtain ⟨_,_,_,_,r0w,_⟩:=hQ wr hbel
   have hG:=Get_calls (h8.below hbel) sid (by rw [hsz32]; unfold maxLen; omega) (fun z hz => by
    have:=obj_few _ (HID.out z.p (List.mem_map.2 ⟨z,hz,rfl⟩)).2
    omega)
   rw [hget] at hG
   have HG:=Lib.hid hG
   have HQ:=Lib.hid hQ
   have HY:=Lib.hid yB
   have HLK:=Lib.hid hlk
   have H8:=Lib.hid h8
   clear hG hQ hpc hrc hx hy hxy hpm hpi hpo hget hlk hsidl hsid hkd hdp hsz yB hrd8 hrR8 hR8 h8
   go_wp2_with fail
   refine HG.out.mono ?_
   rintro e w9 ⟨hb9,q7,A7,c7,hq7,rfl,ho9,i7,i8⟩
   have hbel9:=hbel.next hb9
   obtain ⟨p0,p1,p2,p3,r0,r1,r2,r3,r4⟩:=HQ.out w9 hbel9
   have HSM : Hid (∀ n,Calls Tryz.prog 14 #[.slice A7 q7.length c7,.slice y.A y.p.raw.length y.c] (w9.drewN n) fun e w' => e = .returned (.bool true) ∧ w' = w9.drewN n):=fun n =>
    (Same_calls A7 q7 c7 y.A y.p.raw y.c (w9.drewN n) w9.heap.size w8.heap.size ((Rd.of_own ho9).drewN n) ((HY.out.rd.belowW hbel9 (Nat.le_refl _)).drewN n) hq7).mono fun e w' h => ⟨h.1,h.2.symm⟩
   have HHS : Hid (∀ n,Calls Tryz.prog 21 #[.pointer (some ⟨g,0,none⟩),.string sid] (w9.drewN n) fun e w' => e = .returned (.bool true) ∧ w' = w9.drewN n):=fun n => by
    have h:=Has_calls ((H8.out.below hbel9).drewN n) sid (by rw [hsz32]; unfold maxLen; omega)
    rw [HLK.out] at h
    exact h
   clear HG ho9 r0w
   go_wp2_with fail
   go_quiet ((first | (go_at_call 14; exact Calls.quiet_of_same (HSM.out _)) | (go_at_call 21; exact Calls.quiet_of_same (HHS.out _))))
   go_wp2_with fail
   exact ⟨⟨k + 1,by go_num,by omega,hbel9.drewN' _⟩,by simp [intOf]; omega⟩
  ·have d1 : decide ((k : Int) < (R.length : Int)) = false:=decide_eq_false (by omega)
   have d1n : decide (k < R.length) = false:=decide_eq_false h1
   have d1' : ¬ (k : Int) < (R.length : Int):=by omega
   have h9:=h8.below hbel
   clear h1 hrd8 hrR8 hR8 h8
   go_wp2_with fail
   go_ret
   exact ⟨rfl,⟨vi,h9⟩,grown_step hgw8 (grown_of_below hbel (some g))⟩
end
theorem packParses_walk (A : Option Addr) (b : List UInt8) (c : Nat) (s : ByteArray) (w : World) (hr : Rd w w.heap.size 1 A b.length (bc b)) (hc : b.length ≤ c) (hm : c ≤ maxLen) (hn : b.length ≤ 140737488351232) (hs : s.size ≤ maxLen) :
  Calls Tryz.prog 5 #[.slice A b.length c,.string s] w fun e w' => e = .returned (.bool true) ∧ Below w.heap.size w w':=by
 have HA:=Lib.hid (awake_calls w)
 go_enter Tryz.func5,Tryz.ntmps5
 go_wp2_with fail
 refine HA.out.mono ?_
 rintro e w1 ⟨rfl,hb1⟩
 have hs1:=hb1.size
 have HP:=Lib.hid (Parse_calls A b c w1 ((hr.below hb1).more hs1) hc hm hn)
 clear HA
 go_wp2_with fail
 refine HP.out.mono ?_
 rintro e w2 ⟨hb2,hm2⟩
 have hb02:=hb1.next hb2
 have hs2:=hb02.size
 have HR:=Lib.hid (refParse_calls A b c w2 ((hr.below hb02).more hs2) hc hm hn)
 obtain ⟨r,hre⟩ : ∃ r,r = parseL geS b:=⟨_,rfl⟩
 rw [← hre] at hm2 HR
 have HRE:=Lib.hid hre
 clear HP hre
 cases r with
 | none =>
  obtain rfl : e = .returned (.tuple #[.pointer none,.int .i64 2]):=hm2
  go_wp2_with fail
  refine HR.out.mono ?_
  rintro e w3 ⟨hb3,hm3⟩
  obtain rfl : e = .returned (.tuple #[.slice none 0 0,.int .i64 2]):=hm3
  go_wp2_with fail
  go_ret
  exact ⟨rfl,hb02.next hb3⟩
 | some ps =>
  obtain ⟨g,l,Al,cl,m,hps,rfl,hpk⟩:=hm2
  obtain ⟨hids,hnd⟩:=parse_ids HRE.out.symm
  have hln : l.length ≤ 4096:=by
   have : ps.length ≤ 4096:=parse_few HRE.out.symm
   rw [← hps.out] at this
   simpa [ptp] using this
  go_wp2_with fail
  refine HR.out.mono ?_
  rintro e w3 ⟨hb3,R,AR,cR,hRe,rfl,hR,hRl⟩
  have hpk3:=hpk.below hb3
  have hb03:=hb02.next hb3
  have hpe : ptp l = ptp R:=by rw [hps.out,hRe.out]
  rw [← hps.out] at hids hnd
  have HIDS:=Lib.hid hids
  have HND:=Lib.hid hnd
  have HPE:=Lib.hid hpe
  have hG:=Get_calls hpk3 s hs (fun z hz => by
   have:=obj_few _ (hids z.p (List.mem_map.2 ⟨z,hz,rfl⟩)).2
   omega)
  have hcase : (∃ kk : Nat,getP (ptp l) s = .error kk ∧ lookP (ptp l) s.data.toList = none ∧ kk ≠ 0) ∨ ∃ p,getP (ptp l) s = .ok p.raw ∧ lookP (ptp l) s.data.toList = some p:=by
   unfold getP
   by_cases h32 : s.size = 32
   ·rw [if_pos h32]
    cases hlk : lookP (ptp l) s.data.toList with
    | none => exact .inl ⟨6,rfl,rfl,by decide⟩
    | some p => exact .inr ⟨p,rfl,rfl⟩
   ·rw [if_neg h32]
    refine .inl ⟨1,rfl,?_,by decide⟩
    unfold lookP
    rw [List.find?_eq_none]
    intro p hp
    simp only [decide_eq_true_eq]
    intro e
    have h1:=sumOf_length p.raw
    rw [← (hids p hp).1,e] at h1
    exact h32 h1
  clear HR hpk hids hnd hpe hb3
  rcases hcase with ⟨kk,hg1,hlk,hkk⟩ | ⟨p,hg1,hlk⟩
  ·rw [hg1] at hG
   have HG:=Lib.hid hG
   have HLK:=Lib.hid hlk
   have HG1:=Lib.hid hg1
   have hkk2 : ((kk : Int) == 0) = false:=beq_eq_false_iff_ne.2 (by omega)
   clear hG hg1 hlk
   go_wp2_with fail
   refine HG.out.mono ?_
   rintro e w4 ⟨hb4,rfl⟩
   have hpk4:=hpk3.below hb4
   have hR4:=hR.below hb4
   have hb04:=hb03.next hb4
   have hRG:=refGet_calls AR R cR s w4 w4.heap.size (Rd.of_own hR4.1) hRl (fun x hx => ⟨(hR4.2 x hx).1.rd,by
    have:=obj_few _ (HIDS.out x.p (by rw [HPE.out]; exact List.mem_map.2 ⟨x,hx,rfl⟩)).2
    omega⟩) hs
   rw [← HPE.out,HG1.out] at hRG
   have HRG:=Lib.hid hRG
   clear hRG HG hpk3 hR hb4 hb03
   go_wp2_with fail
   refine HRG.out.mono ?_
   rintro e w5 ⟨hb5,rfl⟩
   have hpk5:=hpk4.below hb5
   have hR5:=hR4.below hb5
   have hb05:=hb04.next hb5
   have HSP:=Lib.hid (sameParts_calls hpk5 hln _ R AR cR hR5 HPE.out HIDS.out HND.out)
   have hgw:=hpk5.gb
   clear HRG hpk4 hR4 hb5 hb04
   go_wp2_with fail
   refine HSP.out.mono ?_
   rintro e w6 ⟨rfl,⟨vi,hpk6⟩,hg6⟩
   have hb06 : Below w.heap.size w w6:=hb05.trans (below_of_grown hg6 (by omega) hb05.size)
   have HSM:=Lib.hid (Same_calls none [] 0 none [] 0 w6 0 0 Rd.nil Rd.nil rfl)
   have hHS:=Has_calls hpk6 s hs
   rw [HLK.out] at hHS
   have HHS:=Lib.hid hHS
   clear HSP hHS hpk5 hR5 hg6
   go_wp2_with fail
   refine HSM.out.mono ?_
   rintro e w7 ⟨rfl,rfl⟩
   go_wp2_with fail
   refine HHS.out.mono ?_
   rintro e w8 ⟨rfl,hw8⟩
   obtain rfl:=hw8
   go_wp2_with fail
   go_ret
   exact ⟨rfl,hb06⟩
  ·rw [hg1] at hG
   have HG:=Lib.hid hG
   have HLK:=Lib.hid hlk
   have HG1:=Lib.hid hg1
   clear hG hg1 hlk
   go_wp2_with fail
   refine HG.out.mono ?_
   rintro e w4 ⟨hb4,q4,A4,c4,hq4,rfl,ho4,i1,i2⟩
   have hpk4:=hpk3.below hb4
   have hR4:=hR.below hb4
   have hb04:=hb03.next hb4
   have hRG:=refGet_calls AR R cR s w4 w4.heap.size (Rd.of_own hR4.1) hRl (fun x hx => ⟨(hR4.2 x hx).1.rd,by
    have:=obj_few _ (HIDS.out x.p (by rw [HPE.out]; exact List.mem_map.2 ⟨x,hx,rfl⟩)).2
    omega⟩) hs
   rw [← HPE.out,HG1.out] at hRG
   have HRG:=Lib.hid hRG
   clear hRG HG hpk3 hR hb4 hb03
   go_wp2_with fail
   refine HRG.out.mono ?_
   rintro e w5 ⟨hb5,q5,A5,c5,hq5,rfl,ho5,j1,j2⟩
   have hpk5:=hpk4.below hb5
   have hR5:=hR4.below hb5
   have hb05:=hb04.next hb5
   have ho45:=own_belowW ho4 hb5
   have HSP:=Lib.hid (sameParts_calls hpk5 hln _ R AR cR hR5 HPE.out HIDS.out HND.out)
   have hgw:=hpk5.gb
   clear HRG hpk4 hR4 hb5 hb04 ho4
   go_wp2_with fail
   refine HSP.out.mono ?_
   rintro e w6 ⟨rfl,⟨vi,hpk6⟩,hg6⟩
   have hb06 : Below w.heap.size w w6:=hb05.trans (below_of_grown hg6 (by omega) hb05.size)
   have ho46:=own_other ho45 hpk5.blk (by decide) hg6
   have ho56:=own_other ho5 hpk5.blk (by decide) hg6
   have HSM:=Lib.hid (Same_calls A4 q4 c4 A5 q5 c5 w6 w6.heap.size w6.heap.size (Rd.of_own ho46) (Rd.of_own ho56) (by unfold Hid; rw [hq4.out,hq5.out]))
   have hHS:=Has_calls hpk6 s hs
   rw [HLK.out] at hHS
   have HHS:=Lib.hid hHS
   clear HSP hHS hpk5 hR5 hg6 ho45 ho46 ho56 ho5
   go_wp2_with fail
   refine HSM.out.mono ?_
   rintro e w7 ⟨rfl,rfl⟩
   go_wp2_with fail
   refine HHS.out.mono ?_
   rintro e w8 ⟨rfl,hw8⟩
   obtain rfl:=hw8
   go_wp2_with fail
   go_ret
   exact ⟨rfl,hb06⟩
end Go.Proofs.YtnaakfnbmeimaaaGreat
