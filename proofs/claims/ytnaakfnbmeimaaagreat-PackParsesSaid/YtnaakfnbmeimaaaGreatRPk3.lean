/- The walk of the document's Parse. Conditions: bytes of at most 2^47 - 4096. -/
import Derived.Test.YtnaakfnbmeimaaaGreatRPk2
import Derived.Test.YtnaakfnbmeimaaaGreatPckPart
import Derived.Test.YtnaakfnbmeimaaaGreatObjE
import Derived.Test.YtnaakfnbmeimaaaGreatSumB
import Derived.Deep.DeepCutAuto
import Derived.Test.YtnaakfnbmeimaaaGreatShort
set_option linter.unusedVariables false
namespace Go.Proofs.YtnaakfnbmeimaaaGreat
open Go.RowKit Go.Dol
theorem info_rpt : (Tryz.prog.info? 88).map (fun i => (i.zero,i.size,i.bytes)) = some (some (.agg #[.string ⟨#[]⟩,.int .i64 0,.int .i64 0,.int .i64 0,.slice none 0 0]),5,64):=by kernel_rfl
def RPts (w : World) (base : Nat) (A : Option Addr) (c : Nat) (l : List PtA) : Prop:=w.ownsRow base 88 5 (.slice A l.length c) l.length (rpc l) ∧ ∀ x ∈ l,B8 w base x.A x.p.raw ∧ x.p.raw.length ≤ x.c ∧ x.c ≤ maxLen
theorem RPts.below {w w' : World} {base : Nat} {A : Option Addr} {c : Nat} {l : List PtA} (h : RPts w base A c l) (hb : Below w.heap.size w w') : RPts w' base A c l :=
 ⟨own_belowW h.1 hb,fun x hx => ⟨(h.2 x hx).1.keepB (fun k _ hk => hb.block k hk) hb.size,(h.2 x hx).2⟩⟩
def RetRPar (w : World) (r : Option (List Pt)) (e : Ending) (w' : World) : Prop :=
 Below w.heap.size w w' ∧ match r with
 | none => e = .returned (.tuple #[.slice none 0 0,.int .i64 2])
 | some ps => ∃ (l : List PtA) (A : Option Addr) (c : Nat),Hid (ptp l = ps) ∧ e = .returned (.tuple #[.slice A l.length c,.int .i64 0]) ∧ RPts w' w.heap.size A c l ∧ l.length ≤ 4096
def RParRel (p0 : List UInt8) (n : Nat) (w : World) (p l i : Value) (wr : World) : Prop :=
 ∃ (ls : List PtA) (Al : Option Addr) (cl : Nat) (pp : List UInt8) (Ap : Option Addr) (cp : Nat),p = .slice Ap pp.length cp ∧ l = .slice Al ls.length cl ∧ i = .int .i64 (ls.length : Int) ∧ ls.length ≤ n ∧ RPts wr w.heap.size Al cl ls ∧
  Far wr w.heap.size Ap pp ∧ pp.length ≤ cp ∧ cp ≤ maxLen ∧ pp.length ≤ p0.length ∧ Hid (readPts geS ls.length [] 0 p0 = some (ptp ls,pp)) ∧ Hid (∀ x ∈ ls,0 < x.p.raw.length ∧ x.p.raw.length ≤ 2097152) ∧ Hid (∀ x ∈ ls,x.p.depth ≤ 7) ∧ Below w.heap.size w wr
theorem lastD_le {ls : List PtA} (h : ∀ x ∈ ls,x.p.depth ≤ 7) : lastD 0 (ptp ls) ≤ 7:=by
 unfold lastD
 split
 ·omega
 ·rename_i p hp
  obtain ⟨x,hx,rfl⟩:=List.mem_map.1 (List.mem_of_getLast? hp)
  exact h x hx
theorem parse_short {ge : ByteArray → ByteArray → Bool} {b : List UInt8} (h : b.length < 37) : parseL ge b = none:=by
 unfold parseL
 split
 ·rfl
 ·rename_i hn
  have h36 : b.length = 36:=by
   have : ¬ b.length < 36:=fun h9 => hn (.inl h9)
   omega
  have e : (b.take (b.length - 32)).drop 4 = []:=List.drop_eq_nil_of_le (by rw [List.length_take]; omega)
  rw [e]
  rfl
set_option maxRecDepth 100000 in
set_option maxHeartbeats 3200000 in
theorem refParse_calls (A : Option Addr) (b : List UInt8) (c : Nat) (w : World) (hr : Rd w w.heap.size 1 A b.length (bc b)) (hc : b.length ≤ c) (hcm : c ≤ maxLen) (hl : b.length ≤ 140737488351232) :
  Calls Tryz.prog 18 #[.slice A b.length c] w (RetRPar w (parseL geS b)):=by
 obtain ⟨r,hre⟩ : ∃ r,r = parseL geS b:=⟨_,rfl⟩
 rw [← hre]
 have HR:=Lib.hid hre
 clear hre
 by_cases h37 : b.length < 37
 ·have hr0 : Hid (r = none):=by unfold Hid; rw [HR.out]; exact parse_short h37
  have d1 : decide ((b.length : Int) < 37) = true:=decide_eq_true (by omega)
  have d1' : (b.length : Int) < 37:=by omega
  go_enter Tryz.func18,Tryz.ntmps18
  go_wp2_with fail
  refine wp_region_held_drew (S:=fun W => True) (by kernel_rfl) (trivial) (fun hHeld => ?_)
  refine tk 0 (.slice A b.length c) rfl (fun _ _ _ h => h) (Or.inl ⟨by rfl,fun w9 hS => ?_⟩) hHeld ?_
  ·skip
   go_simp
  try simp only [Act.put,sA,sB,sC,sD,sF]
  refine tk 1 (.int .i64 (b.length : Int)) rfl (fun _ _ _ h => h) (Or.inl ⟨by rfl,fun w9 hS => ?_⟩) hHeld ?_
  ·skip
   go_simp
  try simp only [Act.put,sA,sB,sC,sD,sE,sF]
  refine tk 2 (.bool true) rfl (fun _ _ _ h => h) (Or.inl ⟨by rfl,fun w9 hS => ?_⟩) hHeld ?_
  ·skip
   go_simp
  try simp only [Act.put,sA,sB,sC,sD,sE,sF]
  refine tk 3 (.bool true) rfl (fun _ _ _ h => h) (Or.inl ⟨by rfl,fun w9 hS => ?_⟩) hHeld ?_
  ·skip
   go_simp
  try simp only [Act.put,sA,sB,sC,sD,sE,sF]
  refine tk 4 (undef) rfl (fun _ _ _ h => h) (Or.inr ⟨by rfl,rfl⟩) hHeld ?_
  try simp only [Act.put,sA,sB,sC,sD,sE,sF]
  refine tk 5 (undef) rfl (fun _ _ _ h => h) (Or.inr ⟨by rfl,rfl⟩) hHeld ?_
  try simp only [Act.put,sA,sB,sC,sD,sE,sF]
  refine tk 6 (undef) rfl (fun _ _ _ h => h) (Or.inr ⟨by rfl,rfl⟩) hHeld ?_
  try simp only [Act.put,sA,sB,sC,sD,sE,sF]
  refine tk 7 (undef) rfl (fun _ _ _ h => h) (Or.inr ⟨by rfl,rfl⟩) hHeld ?_
  try simp only [Act.put,sA,sB,sC,sD,sE,sF]
  refine tk 8 (.bool true) rfl (fun _ _ _ h => h) (Or.inl ⟨by rfl,fun w9 hS => ?_⟩) hHeld ?_
  ·skip
   go_simp
  try simp only [Act.put,sA,sB,sC,sD,sE,sF]
  refine tk 9 (.bool true) rfl (fun _ _ _ h => h) (Or.inl ⟨by rfl,fun w9 hS => ?_⟩) hHeld ?_
  ·skip
   go_simp
  try simp only [Act.put,sA,sB,sC,sD,sE,sF]
  refine tk 10 (undef) rfl (fun _ _ _ h => h) (Or.inr ⟨by rfl,rfl⟩) hHeld ?_
  try simp only [Act.put,sA,sB,sC,sD,sE,sF]
  refine tk 11 (undef) rfl (fun _ _ _ h => h) (Or.inr ⟨by rfl,rfl⟩) hHeld ?_
  try simp only [Act.put,sA,sB,sC,sD,sE,sF]
  refine tk 12 (undef) rfl (fun _ _ _ h => h) (Or.inr ⟨by rfl,rfl⟩) hHeld ?_
  try simp only [Act.put,sA,sB,sC,sD,sE,sF]
  refine tk 13 (undef) rfl (fun _ _ _ h => h) (Or.inr ⟨by rfl,rfl⟩) hHeld ?_
  try simp only [Act.put,sA,sB,sC,sD,sE,sF]
  refine tk 14 (undef) rfl (fun _ _ _ h => h) (Or.inr ⟨by rfl,rfl⟩) hHeld ?_
  try simp only [Act.put,sA,sB,sC,sD,sE,sF]
  refine tk 15 (undef) rfl (fun _ _ _ h => h) (Or.inr ⟨by rfl,rfl⟩) hHeld ?_
  try simp only [Act.put,sA,sB,sC,sD,sE,sF]
  refine tk 16 (undef) rfl (fun _ _ _ h => h) (Or.inr ⟨by rfl,rfl⟩) hHeld ?_
  try simp only [Act.put,sA,sB,sC,sD,sE,sF]
  refine tk 17 (undef) rfl (fun _ _ _ h => h) (Or.inr ⟨by rfl,rfl⟩) hHeld ?_
  try simp only [Act.put,sA,sB,sC,sD,sE,sF]
  refine tk 18 (undef) rfl (fun _ _ _ h => h) (Or.inr ⟨by rfl,rfl⟩) hHeld ?_
  try simp only [Act.put,sA,sB,sC,sD,sE,sF]
  refine tk 19 (undef) rfl (fun _ _ _ h => h) (Or.inr ⟨by rfl,rfl⟩) hHeld ?_
  try simp only [Act.put,sA,sB,sC,sD,sE,sF]
  refine tk 20 (undef) rfl (fun _ _ _ h => h) (Or.inr ⟨by rfl,rfl⟩) hHeld ?_
  try simp only [Act.put,sA,sB,sC,sD,sE,sF]
  refine tk 21 (undef) rfl (fun _ _ _ h => h) (Or.inr ⟨by rfl,rfl⟩) hHeld ?_
  try simp only [Act.put,sA,sB,sC,sD,sE,sF]
  refine tk 22 (undef) rfl (fun _ _ _ h => h) (Or.inr ⟨by rfl,rfl⟩) hHeld ?_
  try simp only [Act.put,sA,sB,sC,sD,sE,sF]
  refine tk 23 (.bool true) rfl (fun _ _ _ h => h) (Or.inl ⟨by rfl,fun w9 hS => ?_⟩) hHeld ?_
  ·skip
   go_simp
  try simp only [Act.put,sA,sB,sC,sD,sE,sF]
  refine wpAnyH_done (by kernel_rfl) ?_ _
  go_wp2_with fail
  go_ret2
  rw [hr0.out]
  exact ⟨(Below.refl _ _).drew,rfl⟩
 have d1 : decide ((b.length : Int) < 37) = false:=decide_eq_false (by omega)
 have d1' : ¬ (b.length : Int) < 37:=by omega
 obtain ⟨m4,hm4,h41,h42,h4p,_,sl4⟩:=sl_to (k:=4) 4 rfl hr (by omega) hc hcm
 have hc4 : (convert 25 9 (.slice A m4.length c)).run Tryz.prog w.drew = .ok (.string ⟨m4.toArray⟩) w.drew:=conv8f h4p.1.drew
 have hq4:=str_beqT m4 [68,80,75,49]
 by_cases hmag : m4 = [68,80,75,49]
 ·rw [decide_eq_true hmag] at hq4
  have HMG:=Lib.hid hmag
  obtain ⟨aN,haN⟩ : ∃ aN,aN = b.length - 32:=⟨_,rfl⟩
  have w1 : IntKind.i64.wrap ((b.length : Int) - 32) = (aN : Int):=by rw [IntWalk.i64_in _ (by omega)]; omega
  have haN4 : 4 ≤ aN:=by omega
  have haNb : aN ≤ b.length:=by omega
  obtain ⟨bp,hbp,hbp1,hbpB,hbpp,_,slp⟩:=sl_to (k:=aN) (aN : Int) rfl hr haNb hc hcm
  obtain ⟨bs,As,cs,hbs,hbs1,hbs2,hbsp,_,_,_,sls⟩:=sl_from (k:=aN) (aN : Int) rfl hr haNb hc hcm
  obtain ⟨mb,Am,cm,hmb,hmb1,hmb2,hmbp,_,_,_,slm⟩:=sl_mid (lo:=4) (hi:=aN) 4 (aN : Int) rfl rfl hr haN4 haNb hc hcm
  have HA:=Lib.hid haN
  clear haN hmag
  have hcs : (convert 25 9 (.slice As bs.length cs)).run Tryz.prog w.drew = .ok (.string ⟨bs.toArray⟩) w.drew:=conv8f hbsp.1.drew
  have hSum:=Lib.hid (refSum_calls A bp c w.drew hbpp.1.drew (by omega))
  by_cases hsum : sumOf bp = bs
  ·have HS:=Lib.hid hsum
   clear hsum
   go_enter Tryz.func18,Tryz.ntmps18
   go_wp2_with fail
   refine wp_region_held_drew (S:=fun W => (convert 25 9 (.slice A m4.length c)).run Tryz.prog W = .ok (.string ⟨m4.toArray⟩) W ∧ (convert 25 9 (.slice As bs.length cs)).run Tryz.prog W = .ok (.string ⟨bs.toArray⟩) W) (by kernel_rfl) (⟨hc4,hcs⟩) (fun hHeld => ?_)
   refine tk 0 (.slice A b.length c) rfl (fun _ _ _ h => h) (Or.inl ⟨by rfl,fun w9 hS => ?_⟩) hHeld ?_
   ·obtain ⟨s0,s1⟩:=hS
    go_simp
   try simp only [Act.put,sA,sB,sC,sD,sF]
   refine tk 1 (.int .i64 (b.length : Int)) rfl (fun _ _ _ h => h) (Or.inl ⟨by rfl,fun w9 hS => ?_⟩) hHeld ?_
   ·obtain ⟨s0,s1⟩:=hS
    go_simp
   try simp only [Act.put,sA,sB,sC,sD,sE,sF]
   refine tk 2 (.bool false) rfl (fun _ _ _ h => h) (Or.inl ⟨by rfl,fun w9 hS => ?_⟩) hHeld ?_
   ·obtain ⟨s0,s1⟩:=hS
    go_simp
   try simp only [Act.put,sA,sB,sC,sD,sE,sF]
   refine tk 3 (.bool false) rfl (fun _ _ _ h => h) (Or.inl ⟨by rfl,fun w9 hS => ?_⟩) hHeld ?_
   ·obtain ⟨s0,s1⟩:=hS
    go_simp
   try simp only [Act.put,sA,sB,sC,sD,sE,sF]
   refine tk 4 (.slice A b.length c) rfl (fun _ _ _ h => h) (Or.inl ⟨by rfl,fun w9 hS => ?_⟩) hHeld ?_
   ·obtain ⟨s0,s1⟩:=hS
    go_simp
   try simp only [Act.put,sA,sB,sC,sD,sE,sF]
   refine tk 5 (.slice A m4.length c) rfl (fun _ _ _ h => h) (Or.inl ⟨by rfl,fun w9 hS => ?_⟩) hHeld ?_
   ·obtain ⟨s0,s1⟩:=hS
    go_simp
   try simp only [Act.put,sA,sB,sC,sD,sE,sF]
   refine tk 6 (.string ⟨m4.toArray⟩) rfl (fun _ _ _ h => h) (Or.inl ⟨by rfl,fun w9 hS => ?_⟩) hHeld ?_
   ·obtain ⟨s0,s1⟩:=hS
    go_simp
   try simp only [Act.put,sA,sB,sC,sD,sE,sF]
   refine tk 7 (.bool false) rfl (fun _ _ _ h => h) (Or.inl ⟨by rfl,fun w9 hS => ?_⟩) hHeld ?_
   ·obtain ⟨s0,s1⟩:=hS
    go_simp <;> exact HMG.out
   try simp only [Act.put,sA,sB,sC,sD,sE,sF]
   refine tk 8 (.bool false) rfl (fun _ _ _ h => h) (Or.inl ⟨by rfl,fun w9 hS => ?_⟩) hHeld ?_
   ·obtain ⟨s0,s1⟩:=hS
    go_simp
   try simp only [Act.put,sA,sB,sC,sD,sE,sF]
   refine tk 9 (.bool false) rfl (fun _ _ _ h => h) (Or.inl ⟨by rfl,fun w9 hS => ?_⟩) hHeld ?_
   ·obtain ⟨s0,s1⟩:=hS
    go_simp
   try simp only [Act.put,sA,sB,sC,sD,sE,sF]
   refine tk 10 (.slice A b.length c) rfl (fun _ _ _ h => h) (Or.inl ⟨by rfl,fun w9 hS => ?_⟩) hHeld ?_
   ·obtain ⟨s0,s1⟩:=hS
    go_simp
   try simp only [Act.put,sA,sB,sC,sD,sE,sF]
   refine tk 11 (.slice A b.length c) rfl (fun _ _ _ h => h) (Or.inl ⟨by rfl,fun w9 hS => ?_⟩) hHeld ?_
   ·obtain ⟨s0,s1⟩:=hS
    go_simp
   try simp only [Act.put,sA,sB,sC,sD,sE,sF]
   refine tk 12 (.int .i64 (b.length : Int)) rfl (fun _ _ _ h => h) (Or.inl ⟨by rfl,fun w9 hS => ?_⟩) hHeld ?_
   ·obtain ⟨s0,s1⟩:=hS
    go_simp
   try simp only [Act.put,sA,sB,sC,sD,sE,sF]
   refine tk 13 (.int .i64 (aN : Int)) rfl (fun _ _ _ h => h) (Or.inl ⟨by rfl,fun w9 hS => ?_⟩) hHeld ?_
   ·obtain ⟨s0,s1⟩:=hS
    go_simp
   try simp only [Act.put,sA,sB,sC,sD,sE,sF]
   refine tk 14 (.slice A bp.length c) rfl (fun _ _ _ h => h) (Or.inl ⟨by rfl,fun w9 hS => ?_⟩) hHeld ?_
   ·obtain ⟨s0,s1⟩:=hS
    go_simp
   try simp only [Act.put,sA,sB,sC,sD,sE,sF]
   refine tk 16 (.slice A b.length c) rfl (fun _ _ _ h => h) (Or.inl ⟨by rfl,fun w9 hS => ?_⟩) hHeld ?_
   ·obtain ⟨s0,s1⟩:=hS
    go_simp
   try simp only [Act.put,sA,sB,sC,sD,sE,sF]
   refine tk 17 (.slice A b.length c) rfl (fun _ _ _ h => h) (Or.inl ⟨by rfl,fun w9 hS => ?_⟩) hHeld ?_
   ·obtain ⟨s0,s1⟩:=hS
    go_simp
   try simp only [Act.put,sA,sB,sC,sD,sE,sF]
   refine tk 18 (.int .i64 (b.length : Int)) rfl (fun _ _ _ h => h) (Or.inl ⟨by rfl,fun w9 hS => ?_⟩) hHeld ?_
   ·obtain ⟨s0,s1⟩:=hS
    go_simp
   try simp only [Act.put,sA,sB,sC,sD,sE,sF]
   refine tk 19 (.int .i64 (aN : Int)) rfl (fun _ _ _ h => h) (Or.inl ⟨by rfl,fun w9 hS => ?_⟩) hHeld ?_
   ·obtain ⟨s0,s1⟩:=hS
    go_simp
   try simp only [Act.put,sA,sB,sC,sD,sE,sF]
   refine tk 20 (.slice As bs.length cs) rfl (fun _ _ _ h => h) (Or.inl ⟨by rfl,fun w9 hS => ?_⟩) hHeld ?_
   ·obtain ⟨s0,s1⟩:=hS
    go_simp
   try simp only [Act.put,sA,sB,sC,sD,sE,sF]
   refine tk 21 (.string ⟨bs.toArray⟩) rfl (fun _ _ _ h => h) (Or.inl ⟨by rfl,fun w9 hS => ?_⟩) hHeld ?_
   ·obtain ⟨s0,s1⟩:=hS
    go_simp
   try simp only [Act.put,sA,sB,sC,sD,sE,sF]
   refine wpAnyH_ready (rs:=[15]) (by kernel_rfl) (by simp) (AllReadyH.cons (o:=_) rfl (fun K hK => ?_) AllReadyH.nil)
   go_simp
   refine (hSum.out).mono ?_
   rintro e w2 ⟨sm,hsm,rfl,hb2⟩
   have hb2 : Below w.heap.size w w2:=⟨hb2.os,hb2.tape,hb2.output,hb2.size,hb2.block⟩
   have hc42:=conv8f (c:=c) (h4p.1.belowW hb2 (Nat.le_refl _))
   have hcs2:=conv8f (c:=cs) (hbsp.1.belowW hb2 (Nat.le_refl _))
   refine hK.out _ _ ⟨hc42,hcs2⟩ (fun hHeld => ?_)
   clear hK K
   try simp only [Act.put,sA,sB,sC,sD,sE,sF]
   obtain rfl : sm = bs:=by rw [hsm.out]; exact HS.out
   refine tk 22 (.bool false) rfl (fun _ _ _ h => h) (Or.inl ⟨by rfl,fun w9 hS => ?_⟩) hHeld ?_
   ·obtain ⟨s0,s1⟩:=hS
    go_simp
   try simp only [Act.put,sA,sB,sC,sD,sE,sF]
   refine tk 23 (.bool false) rfl (fun _ _ _ h => h) (Or.inl ⟨by rfl,fun w9 hS => ?_⟩) hHeld ?_
   ·obtain ⟨s0,s1⟩:=hS
    go_simp
   try simp only [Act.put,sA,sB,sC,sD,sE,sF]
   refine wpAnyH_done (by kernel_rfl) ?_ _
   have hs2:=hb2.size
   have hrp : Hid (r = match takeNum mb with
    | none => none
    | some (n,p) => if 4096 < n then none else match readPts geS n [] 0 p with
     | none => none
     | some (ps,q) => if q = [] ∧ (ps.map (·.id)).Nodup then some ps else none):=by
    unfold Hid
    rw [HR.out]
    unfold parseL
    rw [if_neg (by
     rintro (h | h | h)
     ·omega
     ·exact h (by rw [← hm4.out]; exact HMG.out)
     ·exact h (by rw [← HA.out,← hbp.out,← hbs.out]; exact HS.out))]
    rw [← HA.out,List.drop_take,← hmb.out]
    rfl
   have htn:=RefTakeNum_calls Am mb cm w2 ((hmbp.1.belowW hb2 (Nat.le_refl _)).more hs2) (by omega) hmbp.2.1
   clear HS hcs hcs2 hc42 hSum hsm hbsp sls slp sl4 hbpp HR hc4 h4p hmbp hq4
   cases hnt : takeNum mb with
   | none =>
    rw [hnt] at htn hrp
    have HT:=Lib.hid htn
    have hr0 : Hid (r = none):=hrp.out
    clear htn hnt
    go_wp2_with fail
    refine HT.out.mono ?_
    rintro e w3 ⟨rfl,hb3⟩
    go_wp2_with fail
    go_ret2
    rw [hr0.out]
    exact ⟨hb2.next hb3,rfl⟩
   | some np =>
    obtain ⟨n,p⟩:=np
    rw [hnt] at htn hrp
    have HT:=Lib.hid htn
    have hpl:=takeNum_less hnt
    clear htn hnt
    go_wp2_with fail
    refine HT.out.mono ?_
    rintro e w3 ⟨q,Aq,cq,hq,rfl,hoq,hb3,i1,i2⟩
    have hb03:=hb2.next hb3
    clear HT
    by_cases hn : n ≤ 4096
    ·have d4 : decide ((4096 : Int) < (n : Int)) = false:=decide_eq_false (by omega)
     have d4' : ¬ (4096 : Int) < (n : Int):=by omega
     have hrn : Hid (r = match readPts geS n [] 0 p with
      | none => none
      | some (ps,q) => if q = [] ∧ (ps.map (·.id)).Nodup then some ps else none):=by unfold Hid; rw [hrp.out]; (try simp only); rw [if_neg (by omega)]
     have hpq : q = p:=hq.out
     have hst : RParRel p n w (.slice Aq q.length cq) (.slice none 0 0) (.int .i64 0) w3 :=
      ⟨[],none,0,q,Aq,cq,rfl,rfl,rfl,Nat.zero_le _,⟨World.ownsRow_nil _ _ _ _,fun x hx => (List.not_mem_nil hx).elim⟩,Far.of_seg (Seg.of_own hoq),i1,i2,by rw [hpq]; exact Nat.le_refl _,by unfold Hid; rw [hpq]; rfl,(fun x hx => (List.not_mem_nil hx).elim),(fun x hx => (List.not_mem_nil hx).elim),hb03⟩
     have HST:=Lib.hid hst
     have HPL : Hid (p.length ≤ 140737488351232):=by unfold Hid; omega
     clear hst hrp hpq hq hoq hb3 hb03 hb2 hpl
     go_wp2_with fail
     go_loopw [5,7,8] (fun p' l i wr => RParRel p n w p' l i wr) (fun _ _ i _ => n - (intOf i).toNat)
     case atStart => exact HST.out
     case round =>
      clear HST
      obtain ⟨ls,Al,cl,pp,Ap,cp,rfl,rfl,rfl,hln,hR,hfar,hpc,hpm,hple,hread,hraw,hdep,hbel⟩:=hrel
      have hs:=hbel.size
      have f1 : IntKind.i64.wrap ((ls.length : Int) + 1) = (ls.length : Int) + 1:=IntWalk.i64_in _ (by omega)
      have hppl : pp.length ≤ 140737488351232:=by have:=HPL.out; omega
      by_cases h1 : ls.length < n
      ·have d2 : decide ((ls.length : Int) < (n : Int)) = true:=decide_eq_true (by omega)
       have d2n : decide (ls.length < n) = true:=decide_eq_true h1
       have d2' : (ls.length : Int) < (n : Int):=by omega
       have hl7:=lastD_le hdep.out
       by_cases h33 : pp.length < 33
       ·have d3 : decide ((pp.length : Int) < 33) = true:=decide_eq_true (by omega)
        have d3' : (pp.length : Int) < 33:=by omega
        have hr0 : Hid (r = none):=by
         unfold Hid
         rw [hrn.out,read_fails hread.out h1 (by unfold onePt; rw [List.drop_eq_nil_of_le (by omega)])]
        clear hread hraw hdep hR hfar
        go_wp2_with fail
        go_ret2
        rw [hr0.out]
        exact ⟨hbel,rfl⟩
       have d3 : decide ((pp.length : Int) < 33) = false:=decide_eq_false (by omega)
       have d3' : ¬ (pp.length : Int) < 33:=by omega
       have hrd:=hfar.1
       obtain ⟨rb,ro,rfl,hrbb,hrcell⟩:=hrd.at_ (by omega)
       have c32:=hrcell 32 _ (bc_get pp 32 (by omega))
       obtain ⟨k,hk⟩ : ∃ k,k = (pp[32]'(by omega)).toNat:=⟨_,rfl⟩
       rw [← hk] at c32
       have hk256 : k < 256:=by rw [hk]; exact UInt8.toNat_lt _
       have HK:=Lib.hid hk
       obtain ⟨id,hid,hid1,hid2,hidp,_,hsl⟩:=sl_to (k:=32) 32 rfl hrd (by omega) hpc hpm
       have hcf:=conv8f (c:=cp) hidp.1
       have ix : ∀ w' : World,(Instr.indexAt 25 (.slice (some ⟨rb,ro,none⟩) pp.length cp) (.int .i64 32)).run Tryz.prog w' = .ok (.pointer (some ⟨rb,ro + 32,none⟩)) w':=fun w' => idxN rb ro pp.length cp 32 32 rfl w' (by omega)
       have w2' : IntKind.i64.wrap (k : Int) = (k : Int):=IntWalk.i64_in _ (by omega)
       obtain ⟨q5,Aq5,cq5,hq5,hq51,hq52,hqp5,_,_,_,hsl5⟩:=sl_from (k:=33) 33 rfl hrd (by omega) hpc hpm
       have ht:=RefTakeText_far Aq5 q5 cq5 1099511627776 wr hqp5.1 (by omega) hqp5.2.1
       have hone : Hid (onePt geS 1099511627776 (lastRaw [] (ptp ls)) (lastD 0 (ptp ls)) pp = match takeText q5 1099511627776 with
        | none => none
        | some (t,rest) => match openP (lastRaw [] (ptp ls)) (lastD 0 (ptp ls)) k t with
         | none => none
         | some raw => if sumOf raw = id ∧ isObjL geS raw = true then some (⟨id,k,nextD (lastD 0 (ptp ls)) k,t.length,raw⟩,rest) else none):=by
        unfold Hid
        exact onePt_of (by omega) hid.out hq5.out HK.out
       clear hk hrcell hq5 HK
       cases htt : takeText q5 1099511627776 with
       | none =>
        rw [htt] at ht hone
        have hr0 : Hid (r = none):=by
         unfold Hid
         rw [hrn.out,read_fails hread.out h1 hone.out]
        have HT:=Lib.hid ht
        clear ht htt hread hraw hdep hR hfar hone hid
        go_wp2_with fail
        refine HT.out.mono ?_
        rintro e w4 ⟨rfl,hb4⟩
        go_wp2_with fail
        go_ret2
        rw [hr0.out]
        exact ⟨hbel.next hb4,rfl⟩
       | some tr =>
        obtain ⟨t,rest⟩:=tr
        have htq : t.length + rest.length ≤ q5.length:=by
         obtain ⟨e1,_⟩:=text_takeText htt
         have:=congrArg List.length e1
         rw [List.length_append] at this
         unfold text at this
         rw [List.length_append] at this
         omega
        rw [htt] at ht hone
        have HT:=Lib.hid ht
        clear ht htt
        go_wp2_with fail
        refine HT.out.mono ?_
        rintro e w4 ⟨q6,A6,c6,hq6,rfl,hseg6,hb4⟩
        have hbel4:=hbel.next hb4
        have hR4:=hR.below hb4
        have hs4:=hbel4.size
        have hfar4 : Far w4 w.heap.size A6 q6:=Far.of_seg hseg6
        have hsc:=hseg6.2.1
        have hsm:=hseg6.2.2.1
        obtain ⟨At,ct,w5,hcv,hB85,hb5,j1,j2⟩:=conv_sb8 t w4 (by omega)
        have hbel5:=hbel4.next hb5
        have hR5:=hR4.below hb5
        have hfar5:=hfar4.below hb5
        have hs5:=hbel5.size
        have hq6l : q6.length ≤ p.length:=by rw [hq6.out]; omega
        have HOP:=Lib.hid (refOpenP_calls Al ls cl k w.heap.size At t ct w5 (Rd.of_own hR5.1) (by omega) hR5.2 hraw.out hdep.out (hB85.lower hs4) hs5 j1 j2 (by omega))
        clear HT hR hR4 hfar hfar4 hseg6 hb4 hb5 hB85 hrd hidp hqp5
        cases hop : openP (lastRaw [] (ptp ls)) (lastD 0 (ptp ls)) k t with
        | none =>
         rw [hop] at hone HOP
         have hr0 : Hid (r = none):=by
          unfold Hid
          rw [hrn.out,read_fails hread.out h1 hone.out]
         clear hread hraw hdep hR5 hfar5 hone hid hop
         go_wp2_with fail
         refine HOP.out.mono ?_
         rintro e w6 ⟨hb6,d6,rfl⟩
         go_wp2_with fail
         go_ret2
         rw [hr0.out]
         exact ⟨hbel5.next hb6,rfl⟩
        | some raw =>
         rw [hop] at hone HOP
         have hrl:=openP_raw hop
         clear hop
         go_wp2_with fail
         refine HOP.out.mono ?_
         rintro e w6 ⟨hb6,raw1,A7,c7,hraw1,rfl,hB86,j3,j4⟩
         have hbel6:=hbel5.next hb6
         have hR6:=hR5.below hb6
         have hfar6:=hfar5.below hb6
         have hr1l : raw1.length ≤ 140737488351232:=by rw [hraw1.out]; omega
         have hSum:=Lib.hid (refSum_calls A7 raw1 c7 w6 hB86.rd (by omega))
         have hs6:=hbel6.size
         clear HOP hR5 hfar5 hb6
         go_wp2_with fail
         refine hSum.out.mono ?_
         rintro e w7 ⟨sm,hsm7,rfl,hb7⟩
         have hbel7:=hbel6.next hb7
         have hR7:=hR6.below hb7
         have hfar7:=hfar6.below hb7
         have hB87 : B8 w7 w.heap.size A7 raw1:=hB86.keepB (fun i _ hi => hb7.block i hi) hb7.size
         clear hSum hR6 hfar6 hB86 hb7
         by_cases hsid : sm = id
         ·have hsr : Hid (sumOf raw = id):=by unfold Hid; rw [← hsid,hsm7.out,hraw1.out]
          have hDec:=refDecode_calls A7 raw1 c7 w7 hB87.rd j3 j4 hr1l
          subst hsid
          cases hdo : decO geS raw1 with
          | none =>
           have hob : isObjL geS raw = false:=by unfold isObjL; rw [← hraw1.out,hdo]; rfl
           have hr0 : Hid (r = none):=by
            unfold Hid
            rw [hrn.out,read_fails hread.out h1 (by rw [hone.out]; (try simp only); rw [if_neg (fun h => by rw [hob] at h; cases h.2)])]
           rw [hdo] at hDec
           have HDEC:=Lib.hid hDec
           clear hDec hdo hob hread hraw hdep hR7 hfar7 hone hid hsm7
           go_wp2_with fail
           refine HDEC.out.mono ?_
           rintro e w8 ⟨rfl,hb8⟩
           go_wp2_with fail
           go_ret2
           rw [hr0.out]
           exact ⟨(hbel7.next hb8).alloc (hbel7.next hb8).size _,rfl⟩
          | some oo =>
           have hob : isObjL geS raw = true:=by unfold isObjL; rw [← hraw1.out,hdo]; rfl
           have hone2 : Hid (onePt geS 1099511627776 (lastRaw [] (ptp ls)) (lastD 0 (ptp ls)) pp = some (⟨sm,k,nextD (lastD 0 (ptp ls)) k,t.length,raw⟩,rest)):=by
            unfold Hid
            rw [hone.out]
            (try simp only)
            rw [if_pos ⟨hsr.out,hob⟩]
           have hfew:=obj_few _ hob
           obtain ⟨ho1,ho2,ho3,ho4⟩:=onePt_some hone2.out hl7
           obtain ⟨y0,yt,hy⟩:=obj_head hob
           rw [hdo] at hDec
           have HDEC:=Lib.hid hDec
           obtain ⟨dn,hdn⟩ : ∃ dn,dn = nextD (lastD 0 (ptp ls)) k:=⟨_,rfl⟩
           obtain ⟨x,hx⟩ : ∃ x : PtA,x = ⟨⟨sm,k,dn,t.length,raw1⟩,A7,c7⟩:=⟨_,rfl⟩
           have hxp : Hid (x.p = ⟨sm,k,nextD (lastD 0 (ptp ls)) k,t.length,raw⟩):=by unfold Hid; rw [hx,hdn,hraw1.out]
           rw [← hdn]
           have HX:=Lib.hid hx
           have HOBP : Hid (0 < x.p.raw.length ∧ x.p.raw.length ≤ 2097152):=by
            unfold Hid
            rw [hxp.out]
            exact ⟨by show 0 < raw.length; rw [hy]; exact Nat.succ_pos _,hfew⟩
           have HDP : Hid (x.p.depth ≤ 7):=by unfold Hid; rw [hxp.out]; exact ho2
           have e6 : (ls ++ [x]).length = ls.length + 1:=by simp
           have ep : ptp (ls ++ [x]) = ptp ls ++ [⟨sm,k,nextD (lastD 0 (ptp ls)) k,t.length,raw⟩]:=by unfold ptp; rw [List.map_append,List.map_cons,hxp.out]; rfl
           have hread2 : Hid (readPts geS (ls ++ [x]).length [] 0 p = some (ptp (ls ++ [x]),q6)):=by
            unfold Hid
            rw [e6,ep,hq6.out]
            exact read_snoc hread.out hone2.out
           have hraw2 : Hid (∀ y ∈ ls ++ [x],0 < y.p.raw.length ∧ y.p.raw.length ≤ 2097152):=fun y hy => by
            rcases List.mem_append.1 hy with hy | hy
            ·exact hraw.out y hy
            ·obtain rfl:=List.mem_singleton.1 hy
             exact HOBP.out
           have hdep2 : Hid (∀ y ∈ ls ++ [x],y.p.depth ≤ 7):=fun y hy => by
            rcases List.mem_append.1 hy with hy | hy
            ·exact hdep.out y hy
            ·obtain rfl:=List.mem_singleton.1 hy
             exact HDP.out
           have HE6:=Lib.hid e6
           clear hDec hdo hob hone hid hsm7 hone2 hfew ho1 ho2 ho3 ho4 hy hdn hx hread hraw hdep hl7 ep e6 hsr hraw1 hrl
           go_wp2_with fail
           refine HDEC.out.mono ?_
           rintro e w8 ⟨k9,Ad,d,cd,Ae,en,ce,tr,Ap9,pa,cp9,ta,na,wh,st,te,ho,rfl,_,_,_,hb8,_,_,_⟩
           have hbel8:=hbel7.next hb8
           have hR8:=hR7.below hb8
           have hfar8:=hfar7.below hb8
           have hB88 : B8 w8 w.heap.size A7 raw1:=hB87.keepB (fun i _ hi => hb8.block i hi) hb8.size
           obtain ⟨v8,hv8⟩ : ∃ v8,v8 = w8.alloc (.cells #[.int .i64 k9,.slice Ad d.length cd,.slice Ae en.length ce,.string tr,.slice Ap9 pa.length cp9,.string ta,.string na,.string wh,.int .i64 st,.string te] 72):=⟨_,rfl⟩
           have hb89 : Below w8.heap.size w8 v8:=by rw [hv8]; exact (Below.refl _ _).alloc (Nat.le_refl _) _
           have hbel9:=hbel8.next hb89
           have hR9:=hR8.below hb89
           have hfar9:=hfar8.below hb89
           have hB89 : B8 v8 w.heap.size A7 raw1:=hB88.keepB (fun i _ hi => hb89.block i hi) hb89.size
           have hs9:=hbel9.size
           clear HDEC hR7 hfar7 hB87 hR8 hfar8 hB88 hb8 hb89 ho hbel8 hbel7
           go_upto_region 21 with (fail)
           rw [← hv8]
           clear hv8
           obtain ⟨v9,hv9⟩ : ∃ v9,v9 = v8.alloc (.cells #[.string ⟨sm.toArray⟩,.int .i64 (k : Int),.int .i64 (dn : Int),.int .i64 (t.length : Int),.slice A7 raw1.length c7] 88):=⟨_,rfl⟩
           have hb9 : Below v8.heap.size v8 v9:=by rw [hv9]; exact (Below.refl _ _).alloc (Nat.le_refl _) _
           have hown9 : (v8.alloc (.cells #[.string ⟨sm.toArray⟩,.int .i64 (k : Int),.int .i64 (dn : Int),.int .i64 (t.length : Int),.slice A7 raw1.length c7] 88)).ownsRow w.heap.size 88 5 (.slice Al ls.length cl) ls.length (rpc ls):=hR9.1.alloc _
           have hrx:=Rd.newS v8 88 [.string ⟨sm.toArray⟩,.int .i64 (k : Int),.int .i64 (dn : Int),.int .i64 (t.length : Int),.slice A7 raw1.length c7] 5 rfl
           have hxc : x.rcells = [.string ⟨sm.toArray⟩,.int .i64 (k : Int),.int .i64 (dn : Int),.int .i64 (t.length : Int),.slice A7 raw1.length c7]:=by rw [HX.out]; rfl
           have h1c : ∀ u ∈ [Value.string ⟨sm.toArray⟩,.int .i64 (k : Int),.int .i64 (dn : Int),.int .i64 (t.length : Int),.slice A7 raw1.length c7],u.oneCell' = true:=by
            rw [← hxc]
            intro u hu
            exact rpc_one [x] u (by simpa [rpc] using hu)
           have HXC:=Lib.hid hxc
           clear hxc
           go_wp2_with (at_builtin; refine wpList_append_rd _ rfl (.tmp 107) (.tmp 115) _ rfl w.heap.size _ _ 5 64 Tryz.underlying38 info_rpt rfl (by decide) _ ls.length (rpc ls) rfl hown9 _ _ 1 1 _ rfl hrx h1c (by unfold maxLen; omega) (by omega) (by simp; omega) ?_; intro A5 c5 w13 hE13 hg13 _ i6 i7)
           rw [← hv9] at hg13 hown9
           have hO9 : Other v9 0 (Value.slice Al ls.length cl).ownBlock:=Other.own hown9 (by decide) (Nat.zero_le _)
           have hO9b : Other v9 w.heap.size (Value.slice Al ls.length cl).ownBlock:=Other.own hown9 (by decide) (Nat.le_refl _)
           have hbel10:=hbel9.next hb9
           have hb13 : Below w.heap.size v9 w13:=by
            refine ⟨hg13.os,hg13.tape,hg13.output,hg13.size,fun i hi => hg13.block i (by have:=hbel10.size; omega) (fun e => ?_)⟩
            have:=(hO9b i e.symm).1
            omega
           have hfar13:=(hfar9.below hb9).keep hg13 hO9b
           have hup8 : ∀ (A' : Option Addr) (l' : List UInt8),B8 v8 w.heap.size A' l' → B8 w13 w.heap.size A' l':=fun A' l' h8 => (h8.keepB (fun i _ hi => hb9.block i hi) hb9.size).grown hg13 hO9
           have ec : rpc ls ++ [.string ⟨sm.toArray⟩,.int .i64 (k : Int),.int .i64 (dn : Int),.int .i64 (t.length : Int),.slice A7 raw1.length c7] = rpc (ls ++ [x]):=by rw [rpc_app,← HXC.out]; simp [rpc]
           rw [ec] at hE13
           have hR13 : RPts w13 w.heap.size A5 c5 (ls ++ [x]):=by
            refine ⟨by rw [HE6.out]; exact hE13,fun y hy => ?_⟩
            rcases List.mem_append.1 hy with hy | hy
            ·exact ⟨hup8 _ _ (hR9.2 y hy).1,(hR9.2 y hy).2⟩
            ·obtain rfl:=List.mem_singleton.1 hy
             rw [HX.out]
             exact ⟨hup8 _ _ hB89,j3,j4⟩
           exact ⟨⟨ls ++ [x],A5,c5,q6,A6,c6,rfl,by rw [HE6.out],by rw [HE6.out]; go_num,by rw [HE6.out]; omega,hR13,hfar13,hsc,hsm,hq6l,hread2,hraw2,hdep2,hbel10.trans hb13⟩,by simp [intOf]; omega⟩
         ·have hr0 : Hid (r = none):=by
           unfold Hid
           rw [hrn.out,read_fails hread.out h1 (by rw [hone.out]; (try simp only); rw [if_neg (fun h => hsid (by rw [hsm7.out,hraw1.out]; exact h.1))])]
          have hne : (((⟨sm.toArray⟩ : ByteArray).toList) == ((⟨id.toArray⟩ : ByteArray).toList)) = false:=by rw [str_beqT]; exact decide_eq_false hsid
          have hne2 : (sm == id) = false:=beq_eq_false_iff_ne.2 hsid
          have hne3 : decide (sm = id) = false:=decide_eq_false hsid
          clear hread hraw hdep hR7 hfar7 hone hid hsm7
          go_wp2_with fail
          go_ret2
          rw [hr0.out]
          exact ⟨hbel7,rfl⟩
      ·have d2 : decide ((ls.length : Int) < (n : Int)) = false:=decide_eq_false (by omega)
       have d2n : decide (ls.length < n) = false:=decide_eq_false h1
       have d2' : ¬ (ls.length : Int) < (n : Int):=by omega
       have hln2 : ls.length = n:=by omega
       have hrd : Hid (r = if pp = [] ∧ ((ptp ls).map (·.id)).Nodup then some (ptp ls) else none):=by
        unfold Hid
        rw [hrn.out,← hln2,hread.out]
       have hl4 : ls.length ≤ 4096:=by omega
       clear hln2 hread hraw hdep hfar
       by_cases hp0 : pp.length = 0
       ·have hpe : pp = []:=List.eq_nil_of_length_eq_zero hp0
        have d5 : decide ((0 : Int) < (pp.length : Int)) = false:=decide_eq_false (by omega)
        have d5' : ¬ (0 : Int) < (pp.length : Int):=by omega
        have d5n : ¬ 0 < pp.length:=by omega
        have HTW:=Lib.hid (twice_calls Al ls cl wr wr.heap.size (Rd.of_own hR.1) (by omega))
        have HPE:=Lib.hid hpe
        clear hpe hp0
        go_wp2_with fail
        refine HTW.out.mono ?_
        rintro e w6 ⟨bb,rfl,hbb,q6,hw6⟩
        have hb6 : Below wr.heap.size wr w6:=by rw [hw6]; exact (Below.refl _ _).drewN' _
        have hR6:=hR.below hb6
        clear hw6 HTW hR
        cases bb with
        | true =>
         have hr0 : Hid (r = none):=by unfold Hid; rw [hrd.out,if_neg (fun h => (hbb.out.1 rfl) (by rw [idsR_ptp]; exact h.2))]
         clear hbb
         go_wp2_with fail
         go_ret2
         rw [hr0.out]
         exact ⟨hbel.next hb6,rfl⟩
        | false =>
         have hnd : ((ptp ls).map (·.id)).Nodup:=Decidable.byContradiction fun h => by
          have:=hbb.out.2 (by rw [idsR_ptp]; exact h)
          cases this
         have hr0 : Hid (r = some (ptp ls)):=by unfold Hid; rw [hrd.out,if_pos ⟨HPE.out,hnd⟩]
         clear hbb hnd
         go_wp2_with fail
         go_ret2
         rw [hr0.out]
         exact ⟨hbel.next hb6,ls,Al,cl,rfl,rfl,hR6,hl4⟩
       ·have hr0 : Hid (r = none):=by unfold Hid; rw [hrd.out,if_neg (fun h => hp0 (by rw [h.1]; rfl))]
        have d5 : decide ((0 : Int) < (pp.length : Int)) = true:=decide_eq_true (by omega)
        have d5' : (0 : Int) < (pp.length : Int):=by omega
        have d5n : 0 < pp.length:=by omega
        go_wp2_with fail
        go_ret2
        rw [hr0.out]
        exact ⟨hbel,rfl⟩
    ·have d4 : decide ((4096 : Int) < (n : Int)) = true:=decide_eq_true (by omega)
     have d4' : (4096 : Int) < (n : Int):=by omega
     have hr0 : Hid (r = none):=by unfold Hid; rw [hrp.out]; (try simp only); rw [if_pos (by omega)]
     go_wp2_with fail
     go_ret2
     rw [hr0.out]
     exact ⟨hb03,rfl⟩
  ·have hr0 : Hid (r = none):=by unfold Hid; rw [HR.out]; unfold parseL; rw [if_pos (.inr (.inr (by rw [← HA.out,← hbp.out,← hbs.out]; exact hsum)))]
   go_enter Tryz.func18,Tryz.ntmps18
   go_wp2_with fail
   refine wp_region_held_drew (S:=fun W => (convert 25 9 (.slice A m4.length c)).run Tryz.prog W = .ok (.string ⟨m4.toArray⟩) W ∧ (convert 25 9 (.slice As bs.length cs)).run Tryz.prog W = .ok (.string ⟨bs.toArray⟩) W) (by kernel_rfl) (⟨hc4,hcs⟩) (fun hHeld => ?_)
   refine tk 0 (.slice A b.length c) rfl (fun _ _ _ h => h) (Or.inl ⟨by rfl,fun w9 hS => ?_⟩) hHeld ?_
   ·obtain ⟨s0,s1⟩:=hS
    go_simp
   try simp only [Act.put,sA,sB,sC,sD,sF]
   refine tk 1 (.int .i64 (b.length : Int)) rfl (fun _ _ _ h => h) (Or.inl ⟨by rfl,fun w9 hS => ?_⟩) hHeld ?_
   ·obtain ⟨s0,s1⟩:=hS
    go_simp
   try simp only [Act.put,sA,sB,sC,sD,sE,sF]
   refine tk 2 (.bool false) rfl (fun _ _ _ h => h) (Or.inl ⟨by rfl,fun w9 hS => ?_⟩) hHeld ?_
   ·obtain ⟨s0,s1⟩:=hS
    go_simp
   try simp only [Act.put,sA,sB,sC,sD,sE,sF]
   refine tk 3 (.bool false) rfl (fun _ _ _ h => h) (Or.inl ⟨by rfl,fun w9 hS => ?_⟩) hHeld ?_
   ·obtain ⟨s0,s1⟩:=hS
    go_simp
   try simp only [Act.put,sA,sB,sC,sD,sE,sF]
   refine tk 4 (.slice A b.length c) rfl (fun _ _ _ h => h) (Or.inl ⟨by rfl,fun w9 hS => ?_⟩) hHeld ?_
   ·obtain ⟨s0,s1⟩:=hS
    go_simp
   try simp only [Act.put,sA,sB,sC,sD,sE,sF]
   refine tk 5 (.slice A m4.length c) rfl (fun _ _ _ h => h) (Or.inl ⟨by rfl,fun w9 hS => ?_⟩) hHeld ?_
   ·obtain ⟨s0,s1⟩:=hS
    go_simp
   try simp only [Act.put,sA,sB,sC,sD,sE,sF]
   refine tk 6 (.string ⟨m4.toArray⟩) rfl (fun _ _ _ h => h) (Or.inl ⟨by rfl,fun w9 hS => ?_⟩) hHeld ?_
   ·obtain ⟨s0,s1⟩:=hS
    go_simp
   try simp only [Act.put,sA,sB,sC,sD,sE,sF]
   refine tk 7 (.bool false) rfl (fun _ _ _ h => h) (Or.inl ⟨by rfl,fun w9 hS => ?_⟩) hHeld ?_
   ·obtain ⟨s0,s1⟩:=hS
    go_simp <;> exact HMG.out
   try simp only [Act.put,sA,sB,sC,sD,sE,sF]
   refine tk 8 (.bool false) rfl (fun _ _ _ h => h) (Or.inl ⟨by rfl,fun w9 hS => ?_⟩) hHeld ?_
   ·obtain ⟨s0,s1⟩:=hS
    go_simp
   try simp only [Act.put,sA,sB,sC,sD,sE,sF]
   refine tk 9 (.bool false) rfl (fun _ _ _ h => h) (Or.inl ⟨by rfl,fun w9 hS => ?_⟩) hHeld ?_
   ·obtain ⟨s0,s1⟩:=hS
    go_simp
   try simp only [Act.put,sA,sB,sC,sD,sE,sF]
   refine tk 10 (.slice A b.length c) rfl (fun _ _ _ h => h) (Or.inl ⟨by rfl,fun w9 hS => ?_⟩) hHeld ?_
   ·obtain ⟨s0,s1⟩:=hS
    go_simp
   try simp only [Act.put,sA,sB,sC,sD,sE,sF]
   refine tk 11 (.slice A b.length c) rfl (fun _ _ _ h => h) (Or.inl ⟨by rfl,fun w9 hS => ?_⟩) hHeld ?_
   ·obtain ⟨s0,s1⟩:=hS
    go_simp
   try simp only [Act.put,sA,sB,sC,sD,sE,sF]
   refine tk 12 (.int .i64 (b.length : Int)) rfl (fun _ _ _ h => h) (Or.inl ⟨by rfl,fun w9 hS => ?_⟩) hHeld ?_
   ·obtain ⟨s0,s1⟩:=hS
    go_simp
   try simp only [Act.put,sA,sB,sC,sD,sE,sF]
   refine tk 13 (.int .i64 (aN : Int)) rfl (fun _ _ _ h => h) (Or.inl ⟨by rfl,fun w9 hS => ?_⟩) hHeld ?_
   ·obtain ⟨s0,s1⟩:=hS
    go_simp
   try simp only [Act.put,sA,sB,sC,sD,sE,sF]
   refine tk 14 (.slice A bp.length c) rfl (fun _ _ _ h => h) (Or.inl ⟨by rfl,fun w9 hS => ?_⟩) hHeld ?_
   ·obtain ⟨s0,s1⟩:=hS
    go_simp
   try simp only [Act.put,sA,sB,sC,sD,sE,sF]
   refine tk 16 (.slice A b.length c) rfl (fun _ _ _ h => h) (Or.inl ⟨by rfl,fun w9 hS => ?_⟩) hHeld ?_
   ·obtain ⟨s0,s1⟩:=hS
    go_simp
   try simp only [Act.put,sA,sB,sC,sD,sE,sF]
   refine tk 17 (.slice A b.length c) rfl (fun _ _ _ h => h) (Or.inl ⟨by rfl,fun w9 hS => ?_⟩) hHeld ?_
   ·obtain ⟨s0,s1⟩:=hS
    go_simp
   try simp only [Act.put,sA,sB,sC,sD,sE,sF]
   refine tk 18 (.int .i64 (b.length : Int)) rfl (fun _ _ _ h => h) (Or.inl ⟨by rfl,fun w9 hS => ?_⟩) hHeld ?_
   ·obtain ⟨s0,s1⟩:=hS
    go_simp
   try simp only [Act.put,sA,sB,sC,sD,sE,sF]
   refine tk 19 (.int .i64 (aN : Int)) rfl (fun _ _ _ h => h) (Or.inl ⟨by rfl,fun w9 hS => ?_⟩) hHeld ?_
   ·obtain ⟨s0,s1⟩:=hS
    go_simp
   try simp only [Act.put,sA,sB,sC,sD,sE,sF]
   refine tk 20 (.slice As bs.length cs) rfl (fun _ _ _ h => h) (Or.inl ⟨by rfl,fun w9 hS => ?_⟩) hHeld ?_
   ·obtain ⟨s0,s1⟩:=hS
    go_simp
   try simp only [Act.put,sA,sB,sC,sD,sE,sF]
   refine tk 21 (.string ⟨bs.toArray⟩) rfl (fun _ _ _ h => h) (Or.inl ⟨by rfl,fun w9 hS => ?_⟩) hHeld ?_
   ·obtain ⟨s0,s1⟩:=hS
    go_simp
   try simp only [Act.put,sA,sB,sC,sD,sE,sF]
   refine wpAnyH_ready (rs:=[15]) (by kernel_rfl) (by simp) (AllReadyH.cons (o:=_) rfl (fun K hK => ?_) AllReadyH.nil)
   go_simp
   refine (hSum.out).mono ?_
   rintro e w2 ⟨sm,hsm,rfl,hb2⟩
   have hb2 : Below w.heap.size w w2:=⟨hb2.os,hb2.tape,hb2.output,hb2.size,hb2.block⟩
   have hc42:=conv8f (c:=c) (h4p.1.belowW hb2 (Nat.le_refl _))
   have hcs2:=conv8f (c:=cs) (hbsp.1.belowW hb2 (Nat.le_refl _))
   refine hK.out _ _ ⟨hc42,hcs2⟩ (fun hHeld => ?_)
   clear hK K
   try simp only [Act.put,sA,sB,sC,sD,sE,sF]
   have hne : ¬ sm = bs:=by rw [hsm.out]; exact hsum
   refine tk 22 (.bool true) rfl (fun _ _ _ h => h) (Or.inl ⟨by rfl,fun w9 hS => ?_⟩) hHeld ?_
   ·obtain ⟨s0,s1⟩:=hS
    go_simp
   try simp only [Act.put,sA,sB,sC,sD,sE,sF]
   refine tk 23 (.bool true) rfl (fun _ _ _ h => h) (Or.inl ⟨by rfl,fun w9 hS => ?_⟩) hHeld ?_
   ·obtain ⟨s0,s1⟩:=hS
    go_simp
   try simp only [Act.put,sA,sB,sC,sD,sE,sF]
   refine wpAnyH_done (by kernel_rfl) ?_ _
   go_wp2_with fail
   go_ret2
   rw [hr0.out]
   exact ⟨hb2,rfl⟩
 ·rw [decide_eq_false hmag] at hq4
  have hr0 : Hid (r = none):=by
   unfold Hid
   rw [HR.out]
   unfold parseL
   rw [if_pos (.inr (.inl (by rw [← hm4.out]; exact hmag)))]
  have HNM : Hid (¬ m4 = [68,80,75,49]):=hmag
  clear hmag
  go_enter Tryz.func18,Tryz.ntmps18
  go_wp2_with fail
  refine wp_region_held_drew (S:=fun W => (convert 25 9 (.slice A m4.length c)).run Tryz.prog W = .ok (.string ⟨m4.toArray⟩) W) (by kernel_rfl) (hc4) (fun hHeld => ?_)
  refine tk 0 (.slice A b.length c) rfl (fun _ _ _ h => h) (Or.inl ⟨by rfl,fun w9 hS => ?_⟩) hHeld ?_
  ·have s0:=hS
   go_simp
  try simp only [Act.put,sA,sB,sC,sD,sF]
  refine tk 1 (.int .i64 (b.length : Int)) rfl (fun _ _ _ h => h) (Or.inl ⟨by rfl,fun w9 hS => ?_⟩) hHeld ?_
  ·have s0:=hS
   go_simp
  try simp only [Act.put,sA,sB,sC,sD,sE,sF]
  refine tk 2 (.bool false) rfl (fun _ _ _ h => h) (Or.inl ⟨by rfl,fun w9 hS => ?_⟩) hHeld ?_
  ·have s0:=hS
   go_simp
  try simp only [Act.put,sA,sB,sC,sD,sE,sF]
  refine tk 3 (.bool false) rfl (fun _ _ _ h => h) (Or.inl ⟨by rfl,fun w9 hS => ?_⟩) hHeld ?_
  ·have s0:=hS
   go_simp
  try simp only [Act.put,sA,sB,sC,sD,sE,sF]
  refine tk 4 (.slice A b.length c) rfl (fun _ _ _ h => h) (Or.inl ⟨by rfl,fun w9 hS => ?_⟩) hHeld ?_
  ·have s0:=hS
   go_simp
  try simp only [Act.put,sA,sB,sC,sD,sE,sF]
  refine tk 5 (.slice A m4.length c) rfl (fun _ _ _ h => h) (Or.inl ⟨by rfl,fun w9 hS => ?_⟩) hHeld ?_
  ·have s0:=hS
   go_simp
  try simp only [Act.put,sA,sB,sC,sD,sE,sF]
  refine tk 6 (.string ⟨m4.toArray⟩) rfl (fun _ _ _ h => h) (Or.inl ⟨by rfl,fun w9 hS => ?_⟩) hHeld ?_
  ·have s0:=hS
   go_simp
  try simp only [Act.put,sA,sB,sC,sD,sE,sF]
  refine tk 7 (.bool true) rfl (fun _ _ _ h => h) (Or.inl ⟨by rfl,fun w9 hS => ?_⟩) hHeld ?_
  ·have s0:=hS
   go_simp <;> exact HNM.out
  try simp only [Act.put,sA,sB,sC,sD,sE,sF]
  refine tk 8 (.bool true) rfl (fun _ _ _ h => h) (Or.inl ⟨by rfl,fun w9 hS => ?_⟩) hHeld ?_
  ·have s0:=hS
   go_simp
  try simp only [Act.put,sA,sB,sC,sD,sE,sF]
  refine tk 9 (.bool true) rfl (fun _ _ _ h => h) (Or.inl ⟨by rfl,fun w9 hS => ?_⟩) hHeld ?_
  ·have s0:=hS
   go_simp
  try simp only [Act.put,sA,sB,sC,sD,sE,sF]
  refine tk 10 (undef) rfl (fun _ _ _ h => h) (Or.inr ⟨by rfl,rfl⟩) hHeld ?_
  try simp only [Act.put,sA,sB,sC,sD,sE,sF]
  refine tk 11 (undef) rfl (fun _ _ _ h => h) (Or.inr ⟨by rfl,rfl⟩) hHeld ?_
  try simp only [Act.put,sA,sB,sC,sD,sE,sF]
  refine tk 12 (undef) rfl (fun _ _ _ h => h) (Or.inr ⟨by rfl,rfl⟩) hHeld ?_
  try simp only [Act.put,sA,sB,sC,sD,sE,sF]
  refine tk 13 (undef) rfl (fun _ _ _ h => h) (Or.inr ⟨by rfl,rfl⟩) hHeld ?_
  try simp only [Act.put,sA,sB,sC,sD,sE,sF]
  refine tk 14 (undef) rfl (fun _ _ _ h => h) (Or.inr ⟨by rfl,rfl⟩) hHeld ?_
  try simp only [Act.put,sA,sB,sC,sD,sE,sF]
  refine tk 15 (undef) rfl (fun _ _ _ h => h) (Or.inr ⟨by rfl,rfl⟩) hHeld ?_
  try simp only [Act.put,sA,sB,sC,sD,sE,sF]
  refine tk 16 (undef) rfl (fun _ _ _ h => h) (Or.inr ⟨by rfl,rfl⟩) hHeld ?_
  try simp only [Act.put,sA,sB,sC,sD,sE,sF]
  refine tk 17 (undef) rfl (fun _ _ _ h => h) (Or.inr ⟨by rfl,rfl⟩) hHeld ?_
  try simp only [Act.put,sA,sB,sC,sD,sE,sF]
  refine tk 18 (undef) rfl (fun _ _ _ h => h) (Or.inr ⟨by rfl,rfl⟩) hHeld ?_
  try simp only [Act.put,sA,sB,sC,sD,sE,sF]
  refine tk 19 (undef) rfl (fun _ _ _ h => h) (Or.inr ⟨by rfl,rfl⟩) hHeld ?_
  try simp only [Act.put,sA,sB,sC,sD,sE,sF]
  refine tk 20 (undef) rfl (fun _ _ _ h => h) (Or.inr ⟨by rfl,rfl⟩) hHeld ?_
  try simp only [Act.put,sA,sB,sC,sD,sE,sF]
  refine tk 21 (undef) rfl (fun _ _ _ h => h) (Or.inr ⟨by rfl,rfl⟩) hHeld ?_
  try simp only [Act.put,sA,sB,sC,sD,sE,sF]
  refine tk 22 (undef) rfl (fun _ _ _ h => h) (Or.inr ⟨by rfl,rfl⟩) hHeld ?_
  try simp only [Act.put,sA,sB,sC,sD,sE,sF]
  refine tk 23 (.bool true) rfl (fun _ _ _ h => h) (Or.inl ⟨by rfl,fun w9 hS => ?_⟩) hHeld ?_
  ·have s0:=hS
   go_simp
  try simp only [Act.put,sA,sB,sC,sD,sE,sF]
  refine wpAnyH_done (by kernel_rfl) ?_ _
  go_wp2_with fail
  go_ret2
  rw [hr0.out]
  exact ⟨(Below.refl _ _).drew,rfl⟩
end Go.Proofs.YtnaakfnbmeimaaaGreat
