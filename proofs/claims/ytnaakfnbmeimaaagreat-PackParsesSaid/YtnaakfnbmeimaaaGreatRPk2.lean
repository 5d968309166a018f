/- The walk of the document's open: the bytes of an object that is kept behind others. Conditions: bytes of at most 2^47 - 4096. -/
import Derived.Test.YtnaakfnbmeimaaaGreatRPk1
import Derived.Test.YtnaakfnbmeimaaaGreatRefOwn
import Derived.Test.YtnaakfnbmeimaaaGreatPckOpen
import Derived.Test.YtnaakfnbmeimaaaGreatPackRead
import Derived.BigQuiet
set_option linter.unusedVariables false
namespace Go.Proofs.YtnaakfnbmeimaaaGreat
open Go.RowKit Go.Dol
def RetRO (base : Nat) (w : World) (dn : Nat) (r : Option (List UInt8)) (e : Ending) (w' : World) : Prop :=
 Below w.heap.size w w' ∧ match r with
 | none => ∃ d : Int,e = .returned (.tuple #[.slice none 0 0,.int .i64 d,.bool false])
 | some q => ∃ (q' : List UInt8) (A : Option Addr) (c : Nat),Hid (q' = q) ∧ e = .returned (.tuple #[.slice A q'.length c,.int .i64 (dn : Nat),.bool true]) ∧ B8 w' base A q' ∧ q'.length ≤ c ∧ c ≤ maxLen
theorem last_of {l : List PtA} {n : Nat} {x : PtA} (h : l.length = n + 1) (hx : l[n]? = some x) : lastRaw [] (ptp l) = x.p.raw ∧ lastD 0 (ptp l) = x.p.depth:=by
 have h1 : (ptp l).getLast? = some x.p:=by
  have e : (ptp l).length - 1 = n:=by simp [ptp,h]
  rw [List.getLast?_eq_getElem?,e]
  unfold ptp
  rw [List.getElem?_map,hx]
  rfl
 unfold lastRaw lastD
 rw [h1]
 exact ⟨rfl,rfl⟩
theorem B8.drewQ {w : World} {base : Nat} {A : Option Addr} {l : List UInt8} (h : B8 w base A l) (n : Nat) : B8 (w.drewN n) base A l:=h.keepB (fun _ _ _ => rfl) (Nat.le_refl _)
set_option maxRecDepth 100000 in
set_option maxHeartbeats 1600000 in
theorem refOpenP_calls (Al : Option Addr) (l : List PtA) (cl k base : Nat) (A : Option Addr) (b : List UInt8) (c : Nat) (w : World) (hrl : Rd w w.heap.size 5 Al l.length (rpc l)) (hll : l.length ≤ 4096)
  (hf : ∀ x ∈ l,B8 w base x.A x.p.raw ∧ x.p.raw.length ≤ x.c ∧ x.c ≤ maxLen) (hraw : ∀ x ∈ l,0 < x.p.raw.length ∧ x.p.raw.length ≤ 2097152) (hdp : ∀ x ∈ l,x.p.depth ≤ 7)
  (ho : B8 w base A b) (hbase : base ≤ w.heap.size) (hc : b.length ≤ c) (hcm : c ≤ maxLen) (hl : b.length ≤ 140737488351232) :
  Calls Tryz.prog 46 #[.slice Al l.length cl,.int .i64 k,.slice A b.length c] w (RetRO base w (nextD (lastD 0 (ptp l)) k) (openP (lastRaw [] (ptp l)) (lastD 0 (ptp l)) k b)):=by
 by_cases k0 : k = 0
 ·have d0 : ((k : Int) == 0) = true:=by simp; omega
  have e0 : ∀ prev d,openP prev d k b = some b:=fun prev d => by unfold openP; rw [if_pos k0]
  have e1 : ∀ d,nextD d k = 0:=fun d => by unfold nextD; rw [if_neg (by omega)]
  rw [e0,e1]
  clear e0 e1 k0
  go_enter Tryz.func46,Tryz.ntmps46
  go_wp2_with fail
  go_ret3
  exact ⟨Below.refl _ _,b,A,c,rfl,rfl,ho,hc,hcm⟩
 have d0 : ((k : Int) == 0) = false:=by simp; omega
 by_cases k1 : k = 1
 ·have d1 : ((k : Int) == 1) = true:=by simp; omega
  have e0 : ∀ prev d,openP prev d k b = openL b 2097152:=fun prev d => by unfold openP; rw [if_neg k0,if_pos k1]
  have e1 : ∀ d,nextD d k = 0:=fun d => by unfold nextD; rw [if_neg (by omega)]
  rw [e0,e1]
  have HO:=Lib.hid (refOpen_own A b c 2097152 w ho.rd (by omega) hc (by omega))
  clear e0 e1 k0 k1
  go_enter Tryz.func46,Tryz.ntmps46
  go_wp2_with fail
  refine HO.out.mono ?_
  intro e w1 hr
  have hB:=hr.toB hbase
  cases hq : openL b 2097152 with
  | none =>
   rw [hq] at hB
   obtain ⟨hb1,rfl⟩:=hB
   go_wp2_with fail
   go_ret3
   rw [hq]
   exact ⟨hb1,_,rfl⟩
  | some q =>
   rw [hq] at hB
   obtain ⟨hb1,q',A1,c1,hq1,rfl,ho1,i1,i2⟩:=hB
   go_wp2_with fail
   go_ret3
   rw [hq]
   exact ⟨hb1,q',A1,c1,hq1,rfl,ho1,i1,i2⟩
 have d1 : ((k : Int) == 1) = false:=by simp; omega
 by_cases k2 : k = 2
 ·have d2 : ((k : Int) == 2) = true:=by simp; omega
  have e0 : ∀ prev d,openP prev d k b = if 0 < prev.length ∧ d < 7 then applyL prev b 2097152 else none:=fun prev d => by unfold openP; rw [if_neg k0,if_neg k1,if_pos k2]
  have e1 : ∀ d,nextD d k = d + 1:=fun d => by unfold nextD; rw [if_pos k2]
  rw [e0,e1]
  clear e0 e1 k0 k1 k2
  by_cases hp0 : l.length = 0
  ·have hl0 : l = []:=List.eq_nil_of_length_eq_zero hp0
   have p0 : ((l.length : Int) == 0) = true:=beq_iff_eq.2 (by omega)
   rw [if_neg (by rw [hl0]; simp [lastRaw,ptp])]
   clear hl0 hp0
   go_enter Tryz.func46,Tryz.ntmps46
   go_wp2_with fail
   go_ret3
   exact ⟨Below.refl _ _,_,rfl⟩
  obtain ⟨n,hn⟩ : ∃ n,l.length = n + 1:=⟨l.length - 1,by omega⟩
  obtain ⟨x,hx⟩ : ∃ x,l[n]? = some x:=⟨l[n]'(by omega),List.getElem?_eq_getElem (by omega)⟩
  have p0 : ((l.length : Int) == 0) = false:=beq_eq_false_iff_ne.2 (by omega)
  have f1 : IntKind.i64.wrap ((l.length : Int) - 1) = (n : Int):=by rw [IntWalk.i64_in _ (by omega)]; omega
  have n0 : (0 : Int) ≤ (n : Int):=by omega
  have n1 : (n : Int) < (l.length : Int):=by omega
  obtain ⟨ho1,ho2⟩:=last_of hn hx
  rw [ho1,ho2]
  have hxm:=List.mem_of_getElem? hx
  obtain ⟨hxB,hxc,hxm2⟩:=hf x hxm
  obtain ⟨hxr1,hxr2⟩:=hraw x hxm
  have hxd:=hdp x hxm
  obtain ⟨bb,off,rfl,hbb,hcell⟩:=hrl.at_ (by omega)
  have c2 : w.cell? ⟨bb,off + n * 5 + 2,none⟩ = some (.int .i64 (x.p.depth : Nat)):=hcell (n * 5 + 2) _ (rpc_get hx 2 (by omega))
  have c4 : w.cell? ⟨bb,off + n * 5 + 4,none⟩ = some (.slice x.A x.p.raw.length x.c):=hcell (n * 5 + 4) _ (rpc_get hx 4 (by omega))
  obtain ⟨dp,hdpe⟩ : ∃ dp,dp = x.p.depth:=⟨_,rfl⟩
  rw [← hdpe] at c2 hxd ⊢
  have HN:=Lib.hid hn
  clear hdpe hcell hx hxm ho1 ho2 hf hraw hdp hrl hn hp0
  by_cases h7 : dp < 7
  ·have p1 : decide ((dp : Int) ≥ 7) = false:=decide_eq_false (by omega)
   have p1b : ¬ ((7 : Int) ≤ (dp : Int)):=by omega
   have p1c : ¬ ((dp : Int) ≥ 7):=by omega
   have f2 : IntKind.i64.wrap ((dp : Int) + 1) = (dp : Int) + 1:=IntWalk.i64_in _ (by omega)
   rw [if_pos ⟨hxr1,h7⟩]
   have HO:=Lib.hid (refApply_own x.A x.p.raw x.c A b c 2097152 w hxB.rd (by omega) hxc ho.rd (by omega) hc (by omega))
   go_enter Tryz.func46,Tryz.ntmps46
   go_wp2_with fail
   refine HO.out.mono ?_
   intro e w1 hr
   have hB:=hr.toB hbase
   cases hq : applyL x.p.raw b 2097152 with
   | none =>
    rw [hq] at hB
    obtain ⟨hb1,rfl⟩:=hB
    have c3 : w1.cell? ⟨bb,off + n * 5 + 2,none⟩ = some (.int .i64 (dp : Nat)):=(hb1.cell (p:=⟨bb,off + n * 5 + 2,none⟩) hbb).trans c2
    go_wp2_with fail
    go_quiet (fail)
    go_wp2_with fail
    go_ret3
    rw [hq]
    exact ⟨hb1.drewN' _,_,rfl⟩
   | some q =>
    rw [hq] at hB
    obtain ⟨hb1,q',A1,c1,hq1,rfl,ho1,i1,i2⟩:=hB
    have c3 : w1.cell? ⟨bb,off + n * 5 + 2,none⟩ = some (.int .i64 (dp : Nat)):=(hb1.cell (p:=⟨bb,off + n * 5 + 2,none⟩) hbb).trans c2
    go_wp2_with fail
    go_quiet (fail)
    go_wp2_with fail
    go_ret3
    rw [hq]
    exact ⟨hb1.drewN' _,q',A1,c1,hq1,by first | rfl | simp,ho1.drewQ _,i1,i2⟩
  ·have p1 : decide ((dp : Int) ≥ 7) = true:=decide_eq_true (by omega)
   have p1b : (7 : Int) ≤ (dp : Int):=by omega
   rw [if_neg (fun h => h7 h.2)]
   go_enter Tryz.func46,Tryz.ntmps46
   go_wp2_with fail
   go_ret3
   exact ⟨Below.refl _ _,_,rfl⟩
 have d2 : ((k : Int) == 2) = false:=by simp; omega
 have e0 : ∀ prev d,openP prev d k b = none:=fun prev d => by unfold openP; rw [if_neg k0,if_neg k1,if_neg k2]
 rw [e0]
 clear e0 k0 k1 k2
 go_enter Tryz.func46,Tryz.ntmps46
 go_wp2_with fail
 go_ret3
 exact ⟨Below.refl _ _,_,rfl⟩
end Go.Proofs.YtnaakfnbmeimaaaGreat
