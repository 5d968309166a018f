/- The walk of a pack's chain: the bytes of an object that is kept. Conditions: bytes of at most 2^47. -/
import Derived.Test.YtnaakfnbmeimaaaGreatPck
import Derived.Test.YtnaakfnbmeimaaaGreatPressB
import Derived.Test.YtnaakfnbmeimaaaGreatDeltaB
set_option linter.unusedVariables false
namespace Go.Proofs.YtnaakfnbmeimaaaGreat
open Go.RowKit Go.Dol
def RetOpenB (base : Nat) (w : World) (r : Option (List UInt8)) (e : Ending) (w' : World) : Prop :=
 Below w.heap.size w w' ∧ match r with
 | none => e = .returned (.tuple #[.slice none 0 0,.int .i64 2])
 | some q => ∃ (q' : List UInt8) (A : Option Addr) (c : Nat),Hid (q' = q) ∧ e = .returned (.tuple #[.slice A q'.length c,.int .i64 0]) ∧ B8 w' base A q' ∧ q'.length ≤ c ∧ c ≤ maxLen
theorem RetOpenN.toB {base : Nat} {w w' : World} {r : Option (List UInt8)} {e : Ending} (h : RetOpenN w r e w') (hb : base ≤ w.heap.size) : RetOpenB base w r e w':=by
 cases r with
 | none => exact ⟨h.2,h.1⟩
 | some q => obtain ⟨q',A,c,h1,h2,h3,h4,h5,h6⟩:=h; exact ⟨h4,q',A,c,h1,h2,(B8.own h3).lower hb,h5,h6⟩
set_option maxRecDepth 100000 in
set_option maxHeartbeats 1600000 in
theorem open_calls (g o : Nat) (T : TypeId) (cs : List Value) (Ap : Option Addr) (prev : List UInt8) (cp d k base : Nat) (A : Option Addr) (b : List UInt8) (c : Nat) (w : World) (hb : Blk w g T cs) (h0 : cs[o]? = some (.slice Ap prev.length cp)) (h1 : cs[o + 1]? = some (.int .i64 d)) (hp : Rd w w.heap.size 1 Ap prev.length (bc prev)) (hpl : prev.length ≤ 2097152) (hcp : prev.length ≤ cp) (hcpm : cp ≤ maxLen)
  (ho : B8 w base A b) (hbase : base ≤ w.heap.size) (hc : b.length ≤ c) (hcm : c ≤ maxLen) (hl : b.length ≤ 140737488351232) :
  Calls Tryz.prog 77 #[.pointer (some ⟨g,o,none⟩),.int .i64 k,.slice A b.length c] w (RetOpenB base w (openP prev d k b)):=by
 have c0 : w.cell? ⟨g,o,none⟩ = some (.slice Ap prev.length cp):=by rw [hb.cell]; exact h0
 have c1 : w.cell? ⟨g,o + 1,none⟩ = some (.int .i64 d):=by rw [hb.cell]; exact h1
 clear h0 h1
 by_cases k0 : k = 0
 ·have d0 : ((k : Int) == 0) = true:=by simp; omega
  have e0 : openP prev d k b = some b:=by unfold openP; rw [if_pos k0]
  rw [e0]
  clear e0 k0
  go_enter Tryz.func77,Tryz.ntmps77
  go_wp2_with fail
  go_ret2
  exact ⟨Below.refl _ _,b,A,c,rfl,rfl,ho,hc,hcm⟩
 have d0 : ((k : Int) == 0) = false:=by simp; omega
 by_cases k1 : k = 1
 ·have d1 : ((k : Int) == 1) = true:=by simp; omega
  have e0 : openP prev d k b = openL b 2097152:=by unfold openP; rw [if_neg k0,if_pos k1]
  rw [e0]
  have HO:=Lib.hid (Open_own A b c 2097152 w ho.rd (by omega) hc (fun _ _ _ _ => by omega))
  clear e0 k0 k1
  go_enter Tryz.func77,Tryz.ntmps77
  go_wp2_with fail
  refine HO.out.mono ?_
  intro e w1 hr
  have hB:=hr.toB hbase
  cases hq : openL b 2097152 with
  | none =>
   rw [hq] at hB
   obtain ⟨hb1,rfl⟩:=hB
   go_wp2_with fail
   go_ret2
   rw [hq]
   exact ⟨hb1,rfl⟩
  | some q =>
   rw [hq] at hB
   obtain ⟨hb1,q',A1,c1,hq1,rfl,ho1,i1,i2⟩:=hB
   go_wp2_with fail
   go_ret2
   rw [hq]
   exact ⟨hb1,q',A1,c1,hq1,rfl,ho1,i1,i2⟩
 have d1 : ((k : Int) == 1) = false:=by simp; omega
 by_cases k2 : k = 2
 ·have d2 : ((k : Int) == 2) = true:=by simp; omega
  have e0 : openP prev d k b = if 0 < prev.length ∧ d < 7 then applyL prev b 2097152 else none:=by unfold openP; rw [if_neg k0,if_neg k1,if_pos k2]
  rw [e0]
  clear e0 k0 k1 k2
  by_cases hp0 : 0 < prev.length
  ·have p0 : decide ((0 : Int) < (prev.length : Int)) = true:=decide_eq_true (by omega)
   by_cases h7 : d < 7
   ·have p1 : decide ((d : Int) < 7) = true:=decide_eq_true (by omega)
    rw [if_pos ⟨hp0,h7⟩]
    have HO:=Lib.hid (Apply_own Ap prev cp A b c 2097152 w hp (by omega) hcp hcpm ho.rd (by omega) hc (fun _ _ _ _ _ _ => by omega))
    go_enter Tryz.func77,Tryz.ntmps77
    go_wp2_with fail
    refine HO.out.mono ?_
    intro e w1 hr
    have hB:=hr.toB hbase
    cases hq : applyL prev b 2097152 with
    | none =>
     rw [hq] at hB
     obtain ⟨hb1,rfl⟩:=hB
     go_wp2_with fail
     go_ret2
     rw [hq]
     exact ⟨hb1,rfl⟩
    | some q =>
     rw [hq] at hB
     obtain ⟨hb1,q',A1,c1,hq1,rfl,ho1,i1,i2⟩:=hB
     go_wp2_with fail
     go_ret2
     rw [hq]
     exact ⟨hb1,q',A1,c1,hq1,rfl,ho1,i1,i2⟩
   ·have p1 : decide ((d : Int) < 7) = false:=decide_eq_false (by omega)
    rw [if_neg (fun h => h7 h.2)]
    go_enter Tryz.func77,Tryz.ntmps77
    go_wp2_with fail
    go_ret2
    exact ⟨Below.refl _ _,rfl⟩
  ·have p0 : decide ((0 : Int) < (prev.length : Int)) = false:=decide_eq_false (by omega)
   rw [if_neg (fun h => hp0 h.1)]
   go_enter Tryz.func77,Tryz.ntmps77
   go_wp2_with fail
   go_ret2
   exact ⟨Below.refl _ _,rfl⟩
 have d2 : ((k : Int) == 2) = false:=by simp; omega
 have e0 : openP prev d k b = none:=by unfold openP; rw [if_neg k0,if_neg k1,if_neg k2]
 rw [e0]
 clear e0 k0 k1 k2
 go_enter Tryz.func77,Tryz.ntmps77
 go_wp2_with fail
 go_ret2
 exact ⟨Below.refl _ _,rfl⟩
end Go.Proofs.YtnaakfnbmeimaaaGreat
