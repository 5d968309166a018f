/- The walks of the document's 'object', its first part: a name's part, who told what, what is empty. Conditions: lengths below 2^47. -/
import Derived.Test.YtnaakfnbmeimaaaGreatObjA
import Derived.Test.YtnaakfnbmeimaaaGreatObjBB
import Derived.Test.YtnaakfnbmeimaaaGreatWordsA
import Derived.Test.YtnaakfnbmeimaaaGreatObjC
import Derived.Test.YtnaakfnbmeimaaaGreatShort
set_option maxRecDepth 100000
set_option maxHeartbeats 4000000
set_option linter.unusedVariables false
namespace Go.Dol
theorem str_get (s : ByteArray) {k : Nat} (h : k < s.size) : s[k]'h = s.data.toList[k]'(by rw [str_len]; exact h):=rfl
theorem partB_bad {s : ByteArray} {k : Nat} (h : k < s.data.toList.length) (hc : s.data.toList[k] = 0 ∨ s.data.toList[k] = 47) : partB s = false:=by
 unfold partB
 rcases hc with hc | hc
 ·have : s.data.toList.contains 0 = true:=by rw [List.contains_iff_mem,← hc]; exact List.getElem_mem h
  rw [this]; rfl
 ·have : s.data.toList.contains 47 = true:=by rw [List.contains_iff_mem,← hc]; exact List.getElem_mem h
  rw [this]; simp
theorem partB_rest {s : ByteArray} (h : ∀ (j : Nat) (hj : j < s.data.toList.length),s.data.toList[j] ≠ 0 ∧ s.data.toList[j] ≠ 47) : partB s = (decide (1 ≤ s.size) && decide (s.size ≤ 100) && (!(s.toList == [46]) && !(s.toList == [46,46]))):=by
 have h0 : s.data.toList.contains 0 = false:=by
  rw [Bool.eq_false_iff]
  intro h1
  rw [List.contains_iff_mem] at h1
  obtain ⟨j,hj,e⟩:=List.getElem_of_mem h1
  exact (h j hj).1 e
 have h1 : s.data.toList.contains 47 = false:=by
  rw [Bool.eq_false_iff]
  intro h1
  rw [List.contains_iff_mem] at h1
  obtain ⟨j,hj,e⟩:=List.getElem_of_mem h1
  exact (h j hj).2 e
 unfold partB
 rw [h0,h1]
 simp
theorem str_some {s : ByteArray} (h : ¬ s.size = 0) : ¬ s.toList = []:=fun e => h (by
 rw [ByteArray.toList_eq] at e
 rw [← str_len,e]
 rfl)
theorem u8_ne {x : UInt8} {n : Nat} (h : x ≠ UInt8.ofNat n) (hn : n < 256) : ¬ ((x.toNat : Int) = (n : Nat)):=fun e => h (UInt8.toNat_inj.1 (by rw [UInt8.toNat_ofNat']; omega))
end Go.Dol
namespace Go.Proofs.YtnaakfnbmeimaaaGreat
open Go.RowKit Go.Dol
def PartRel (s : ByteArray) (w : World) (i : Value) (wr : World) : Prop:=wr = w ∧ ∃ k : Nat,i = .int .i64 k ∧ k ≤ s.size ∧ Hid (∀ (j : Nat) (hj : j < s.data.toList.length),j < k → s.data.toList[j] ≠ 0 ∧ s.data.toList[j] ≠ 47)
theorem refPart_calls (s : ByteArray) (w : World) (hs : s.size ≤ maxLen) : Calls Tryz.prog 131 #[.string s] w fun e w' => e = .returned (.bool (partB s)) ∧ w = w':=by
 have hsm : s.size ≤ 9223372036854775807:=by unfold maxLen at hs; omega
 go_enter Tryz.func131,Tryz.ntmps131
 go_wp2_with fail
 go_loopw [3] (fun i wr => PartRel s w i wr) (fun i _ => s.size - (intOf i).toNat)
 case atStart => exact ⟨rfl,0,rfl,Nat.zero_le _,Lib.hid (fun j _ h => by omega)⟩
 case round =>
  obtain ⟨rfl,k,rfl,hk,hall⟩:=hrel
  have f1 : k < s.size → IntKind.i64.wrap ((k : Int) + 1) = (k : Int) + 1:=fun h => IntWalk.i64_in _ (by omega)
  by_cases h1 : k < s.size
  ·have f2:=f1 h1
   have d1 : decide ((k : Int) < (s.size : Int)) = true:=decide_eq_true (by omega)
   have d1' : (k : Int) < (s.size : Int):=by omega
   have hk0 : (0 : Int) ≤ (k : Int):=by omega
   have hkl : k < s.data.toList.length:=by rw [str_len]; exact h1
   obtain ⟨c,hc⟩ : ∃ c,c = s.data.toList[k]:=⟨_,rfl⟩
   have hsx : ∀ h : k < s.size,(s[k]'h).toNat = c.toNat:=fun h => by rw [str_get s h,hc]
   have HC:=Lib.hid hc
   clear hc f1
   by_cases hz : c = 0
   ·have g1 : ((c.toNat : Int) == 0) = true:=by rw [hz]; rfl
    have HP : Hid (partB s = false):=Lib.hid (partB_bad hkl (.inl (by rw [← HC.out,hz])))
    clear hz
    go_wp2_with fail
    go_ret
    exact ⟨by rw [HP.out]; rfl,rfl⟩
   ·have hz' : ¬ ((c.toNat : Int) = 0):=u8_ne (n:=0) hz (by decide)
    have g1 : ((c.toNat : Int) == 0) = false:=beq_eq_false_iff_ne.2 hz'
    by_cases hq : c = 47
    ·have g2 : ((c.toNat : Int) == 47) = true:=by rw [hq]; rfl
     have HP : Hid (partB s = false):=Lib.hid (partB_bad hkl (.inr (by rw [← HC.out,hq])))
     clear hq
     go_wp2_with fail
     go_ret
     exact ⟨by rw [HP.out]; rfl,rfl⟩
    ·have hq' : ¬ ((c.toNat : Int) = 47):=u8_ne (n:=47) hq (by decide)
     have g2 : ((c.toNat : Int) == 47) = false:=beq_eq_false_iff_ne.2 hq'
     have HA : Hid (∀ (j : Nat) (hj : j < s.data.toList.length),j < k + 1 → s.data.toList[j] ≠ 0 ∧ s.data.toList[j] ≠ 47):=fun j hj hjk => by
      by_cases e : j = k
      ·subst e
       rw [← HC.out]
       exact ⟨hz,hq⟩
      ·exact hall.out j hj (by omega)
     have HZ:=Lib.hid hz
     have HQ:=Lib.hid hq
     clear hz hq
     go_wp2_with fail
     exact ⟨⟨by first | trivial | rfl,k + 1,by go_num,h1,HA⟩,by simp [intOf]; omega⟩
  ·have d1 : decide ((k : Int) < (s.size : Int)) = false:=decide_eq_false (by omega)
   have d1' : ¬ (k : Int) < (s.size : Int):=by omega
   have HP : Hid (partB s = (decide (1 ≤ s.size) && decide (s.size ≤ 100) && (!(s.toList == [46]) && !(s.toList == [46,46])))):=Lib.hid (partB_rest fun j hj => hall.out j hj (by rw [str_len] at hj; omega))
   clear f1 hall
   by_cases h2 : 1 ≤ s.size
   ·have e1 : decide ((1 : Int) ≤ (s.size : Int)) = true:=decide_eq_true (by omega)
    have e1' : decide ((s.size : Int) ≥ 1) = true:=decide_eq_true (by omega)
    by_cases h3 : s.size ≤ 100
    ·have e2 : decide ((s.size : Int) ≤ 100) = true:=decide_eq_true (by omega)
     have HR : Hid (partB s = (!(s.toList == [46]) && !(s.toList == [46,46]))):=by unfold Hid; rw [HP.out,decide_eq_true h2,decide_eq_true h3]; simp
     clear h2 h3
     cases h4 : (s.toList == [46]) with
     | true =>
      have h4' : s.toList = [46]:=by simpa using h4
      go_wp2_with fail
      go_ret
      exact ⟨by rw [HR.out]; simp [*],rfl⟩
     | false =>
      have h4' : ¬ s.toList = [46]:=by simpa using h4
      go_wp2_with fail
      go_ret
      exact ⟨by rw [HR.out]; simp [*],rfl⟩
    ·have e2 : decide ((s.size : Int) ≤ 100) = false:=decide_eq_false (by omega)
     have HR : Hid (partB s = false):=by unfold Hid; rw [HP.out,decide_eq_false h3]; simp
     clear h2 h3
     go_wp2_with fail
     go_ret
     exact ⟨by rw [HR.out]; rfl,rfl⟩
   ·have e1 : decide ((1 : Int) ≤ (s.size : Int)) = false:=decide_eq_false (by omega)
    have e1' : decide ((s.size : Int) ≥ 1) = false:=decide_eq_false (by omega)
    have HR : Hid (partB s = false):=by unfold Hid; rw [HP.out,decide_eq_false h2]; simp
    clear h2
    go_wp2_with fail
    go_ret
    exact ⟨by rw [HR.out]; rfl,rfl⟩
theorem refTold_calls (k : Int) (Ad : Option Addr) (d : List UInt8) (cd : Nat) (Ae : Option Addr) (en : List Ent) (ce : Nat) (tr : ByteArray) (Ap : Option Addr) (pa : List ByteArray) (cp : Nat) (ta na wh : ByteArray) (st : Int) (te : ByteArray) (w : World) : Calls Tryz.prog 102 #[.agg #[.int .i64 k,.slice Ad d.length cd,.slice Ae en.length ce,.string tr,.slice Ap pa.length cp,.string ta,.string na,.string wh,.int .i64 st,.string te]] w fun e w' => e = .returned (.bool (toldB wh st te)) ∧ Below w.heap.size w w':=by
 have hb0 : Below w.heap.size w (w.alloc (.cells #[.int .i64 k,.slice Ad d.length cd,.slice Ae en.length ce,.string tr,.slice Ap pa.length cp,.string ta,.string na,.string wh,.int .i64 st,.string te] 72)):=(Below.refl _ _).alloc (Nat.le_refl _) _
 by_cases h1 : wh.size ≤ 1000
 ·have d1 : decide ((wh.size : Int) ≤ 1000) = true:=by simp; omega
  by_cases h2 : te.size ≤ 1000
  ·have d2 : decide ((te.size : Int) ≤ 1000) = true:=by simp; omega
   by_cases h3 : 0 ≤ st
   ·have d3 : decide (0 ≤ st) = true:=by simp; omega
    have d3' : decide (st ≥ 0) = true:=by simp; omega
    by_cases h4 : st ≤ 1099511627776
    ·have d4 : decide (st ≤ 1099511627776) = true:=by simp; omega
     have HF : Hid (toldB wh st te = true):=by unfold Hid toldB; simp [h1,h2,h3,h4]
     clear h1 h2
     go_enter Tryz.func102,Tryz.ntmps102
     go_wp2_with fail
     go_ret
     exact ⟨by rw [HF.out]; rfl,hb0⟩
    ·have d4 : decide (st ≤ 1099511627776) = false:=by simp; omega
     have HF : Hid (toldB wh st te = false):=by unfold Hid toldB; simp [h4]
     clear h1 h2
     go_enter Tryz.func102,Tryz.ntmps102
     go_wp2_with fail
     go_ret
     exact ⟨by rw [HF.out]; rfl,hb0⟩
   ·have d3 : decide (0 ≤ st) = false:=by simp; omega
    have d3' : decide (st ≥ 0) = false:=by simp; omega
    have HF : Hid (toldB wh st te = false):=by unfold Hid toldB; simp [h3]
    clear h1 h2
    go_enter Tryz.func102,Tryz.ntmps102
    go_wp2_with fail
    go_ret
    exact ⟨by rw [HF.out]; rfl,hb0⟩
  ·have d2 : decide ((te.size : Int) ≤ 1000) = false:=by simp; omega
   have HF : Hid (toldB wh st te = false):=by unfold Hid toldB; simp [h2]
   clear h1 h2
   go_enter Tryz.func102,Tryz.ntmps102
   go_wp2_with fail
   go_ret
   exact ⟨by rw [HF.out]; rfl,hb0⟩
 ·have d1 : decide ((wh.size : Int) ≤ 1000) = false:=by simp; omega
  have HF : Hid (toldB wh st te = false):=by unfold Hid toldB; simp [h1]
  clear h1
  go_enter Tryz.func102,Tryz.ntmps102
  go_wp2_with fail
  go_ret
  exact ⟨by rw [HF.out]; rfl,hb0⟩
theorem refBare1_n (k : Int) (Ad : Option Addr) (nd cd : Nat) (Ae : Option Addr) (ne ce : Nat) (tr : ByteArray) (Ap : Option Addr) (np cp : Nat) (ta na wh : ByteArray) (st : Int) (te : ByteArray) (w : World) : Calls Tryz.prog 99 #[.agg #[.int .i64 k,.slice Ad nd cd,.slice Ae ne ce,.string tr,.slice Ap np cp,.string ta,.string na,.string wh,.int .i64 st,.string te],.bool false,.bool true,.bool true,.bool true,.bool true] w fun e w' => e = .returned (.bool (decide (ne = 0) && (decide (tr.size = 0) && decide (np = 0)) && (decide (ta.size = 0) && decide (na.size = 0)) && (decide (wh.size = 0) && decide (te.size = 0) && decide (st = 0)))) ∧ Below w.heap.size w w':=by
 rcases Nat.eq_zero_or_pos ne with h0 | h0
 case inr =>
  obtain ⟨m0,rfl⟩ : ∃ m,ne = m + 1:=⟨ne - 1,by omega⟩
  have hb0 : Below w.heap.size w (w.alloc (.cells #[.int .i64 k,.slice Ad nd cd,.slice Ae (m0 + 1) ce,.string tr,.slice Ap np cp,.string ta,.string na,.string wh,.int .i64 st,.string te] 72)):=(Below.refl _ _).alloc (Nat.le_refl _) _
  go_enter Tryz.func99,Tryz.ntmps99
  go_wp2_with fail
  go_ret
  exact ⟨by first | rfl | simp [*],hb0⟩
 case inl =>
  subst h0
  by_cases h1 : tr.size = 0
  case neg =>
   have t1 : ¬ tr.toList = []:=str_some h1
   have u1 : tr.toList.isEmpty = false:=by simpa using t1
   have hb0 : Below w.heap.size w (w.alloc (.cells #[.int .i64 k,.slice Ad nd cd,.slice Ae 0 ce,.string tr,.slice Ap np cp,.string ta,.string na,.string wh,.int .i64 st,.string te] 72)):=(Below.refl _ _).alloc (Nat.le_refl _) _
   go_enter Tryz.func99,Tryz.ntmps99
   go_wp2_with fail
   go_ret
   exact ⟨by first | rfl | simp [*],hb0⟩
  case pos =>
   obtain rfl:=size_zero h1
   clear h1
   rcases Nat.eq_zero_or_pos np with h2 | h2
   case inr =>
    obtain ⟨m2,rfl⟩ : ∃ m,np = m + 1:=⟨np - 1,by omega⟩
    have hb0 : Below w.heap.size w (w.alloc (.cells #[.int .i64 k,.slice Ad nd cd,.slice Ae 0 ce,.string ⟨#[]⟩,.slice Ap (m2 + 1) cp,.string ta,.string na,.string wh,.int .i64 st,.string te] 72)):=(Below.refl _ _).alloc (Nat.le_refl _) _
    go_enter Tryz.func99,Tryz.ntmps99
    go_wp2_with fail
    go_ret
    exact ⟨by first | rfl | simp [*],hb0⟩
   case inl =>
    subst h2
    by_cases h3 : ta.size = 0
    case neg =>
     have t3 : ¬ ta.toList = []:=str_some h3
     have u3 : ta.toList.isEmpty = false:=by simpa using t3
     have hb0 : Below w.heap.size w (w.alloc (.cells #[.int .i64 k,.slice Ad nd cd,.slice Ae 0 ce,.string ⟨#[]⟩,.slice Ap 0 cp,.string ta,.string na,.string wh,.int .i64 st,.string te] 72)):=(Below.refl _ _).alloc (Nat.le_refl _) _
     go_enter Tryz.func99,Tryz.ntmps99
     go_wp2_with fail
     go_ret
     exact ⟨by first | rfl | simp [*],hb0⟩
    case pos =>
     obtain rfl:=size_zero h3
     clear h3
     by_cases h4 : na.size = 0
     case neg =>
      have t4 : ¬ na.toList = []:=str_some h4
      have u4 : na.toList.isEmpty = false:=by simpa using t4
      have hb0 : Below w.heap.size w (w.alloc (.cells #[.int .i64 k,.slice Ad nd cd,.slice Ae 0 ce,.string ⟨#[]⟩,.slice Ap 0 cp,.string ⟨#[]⟩,.string na,.string wh,.int .i64 st,.string te] 72)):=(Below.refl _ _).alloc (Nat.le_refl _) _
      go_enter Tryz.func99,Tryz.ntmps99
      go_wp2_with fail
      go_ret
      exact ⟨by first | rfl | simp [*],hb0⟩
     case pos =>
      obtain rfl:=size_zero h4
      clear h4
      by_cases h5 : wh.size = 0
      case neg =>
       have t5 : ¬ wh.toList = []:=str_some h5
       have u5 : wh.toList.isEmpty = false:=by simpa using t5
       have hb0 : Below w.heap.size w (w.alloc (.cells #[.int .i64 k,.slice Ad nd cd,.slice Ae 0 ce,.string ⟨#[]⟩,.slice Ap 0 cp,.string ⟨#[]⟩,.string ⟨#[]⟩,.string wh,.int .i64 st,.string te] 72)):=(Below.refl _ _).alloc (Nat.le_refl _) _
       go_enter Tryz.func99,Tryz.ntmps99
       go_wp2_with fail
       go_ret
       exact ⟨by first | rfl | simp [*],hb0⟩
      case pos =>
       obtain rfl:=size_zero h5
       clear h5
       by_cases h6 : te.size = 0
       case neg =>
        have t6 : ¬ te.toList = []:=str_some h6
        have u6 : te.toList.isEmpty = false:=by simpa using t6
        have hb0 : Below w.heap.size w (w.alloc (.cells #[.int .i64 k,.slice Ad nd cd,.slice Ae 0 ce,.string ⟨#[]⟩,.slice Ap 0 cp,.string ⟨#[]⟩,.string ⟨#[]⟩,.string ⟨#[]⟩,.int .i64 st,.string te] 72)):=(Below.refl _ _).alloc (Nat.le_refl _) _
        go_enter Tryz.func99,Tryz.ntmps99
        go_wp2_with fail
        go_ret
        exact ⟨by first | rfl | simp [*],hb0⟩
       case pos =>
        obtain rfl:=size_zero h6
        clear h6
        by_cases h7 : st = 0
        case neg =>
         have t7 : (st == 0) = false:=beq_eq_false_iff_ne.2 h7
         have hb0 : Below w.heap.size w (w.alloc (.cells #[.int .i64 k,.slice Ad nd cd,.slice Ae 0 ce,.string ⟨#[]⟩,.slice Ap 0 cp,.string ⟨#[]⟩,.string ⟨#[]⟩,.string ⟨#[]⟩,.int .i64 st,.string ⟨#[]⟩] 72)):=(Below.refl _ _).alloc (Nat.le_refl _) _
         go_enter Tryz.func99,Tryz.ntmps99
         go_wp2_with fail
         go_ret
         exact ⟨by first | rfl | simp [*],hb0⟩
        case pos =>
         subst h7
         have hb0 : Below w.heap.size w (w.alloc (.cells #[.int .i64 k,.slice Ad nd cd,.slice Ae 0 ce,.string ⟨#[]⟩,.slice Ap 0 cp,.string ⟨#[]⟩,.string ⟨#[]⟩,.string ⟨#[]⟩,.int .i64 0,.string ⟨#[]⟩] 72)):=(Below.refl _ _).alloc (Nat.le_refl _) _
         go_enter Tryz.func99,Tryz.ntmps99
         go_wp2_with fail
         go_ret
         exact ⟨by first | rfl | simp [*],hb0⟩
theorem refBare1_calls (k : Int) (Ad : Option Addr) (d : List UInt8) (cd : Nat) (Ae : Option Addr) (en : List Ent) (ce : Nat) (tr : ByteArray) (Ap : Option Addr) (pa : List ByteArray) (cp : Nat) (ta na wh : ByteArray) (st : Int) (te : ByteArray) (w : World) : Calls Tryz.prog 99 #[.agg #[.int .i64 k,.slice Ad d.length cd,.slice Ae en.length ce,.string tr,.slice Ap pa.length cp,.string ta,.string na,.string wh,.int .i64 st,.string te],.bool false,.bool true,.bool true,.bool true,.bool true] w fun e w' => e = .returned (.bool (noEnts (⟨k,d,en,tr,pa,ta,na,wh,st,te⟩ : Go.Dol.Obj) && noCommit (⟨k,d,en,tr,pa,ta,na,wh,st,te⟩ : Go.Dol.Obj) && noTag (⟨k,d,en,tr,pa,ta,na,wh,st,te⟩ : Go.Dol.Obj) && noTold (⟨k,d,en,tr,pa,ta,na,wh,st,te⟩ : Go.Dol.Obj))) ∧ Below w.heap.size w w' :=
 refBare1_n k Ad d.length cd Ae en.length ce tr Ap pa.length cp ta na wh st te w
theorem refBare2_n (k : Int) (Ad : Option Addr) (nd cd : Nat) (Ae : Option Addr) (ne ce : Nat) (tr : ByteArray) (Ap : Option Addr) (np cp : Nat) (ta na wh : ByteArray) (st : Int) (te : ByteArray) (w : World) : Calls Tryz.prog 99 #[.agg #[.int .i64 k,.slice Ad nd cd,.slice Ae ne ce,.string tr,.slice Ap np cp,.string ta,.string na,.string wh,.int .i64 st,.string te],.bool true,.bool false,.bool true,.bool true,.bool true] w fun e w' => e = .returned (.bool (decide (nd = 0) && (decide (tr.size = 0) && decide (np = 0)) && (decide (ta.size = 0) && decide (na.size = 0)) && (decide (wh.size = 0) && decide (te.size = 0) && decide (st = 0)))) ∧ Below w.heap.size w w':=by
 rcases Nat.eq_zero_or_pos nd with h0 | h0
 case inr =>
  obtain ⟨m0,rfl⟩ : ∃ m,nd = m + 1:=⟨nd - 1,by omega⟩
  have hb0 : Below w.heap.size w (w.alloc (.cells #[.int .i64 k,.slice Ad (m0 + 1) cd,.slice Ae ne ce,.string tr,.slice Ap np cp,.string ta,.string na,.string wh,.int .i64 st,.string te] 72)):=(Below.refl _ _).alloc (Nat.le_refl _) _
  go_enter Tryz.func99,Tryz.ntmps99
  go_wp2_with fail
  go_ret
  exact ⟨by first | rfl | simp [*],hb0⟩
 case inl =>
  subst h0
  by_cases h1 : tr.size = 0
  case neg =>
   have t1 : ¬ tr.toList = []:=str_some h1
   have u1 : tr.toList.isEmpty = false:=by simpa using t1
   have hb0 : Below w.heap.size w (w.alloc (.cells #[.int .i64 k,.slice Ad 0 cd,.slice Ae ne ce,.string tr,.slice Ap np cp,.string ta,.string na,.string wh,.int .i64 st,.string te] 72)):=(Below.refl _ _).alloc (Nat.le_refl _) _
   go_enter Tryz.func99,Tryz.ntmps99
   go_wp2_with fail
   go_ret
   exact ⟨by first | rfl | simp [*],hb0⟩
  case pos =>
   obtain rfl:=size_zero h1
   clear h1
   rcases Nat.eq_zero_or_pos np with h2 | h2
   case inr =>
    obtain ⟨m2,rfl⟩ : ∃ m,np = m + 1:=⟨np - 1,by omega⟩
    have hb0 : Below w.heap.size w (w.alloc (.cells #[.int .i64 k,.slice Ad 0 cd,.slice Ae ne ce,.string ⟨#[]⟩,.slice Ap (m2 + 1) cp,.string ta,.string na,.string wh,.int .i64 st,.string te] 72)):=(Below.refl _ _).alloc (Nat.le_refl _) _
    go_enter Tryz.func99,Tryz.ntmps99
    go_wp2_with fail
    go_ret
    exact ⟨by first | rfl | simp [*],hb0⟩
   case inl =>
    subst h2
    by_cases h3 : ta.size = 0
    case neg =>
     have t3 : ¬ ta.toList = []:=str_some h3
     have u3 : ta.toList.isEmpty = false:=by simpa using t3
     have hb0 : Below w.heap.size w (w.alloc (.cells #[.int .i64 k,.slice Ad 0 cd,.slice Ae ne ce,.string ⟨#[]⟩,.slice Ap 0 cp,.string ta,.string na,.string wh,.int .i64 st,.string te] 72)):=(Below.refl _ _).alloc (Nat.le_refl _) _
     go_enter Tryz.func99,Tryz.ntmps99
     go_wp2_with fail
     go_ret
     exact ⟨by first | rfl | simp [*],hb0⟩
    case pos =>
     obtain rfl:=size_zero h3
     clear h3
     by_cases h4 : na.size = 0
     case neg =>
      have t4 : ¬ na.toList = []:=str_some h4
      have u4 : na.toList.isEmpty = false:=by simpa using t4
      have hb0 : Below w.heap.size w (w.alloc (.cells #[.int .i64 k,.slice Ad 0 cd,.slice Ae ne ce,.string ⟨#[]⟩,.slice Ap 0 cp,.string ⟨#[]⟩,.string na,.string wh,.int .i64 st,.string te] 72)):=(Below.refl _ _).alloc (Nat.le_refl _) _
      go_enter Tryz.func99,Tryz.ntmps99
      go_wp2_with fail
      go_ret
      exact ⟨by first | rfl | simp [*],hb0⟩
     case pos =>
      obtain rfl:=size_zero h4
      clear h4
      by_cases h5 : wh.size = 0
      case neg =>
       have t5 : ¬ wh.toList = []:=str_some h5
       have u5 : wh.toList.isEmpty = false:=by simpa using t5
       have hb0 : Below w.heap.size w (w.alloc (.cells #[.int .i64 k,.slice Ad 0 cd,.slice Ae ne ce,.string ⟨#[]⟩,.slice Ap 0 cp,.string ⟨#[]⟩,.string ⟨#[]⟩,.string wh,.int .i64 st,.string te] 72)):=(Below.refl _ _).alloc (Nat.le_refl _) _
       go_enter Tryz.func99,Tryz.ntmps99
       go_wp2_with fail
       go_ret
       exact ⟨by first | rfl | simp [*],hb0⟩
      case pos =>
       obtain rfl:=size_zero h5
       clear h5
       by_cases h6 : te.size = 0
       case neg =>
        have t6 : ¬ te.toList = []:=str_some h6
        have u6 : te.toList.isEmpty = false:=by simpa using t6
        have hb0 : Below w.heap.size w (w.alloc (.cells #[.int .i64 k,.slice Ad 0 cd,.slice Ae ne ce,.string ⟨#[]⟩,.slice Ap 0 cp,.string ⟨#[]⟩,.string ⟨#[]⟩,.string ⟨#[]⟩,.int .i64 st,.string te] 72)):=(Below.refl _ _).alloc (Nat.le_refl _) _
        go_enter Tryz.func99,Tryz.ntmps99
        go_wp2_with fail
        go_ret
        exact ⟨by first | rfl | simp [*],hb0⟩
       case pos =>
        obtain rfl:=size_zero h6
        clear h6
        by_cases h7 : st = 0
        case neg =>
         have t7 : (st == 0) = false:=beq_eq_false_iff_ne.2 h7
         have hb0 : Below w.heap.size w (w.alloc (.cells #[.int .i64 k,.slice Ad 0 cd,.slice Ae ne ce,.string ⟨#[]⟩,.slice Ap 0 cp,.string ⟨#[]⟩,.string ⟨#[]⟩,.string ⟨#[]⟩,.int .i64 st,.string ⟨#[]⟩] 72)):=(Below.refl _ _).alloc (Nat.le_refl _) _
         go_enter Tryz.func99,Tryz.ntmps99
         go_wp2_with fail
         go_ret
         exact ⟨by first | rfl | simp [*],hb0⟩
        case pos =>
         subst h7
         have hb0 : Below w.heap.size w (w.alloc (.cells #[.int .i64 k,.slice Ad 0 cd,.slice Ae ne ce,.string ⟨#[]⟩,.slice Ap 0 cp,.string ⟨#[]⟩,.string ⟨#[]⟩,.string ⟨#[]⟩,.int .i64 0,.string ⟨#[]⟩] 72)):=(Below.refl _ _).alloc (Nat.le_refl _) _
         go_enter Tryz.func99,Tryz.ntmps99
         go_wp2_with fail
         go_ret
         exact ⟨by first | rfl | simp [*],hb0⟩
theorem refBare2_calls (k : Int) (Ad : Option Addr) (d : List UInt8) (cd : Nat) (Ae : Option Addr) (en : List Ent) (ce : Nat) (tr : ByteArray) (Ap : Option Addr) (pa : List ByteArray) (cp : Nat) (ta na wh : ByteArray) (st : Int) (te : ByteArray) (w : World) : Calls Tryz.prog 99 #[.agg #[.int .i64 k,.slice Ad d.length cd,.slice Ae en.length ce,.string tr,.slice Ap pa.length cp,.string ta,.string na,.string wh,.int .i64 st,.string te],.bool true,.bool false,.bool true,.bool true,.bool true] w fun e w' => e = .returned (.bool (noData (⟨k,d,en,tr,pa,ta,na,wh,st,te⟩ : Go.Dol.Obj) && noCommit (⟨k,d,en,tr,pa,ta,na,wh,st,te⟩ : Go.Dol.Obj) && noTag (⟨k,d,en,tr,pa,ta,na,wh,st,te⟩ : Go.Dol.Obj) && noTold (⟨k,d,en,tr,pa,ta,na,wh,st,te⟩ : Go.Dol.Obj))) ∧ Below w.heap.size w w' :=
 refBare2_n k Ad d.length cd Ae en.length ce tr Ap pa.length cp ta na wh st te w
theorem refBare3_n (k : Int) (Ad : Option Addr) (nd cd : Nat) (Ae : Option Addr) (ne ce : Nat) (tr : ByteArray) (Ap : Option Addr) (np cp : Nat) (ta na wh : ByteArray) (st : Int) (te : ByteArray) (w : World) : Calls Tryz.prog 99 #[.agg #[.int .i64 k,.slice Ad nd cd,.slice Ae ne ce,.string tr,.slice Ap np cp,.string ta,.string na,.string wh,.int .i64 st,.string te],.bool true,.bool true,.bool false,.bool true,.bool false] w fun e w' => e = .returned (.bool (decide (nd = 0) && decide (ne = 0) && (decide (ta.size = 0) && decide (na.size = 0)))) ∧ Below w.heap.size w w':=by
 rcases Nat.eq_zero_or_pos nd with h0 | h0
 case inr =>
  obtain ⟨m0,rfl⟩ : ∃ m,nd = m + 1:=⟨nd - 1,by omega⟩
  have hb0 : Below w.heap.size w (w.alloc (.cells #[.int .i64 k,.slice Ad (m0 + 1) cd,.slice Ae ne ce,.string tr,.slice Ap np cp,.string ta,.string na,.string wh,.int .i64 st,.string te] 72)):=(Below.refl _ _).alloc (Nat.le_refl _) _
  go_enter Tryz.func99,Tryz.ntmps99
  go_wp2_with fail
  go_ret
  exact ⟨by first | rfl | simp [*],hb0⟩
 case inl =>
  subst h0
  rcases Nat.eq_zero_or_pos ne with h1 | h1
  case inr =>
   obtain ⟨m1,rfl⟩ : ∃ m,ne = m + 1:=⟨ne - 1,by omega⟩
   have hb0 : Below w.heap.size w (w.alloc (.cells #[.int .i64 k,.slice Ad 0 cd,.slice Ae (m1 + 1) ce,.string tr,.slice Ap np cp,.string ta,.string na,.string wh,.int .i64 st,.string te] 72)):=(Below.refl _ _).alloc (Nat.le_refl _) _
   go_enter Tryz.func99,Tryz.ntmps99
   go_wp2_with fail
   go_ret
   exact ⟨by first | rfl | simp [*],hb0⟩
  case inl =>
   subst h1
   by_cases h2 : ta.size = 0
   case neg =>
    have t2 : ¬ ta.toList = []:=str_some h2
    have u2 : ta.toList.isEmpty = false:=by simpa using t2
    have hb0 : Below w.heap.size w (w.alloc (.cells #[.int .i64 k,.slice Ad 0 cd,.slice Ae 0 ce,.string tr,.slice Ap np cp,.string ta,.string na,.string wh,.int .i64 st,.string te] 72)):=(Below.refl _ _).alloc (Nat.le_refl _) _
    go_enter Tryz.func99,Tryz.ntmps99
    go_wp2_with fail
    go_ret
    exact ⟨by first | rfl | simp [*],hb0⟩
   case pos =>
    obtain rfl:=size_zero h2
    clear h2
    by_cases h3 : na.size = 0
    case neg =>
     have t3 : ¬ na.toList = []:=str_some h3
     have u3 : na.toList.isEmpty = false:=by simpa using t3
     have hb0 : Below w.heap.size w (w.alloc (.cells #[.int .i64 k,.slice Ad 0 cd,.slice Ae 0 ce,.string tr,.slice Ap np cp,.string ⟨#[]⟩,.string na,.string wh,.int .i64 st,.string te] 72)):=(Below.refl _ _).alloc (Nat.le_refl _) _
     go_enter Tryz.func99,Tryz.ntmps99
     go_wp2_with fail
     go_ret
     exact ⟨by first | rfl | simp [*],hb0⟩
    case pos =>
     obtain rfl:=size_zero h3
     clear h3
     have hb0 : Below w.heap.size w (w.alloc (.cells #[.int .i64 k,.slice Ad 0 cd,.slice Ae 0 ce,.string tr,.slice Ap np cp,.string ⟨#[]⟩,.string ⟨#[]⟩,.string wh,.int .i64 st,.string te] 72)):=(Below.refl _ _).alloc (Nat.le_refl _) _
     go_enter Tryz.func99,Tryz.ntmps99
     go_wp2_with fail
     go_ret
     exact ⟨by first | rfl | simp [*],hb0⟩
theorem refBare3_calls (k : Int) (Ad : Option Addr) (d : List UInt8) (cd : Nat) (Ae : Option Addr) (en : List Ent) (ce : Nat) (tr : ByteArray) (Ap : Option Addr) (pa : List ByteArray) (cp : Nat) (ta na wh : ByteArray) (st : Int) (te : ByteArray) (w : World) : Calls Tryz.prog 99 #[.agg #[.int .i64 k,.slice Ad d.length cd,.slice Ae en.length ce,.string tr,.slice Ap pa.length cp,.string ta,.string na,.string wh,.int .i64 st,.string te],.bool true,.bool true,.bool false,.bool true,.bool false] w fun e w' => e = .returned (.bool (noData (⟨k,d,en,tr,pa,ta,na,wh,st,te⟩ : Go.Dol.Obj) && noEnts (⟨k,d,en,tr,pa,ta,na,wh,st,te⟩ : Go.Dol.Obj) && noTag (⟨k,d,en,tr,pa,ta,na,wh,st,te⟩ : Go.Dol.Obj))) ∧ Below w.heap.size w w' :=
 refBare3_n k Ad d.length cd Ae en.length ce tr Ap pa.length cp ta na wh st te w
theorem refBare4_n (k : Int) (Ad : Option Addr) (nd cd : Nat) (Ae : Option Addr) (ne ce : Nat) (tr : ByteArray) (Ap : Option Addr) (np cp : Nat) (ta na wh : ByteArray) (st : Int) (te : ByteArray) (w : World) : Calls Tryz.prog 99 #[.agg #[.int .i64 k,.slice Ad nd cd,.slice Ae ne ce,.string tr,.slice Ap np cp,.string ta,.string na,.string wh,.int .i64 st,.string te],.bool true,.bool true,.bool true,.bool false,.bool false] w fun e w' => e = .returned (.bool (decide (nd = 0) && decide (ne = 0) && (decide (tr.size = 0) && decide (np = 0)))) ∧ Below w.heap.size w w':=by
 rcases Nat.eq_zero_or_pos nd with h0 | h0
 case inr =>
  obtain ⟨m0,rfl⟩ : ∃ m,nd = m + 1:=⟨nd - 1,by omega⟩
  have hb0 : Below w.heap.size w (w.alloc (.cells #[.int .i64 k,.slice Ad (m0 + 1) cd,.slice Ae ne ce,.string tr,.slice Ap np cp,.string ta,.string na,.string wh,.int .i64 st,.string te] 72)):=(Below.refl _ _).alloc (Nat.le_refl _) _
  go_enter Tryz.func99,Tryz.ntmps99
  go_wp2_with fail
  go_ret
  exact ⟨by first | rfl | simp [*],hb0⟩
 case inl =>
  subst h0
  rcases Nat.eq_zero_or_pos ne with h1 | h1
  case inr =>
   obtain ⟨m1,rfl⟩ : ∃ m,ne = m + 1:=⟨ne - 1,by omega⟩
   have hb0 : Below w.heap.size w (w.alloc (.cells #[.int .i64 k,.slice Ad 0 cd,.slice Ae (m1 + 1) ce,.string tr,.slice Ap np cp,.string ta,.string na,.string wh,.int .i64 st,.string te] 72)):=(Below.refl _ _).alloc (Nat.le_refl _) _
   go_enter Tryz.func99,Tryz.ntmps99
   go_wp2_with fail
   go_ret
   exact ⟨by first | rfl | simp [*],hb0⟩
  case inl =>
   subst h1
   by_cases h2 : tr.size = 0
   case neg =>
    have t2 : ¬ tr.toList = []:=str_some h2
    have u2 : tr.toList.isEmpty = false:=by simpa using t2
    have hb0 : Below w.heap.size w (w.alloc (.cells #[.int .i64 k,.slice Ad 0 cd,.slice Ae 0 ce,.string tr,.slice Ap np cp,.string ta,.string na,.string wh,.int .i64 st,.string te] 72)):=(Below.refl _ _).alloc (Nat.le_refl _) _
    go_enter Tryz.func99,Tryz.ntmps99
    go_wp2_with fail
    go_ret
    exact ⟨by first | rfl | simp [*],hb0⟩
   case pos =>
    obtain rfl:=size_zero h2
    clear h2
    rcases Nat.eq_zero_or_pos np with h3 | h3
    case inr =>
     obtain ⟨m3,rfl⟩ : ∃ m,np = m + 1:=⟨np - 1,by omega⟩
     have hb0 : Below w.heap.size w (w.alloc (.cells #[.int .i64 k,.slice Ad 0 cd,.slice Ae 0 ce,.string ⟨#[]⟩,.slice Ap (m3 + 1) cp,.string ta,.string na,.string wh,.int .i64 st,.string te] 72)):=(Below.refl _ _).alloc (Nat.le_refl _) _
     go_enter Tryz.func99,Tryz.ntmps99
     go_wp2_with fail
     go_ret
     exact ⟨by first | rfl | simp [*],hb0⟩
    case inl =>
     subst h3
     have hb0 : Below w.heap.size w (w.alloc (.cells #[.int .i64 k,.slice Ad 0 cd,.slice Ae 0 ce,.string ⟨#[]⟩,.slice Ap 0 cp,.string ta,.string na,.string wh,.int .i64 st,.string te] 72)):=(Below.refl _ _).alloc (Nat.le_refl _) _
     go_enter Tryz.func99,Tryz.ntmps99
     go_wp2_with fail
     go_ret
     exact ⟨by first | rfl | simp [*],hb0⟩
theorem refBare4_calls (k : Int) (Ad : Option Addr) (d : List UInt8) (cd : Nat) (Ae : Option Addr) (en : List Ent) (ce : Nat) (tr : ByteArray) (Ap : Option Addr) (pa : List ByteArray) (cp : Nat) (ta na wh : ByteArray) (st : Int) (te : ByteArray) (w : World) : Calls Tryz.prog 99 #[.agg #[.int .i64 k,.slice Ad d.length cd,.slice Ae en.length ce,.string tr,.slice Ap pa.length cp,.string ta,.string na,.string wh,.int .i64 st,.string te],.bool true,.bool true,.bool true,.bool false,.bool false] w fun e w' => e = .returned (.bool (noData (⟨k,d,en,tr,pa,ta,na,wh,st,te⟩ : Go.Dol.Obj) && noEnts (⟨k,d,en,tr,pa,ta,na,wh,st,te⟩ : Go.Dol.Obj) && noCommit (⟨k,d,en,tr,pa,ta,na,wh,st,te⟩ : Go.Dol.Obj))) ∧ Below w.heap.size w w' :=
 refBare4_n k Ad d.length cd Ae en.length ce tr Ap pa.length cp ta na wh st te w
theorem refPart_is (s : ByteArray) (b : Bool) (h : Hid (partB s = b)) (hs : s.size ≤ maxLen) (w : World) : Calls Tryz.prog 131 #[.string s] w fun e w' => e = .returned (.bool b) ∧ w' = w :=
 (refPart_calls s w hs).mono fun e w' ⟨h1,h2⟩ => ⟨by rw [h1,h.out],h2.symm⟩
def EntsRel (l : List Ent) (w : World) (i : Value) (wr : World) : Prop:=∃ k q : Nat,i = .int .i64 k ∧ k ≤ l.length ∧ Hid (entsUp geS l k) ∧ wr = w.drewN q
theorem refEntries_calls (A : Option Addr) (l : List Ent) (c B : Nat) (w : World) (hr : Rd w B 3 A l.length (ec l)) (hl : l.length ≤ 140737488355328) (hsz : Hid (∀ e ∈ l,e.name.size ≤ maxLen)) :
  Calls Tryz.prog 100 #[.slice A l.length c] w fun e w' => e = .returned (.bool (entsB geS l)) ∧ ∃ n,w' = w.drewN n:=by
 obtain ⟨r,hre⟩ : ∃ r,r = entsB geS l:=⟨_,rfl⟩
 rw [← hre]
 have HR:=Lib.hid hre
 clear hre
 go_enter Tryz.func100,Tryz.ntmps100
 go_wp2_with fail
 go_loopw [3] (fun i wr => EntsRel l w i wr) (fun i _ => l.length - (intOf i).toNat)
 case atStart => exact ⟨0,0,rfl,Nat.zero_le _,fun i hi => by omega,rfl⟩
 case round =>
  obtain ⟨k,q,rfl,hk,hup,hwr⟩:=hrel
  have hrw : Rd wr B 3 A l.length (ec l):=by rw [hwr]; exact hr.drewN q
  have HW:=Lib.hid hwr
  clear hwr
  have f1 : IntKind.i64.wrap ((k : Int) + 1) = (k : Int) + 1:=IntWalk.i64_in _ (by omega)
  by_cases h1 : k < l.length
  ·have d1 : decide ((k : Int) < (l.length : Int)) = true:=by simp; omega
   have d1' : (k : Int) < (l.length : Int):=by omega
   have hk0 : (0 : Int) ≤ (k : Int):=by omega
   have hlen1 : l.length ≤ 9223372036854775807:=by omega
   obtain ⟨bb,off,rfl,hbb,hcell⟩:=hrw.at_ (by omega)
   obtain ⟨p0,p1,p2⟩:=ec_get h1
   have q0:=hcell _ _ p0
   have q2 : wr.cell? ⟨bb,off + k * 3 + 2,none⟩ = _:=hcell _ _ p2
   have g1 : l[k]? = some l[k]:=List.getElem?_eq_getElem h1
   have hns:=Lib.hid (hsz.out l[k] (List.getElem_mem h1))
   obtain ⟨x,hx⟩ : ∃ x,x = l[k]:=⟨_,rfl⟩
   rw [← hx] at q0 q2 g1 hns
   have hat:=Lib.hid (ent_at g1)
   obtain ⟨x0,x1,x2⟩:=x
   simp only at q0 q2 hat
   clear hx p0 p1 p2 g1
   cases hp : partB x0 with
   | false =>
    have HF : Hid (r = false):=by unfold Hid; rw [HR.out,entsB_not h1 (by rw [hat.out,hp]; rfl)]
    have HP:=Lib.hid hp
    clear hp hcell
    go_wp2_with fail
    go_quiet ((go_at_call 131; exact Calls.quiet_of_same (refPart_is x0 _ HP hns.out _)))
    go_wp2_with fail
    go_ret
    rw [HF.out]
    exact ⟨rfl,q + nq,by rw [HW.out,World.drewN_drewN]⟩
   | true =>
    have HP:=Lib.hid hp
    by_cases hi : x2.size = 32
    ·have di : ((x2.size : Int) != 32) = false:=by rw [hi]; rfl
     have HI:=Lib.hid hi
     rcases Nat.eq_zero_or_pos k with hz | hz
     ·have HU : Hid (entsUp geS l (k + 1)):=entsUp_succ hup.out (by rw [hat.out,hp,hz]; simp [hi,ordAt])
      have dz : decide ((0 : Int) < (k : Int)) = false:=by simp; omega
      have dz' : ¬ (0 : Int) < (k : Int):=by omega
      have dzn : decide (0 < k) = false:=by simp; omega
      have dzm : decide ((k : Int) > 0) = false:=by simp; omega
      clear hp hi hz hcell
      go_wp2_with fail
      go_quiet ((go_at_call 131; exact Calls.quiet_of_same (refPart_is x0 _ HP hns.out _)))
      go_wp2_with fail
      exact ⟨⟨k + 1,q + nq,by go_num,by omega,HU,by rw [HW.out,World.drewN_drewN]⟩,by simp [intOf]; omega⟩
     ·obtain ⟨j,rfl⟩ : ∃ j,k = j + 1:=⟨k - 1,by omega⟩
      have hj : j < l.length:=by omega
      obtain ⟨t0,_,_⟩:=ec_get hj
      have q3:=hcell _ _ t0
      have g1 : l[j]? = some l[j]:=List.getElem?_eq_getElem hj
      obtain ⟨y,hy⟩ : ∃ y,y = l[j]:=⟨_,rfl⟩
      rw [← hy] at q3 g1
      have hord:=Lib.hid (ord_succ (nm:=x0) g1)
      obtain ⟨y0,y1,y2⟩:=y
      simp only at q3 hord
      have dz : decide ((0 : Int) < ((j + 1 : Nat) : Int)) = true:=decide_eq_true (by omega)
      have dz' : (0 : Int) < ((j + 1 : Nat) : Int):=by omega
      have fj : IntKind.i64.wrap (((j + 1 : Nat) : Int) - 1) = (j : Int):=(IntWalk.i64_in _ (by omega)).trans (by omega)
      have fj2 : IntKind.i64.wrap ((j : Int) + 1 - 1) = (j : Int):=(IntWalk.i64_in _ (by omega)).trans (by omega)
      have fj3 : (j : Int) < (l.length : Int):=by omega
      have fj4 : (0 : Int) ≤ (j : Int):=by omega
      cases hge : Op.bytesLess y0.toList x0.toList with
      | false =>
       have HF : Hid (r = false):=by
        unfold Hid
        rw [HR.out,entsB_not h1 (by rw [hat.out,hord.out]; unfold geS; rw [hge]; simp)]
       clear hp hi hy g1 t0 hcell
       go_wp2_with fail
       go_quiet ((go_at_call 131; exact Calls.quiet_of_same (refPart_is x0 _ HP hns.out _)))
       go_wp2_with fail
       go_ret
       rw [HF.out]
       exact ⟨rfl,q + nq,by rw [HW.out,World.drewN_drewN]⟩
      | true =>
       have HU : Hid (entsUp geS l (j + 1 + 1)):=entsUp_succ hup.out (by rw [hat.out,hord.out,hp]; unfold geS; rw [hge]; simp [hi])
       clear hp hi hy g1 t0 hcell
       go_wp2_with fail
       go_quiet ((go_at_call 131; exact Calls.quiet_of_same (refPart_is x0 _ HP hns.out _)))
       go_wp2_with fail
       exact ⟨⟨j + 1 + 1,q + nq,by go_num,by omega,HU,by rw [HW.out,World.drewN_drewN]⟩,by simp [intOf]; omega⟩
    ·have di : ((x2.size : Int) != 32) = true:=bne_iff_ne.2 (by omega)
     have HF : Hid (r = false):=by unfold Hid; rw [HR.out,entsB_not h1 (by rw [hat.out,decide_eq_false hi]; simp)]
     clear hp hi hcell
     go_wp2_with fail
     go_quiet ((go_at_call 131; exact Calls.quiet_of_same (refPart_is x0 _ HP hns.out _)))
     go_wp2_with fail
     go_ret
     rw [HF.out]
     exact ⟨rfl,q + nq,by rw [HW.out,World.drewN_drewN]⟩
  ·have d1 : decide ((k : Int) < (l.length : Int)) = false:=by simp; omega
   have d1' : ¬ (k : Int) < (l.length : Int):=by omega
   have hkl : k = l.length:=by omega
   have HE : Hid (r = decide (l.length ≤ 4096)):=by unfold Hid; rw [HR.out,entsB_of (by rw [← hkl]; exact hup.out)]
   by_cases h2 : l.length ≤ 4096
   ·have d2 : decide ((l.length : Int) ≤ 4096) = true:=by simp; omega
    have HT : Hid (r = true):=by unfold Hid; rw [HE.out,decide_eq_true h2]
    clear hkl h2
    go_wp2_with fail
    go_ret
    rw [HT.out]
    exact ⟨rfl,q,HW.out⟩
   ·have d2 : decide ((l.length : Int) ≤ 4096) = false:=by simp; omega
    have HT : Hid (r = false):=by unfold Hid; rw [HE.out,decide_eq_false h2]
    clear hkl h2
    go_wp2_with fail
    go_ret
    rw [HT.out]
    exact ⟨rfl,q,HW.out⟩
def NoneUp (l : List ByteArray) (p : ByteArray) (j : Nat) : Prop:=∀ i,i < j → ∀ q,l[i]? = some q → ¬ q = p
theorem has_not {l : List ByteArray} {p : ByteArray} {k : Nat} (h : NoneUp l p k) : hasS (l.take k) p = false:=by
 unfold hasS
 rw [List.any_eq_false]
 intro q hq
 obtain ⟨i,hi,e⟩:=List.getElem_of_mem hq
 have hik : i < k:=by rw [List.length_take] at hi; omega
 rw [List.getElem_take] at e
 have h1:=h i hik q (by rw [← e]; exact List.getElem?_eq_getElem _)
 intro h2
 exact h1 (str_inj (by simpa using h2))
theorem has_it {l : List ByteArray} {p : ByteArray} {k j : Nat} (hj : j < k) (h : l[j]? = some p) : hasS (l.take k) p = true:=by
 unfold hasS
 rw [List.any_eq_true]
 refine ⟨p,?_,by simp⟩
 rw [List.mem_iff_getElem?]
 exact ⟨j,by rw [List.getElem?_take,if_pos hj]; exact h⟩
def ParsRel (l : List ByteArray) (w : World) (i : Value) (wr : World) : Prop:=∃ k q : Nat,i = .int .i64 k ∧ k ≤ l.length ∧ Hid (parsUp l k) ∧ wr = w.drewN q
def ParsIn (l : List ByteArray) (k : Nat) (p : ByteArray) (w : World) (i : Value) (wr : World) : Prop:=∃ j q : Nat,i = .int .i64 j ∧ j ≤ k ∧ Hid (NoneUp l p j) ∧ wr = w.drewN q
theorem refParents_calls (A : Option Addr) (l : List ByteArray) (c B : Nat) (w : World) (hr : Rd w B 1 A l.length (pc l)) (hl : l.length ≤ 140737488355328) :
  Calls Tryz.prog 101 #[.slice A l.length c] w fun e w' => e = .returned (.bool (parsB l)) ∧ ∃ n,w' = w.drewN n:=by
 obtain ⟨r,hre⟩ : ∃ r,r = parsB l:=⟨_,rfl⟩
 rw [← hre]
 have HR:=Lib.hid hre
 clear hre
 go_enter Tryz.func101,Tryz.ntmps101
 go_wp2_with fail
 go_loopw [3] (fun i wr => ParsRel l w i wr) (fun i _ => l.length - (intOf i).toNat)
 case atStart => exact ⟨0,0,rfl,Nat.zero_le _,fun i hi => by omega,rfl⟩
 case round =>
  obtain ⟨k,q,rfl,hk,hup,hwr⟩:=hrel
  have hrw : Rd wr B 1 A l.length (pc l):=by rw [hwr]; exact hr.drewN q
  have HW:=Lib.hid hwr
  clear hwr
  have f1 : IntKind.i64.wrap ((k : Int) + 1) = (k : Int) + 1:=IntWalk.i64_in _ (by omega)
  by_cases h1 : k < l.length
  ·have d1 : decide ((k : Int) < (l.length : Int)) = true:=by simp; omega
   have d1' : (k : Int) < (l.length : Int):=by omega
   have hk0 : (0 : Int) ≤ (k : Int):=by omega
   have hlen1 : l.length ≤ 9223372036854775807:=by omega
   obtain ⟨bb,off,rfl,hbb,hcell⟩:=hrw.at_ (by omega)
   have q0:=hcell _ _ (pc_get h1)
   have g1 : l[k]? = some l[k]:=List.getElem?_eq_getElem h1
   obtain ⟨p,hp⟩ : ∃ p,p = l[k]:=⟨_,rfl⟩
   rw [← hp] at q0 g1
   have hat : Hid (parAt l k = (decide (p.size = 32) && !hasS (l.take k) p)):=by unfold Hid parAt; rw [g1]
   clear hp g1
   by_cases hi : p.size = 32
   ·have di : ((p.size : Int) != 32) = false:=by rw [hi]; rfl
    have HI:=Lib.hid hi
    clear hi
    go_wp2_with fail
    obtain ⟨wo,hwo⟩ : ∃ wo,wo = wr:=⟨_,rfl⟩
    rw [← hwo] at HW hrw hcell q0 ⊢
    clear hwo
    go_loopw [4] (fun i wr => ParsIn l k p wo i wr) (fun i _ => k - (intOf i).toNat)
    case atStart => exact ⟨0,0,rfl,Nat.zero_le _,fun i hi => by omega,rfl⟩
    case round =>
     obtain ⟨j,q2,rfl,hj,hno,hwr2⟩:=hrel
     have hcell2 : ∀ (j : Nat) (u : Value),(pc l)[j]? = some u → wr.cell? ⟨bb,off + j,none⟩ = some u:=by rw [hwr2]; exact hcell
     have q1 : wr.cell? ⟨bb,off + k,none⟩ = some (.string p):=by rw [hwr2]; exact q0
     have HW2:=Lib.hid hwr2
     clear hwr2
     have f2 : IntKind.i64.wrap ((j : Int) + 1) = (j : Int) + 1:=IntWalk.i64_in _ (by omega)
     by_cases h2 : j < k
     ·have e1 : decide ((j : Int) < (k : Int)) = true:=decide_eq_true (by omega)
      have e1' : (j : Int) < (k : Int):=by omega
      have hj0 : (0 : Int) ≤ (j : Int):=by omega
      have hjl : j < l.length:=by omega
      have e2' : (j : Int) < (l.length : Int):=by omega
      have q3:=hcell2 _ _ (pc_get hjl)
      have g2 : l[j]? = some l[j]:=List.getElem?_eq_getElem hjl
      obtain ⟨y,hy⟩ : ∃ y,y = l[j]:=⟨_,rfl⟩
      rw [← hy] at q3 g2
      have G2:=Lib.hid g2
      clear hy g2 hcell2
      by_cases heq : y = p
      ·have b1 : (y.toList == p.toList) = true:=str_eq_b heq
       have HF : Hid (r = false):=by unfold Hid; rw [HR.out,parsB_not h1 (by rw [hat.out,has_it h2 (by rw [G2.out,heq])]; simp)]
       clear heq
       go_wp2_with fail
       go_quiet (fail)
       go_wp2_with fail
       go_ret
       rw [HF.out]
       exact ⟨rfl,_,by rw [HW2.out,HW.out,World.drewN_drewN,World.drewN_drewN]⟩
      ·have b1 : (y.toList == p.toList) = false:=str_ne_b heq
       have HN : Hid (NoneUp l p (j + 1)):=fun i hi q hq => by
        by_cases e : i = j
        ·rw [e,G2.out] at hq
         injection hq with hq
         rw [← hq]
         exact heq
        ·exact hno.out i (by omega) q hq
       have HQ:=Lib.hid heq
       clear heq
       go_wp2_with fail
       go_quiet (fail)
       go_wp2_with fail
       exact ⟨⟨j + 1,_,by go_num,h2,HN,by rw [HW2.out,World.drewN_drewN]⟩,by simp [intOf]; omega⟩
     ·have e1 : decide ((j : Int) < (k : Int)) = false:=decide_eq_false (by omega)
      have e1' : ¬ (j : Int) < (k : Int):=by omega
      have hjk : j = k:=by omega
      have HU : Hid (parsUp l (k + 1)):=fun i hi' => by
       by_cases e : i = k
       ·rw [e,hat.out,has_not (by rw [← hjk]; exact hno.out),decide_eq_true HI.out]
        rfl
       ·exact hup.out i (by omega)
      clear hjk hcell2
      go_wp2_with fail
      exact ⟨⟨k + 1,_,by go_num,h1,HU,by rw [HW2.out,HW.out,World.drewN_drewN]⟩,by simp [intOf]; omega⟩
   ·have di : ((p.size : Int) != 32) = true:=bne_iff_ne.2 (by omega)
    have HF : Hid (r = false):=by unfold Hid; rw [HR.out,parsB_not h1 (by rw [hat.out,decide_eq_false hi]; rfl)]
    clear hi
    go_wp2_with fail
    go_ret
    rw [HF.out]
    exact ⟨rfl,q,HW.out⟩
  ·have d1 : decide ((k : Int) < (l.length : Int)) = false:=by simp; omega
   have d1' : ¬ (k : Int) < (l.length : Int):=by omega
   have hkl : k = l.length:=by omega
   have HE : Hid (r = decide (l.length ≤ 4)):=by unfold Hid; rw [HR.out,parsB_of (by rw [← hkl]; exact hup.out)]
   by_cases h2 : l.length ≤ 4
   ·have d2 : decide ((l.length : Int) ≤ 4) = true:=by simp; omega
    have HT : Hid (r = true):=by unfold Hid; rw [HE.out,decide_eq_true h2]
    clear hkl h2
    go_wp2_with fail
    go_ret
    rw [HT.out]
    exact ⟨rfl,q,HW.out⟩
   ·have d2 : decide ((l.length : Int) ≤ 4) = false:=by simp; omega
    have HT : Hid (r = false):=by unfold Hid; rw [HE.out,decide_eq_false h2]
    clear hkl h2
    go_wp2_with fail
    go_ret
    rw [HT.out]
    exact ⟨rfl,q,HW.out⟩
theorem refCheck1_calls (Ad : Option Addr) (d : List UInt8) (cd : Nat) (Ae : Option Addr) (en : List Ent) (ce : Nat) (tr : ByteArray) (Ap : Option Addr) (pa : List ByteArray) (cp : Nat) (ta na wh : ByteArray) (st : Int) (te : ByteArray) (w : World) (he : Rd w w.heap.size 3 Ae en.length (ec en)) (hp : Rd w w.heap.size 1 Ap pa.length (pc pa)) (hel : en.length ≤ 140737488355328) (hpl : pa.length ≤ 140737488355328) (hns : Hid (∀ e ∈ en,e.name.size ≤ maxLen)) :
  Calls Tryz.prog 63 #[.agg #[.int .i64 1,.slice Ad d.length cd,.slice Ae en.length ce,.string tr,.slice Ap pa.length cp,.string ta,.string na,.string wh,.int .i64 st,.string te]] w fun e w' => e = .returned (.int .i64 (errC (checkB geS (⟨1,d,en,tr,pa,ta,na,wh,st,te⟩ : Go.Dol.Obj)))) ∧ Below w.heap.size w w':=by
 have hb0 : Below w.heap.size w (w.alloc (.cells #[.int .i64 1,.slice Ad d.length cd,.slice Ae en.length ce,.string tr,.slice Ap pa.length cp,.string ta,.string na,.string wh,.int .i64 st,.string te] 72)):=(Below.refl _ _).alloc (Nat.le_refl _) _
 have hB0:=Blk.new w 72 (ocells 1 (.slice Ad d.length cd) (.slice Ae en.length ce) tr (.slice Ap pa.length cp) ta na wh st te)
 have he0:=he.alive hb0
 have hp0:=hp.alive hb0
 obtain ⟨r,hr⟩ : ∃ r,r = checkB geS (⟨1,d,en,tr,pa,ta,na,wh,st,te⟩ : Go.Dol.Obj):=⟨_,rfl⟩
 rw [← hr]
 have HR : Hid (r = (decide (d.length ≤ 1048576) && (noEnts (⟨1,d,en,tr,pa,ta,na,wh,st,te⟩ : Go.Dol.Obj) && noCommit (⟨1,d,en,tr,pa,ta,na,wh,st,te⟩ : Go.Dol.Obj) && noTag (⟨1,d,en,tr,pa,ta,na,wh,st,te⟩ : Go.Dol.Obj) && noTold (⟨1,d,en,tr,pa,ta,na,wh,st,te⟩ : Go.Dol.Obj)))):=hr
 clear hr
 by_cases q0 : d.length ≤ 1048576
 case neg =>
  have D0 : decide ((d.length : Int) ≤ 1048576) = false:=decide_eq_false (by omega)
  have HF : Hid (r = false):=by unfold Hid; rw [HR.out,decide_eq_false q0]; simp
  clear q0
  go_enter Tryz.func63,Tryz.ntmps63
  go_wp2_with fail
  go_ret
  exact ⟨by rw [HF.out]; rfl,hb0⟩
 case pos =>
  have D0 : decide ((d.length : Int) ≤ 1048576) = true:=decide_eq_true (by omega)
  cases h1 : (noEnts (⟨1,d,en,tr,pa,ta,na,wh,st,te⟩ : Go.Dol.Obj) && noCommit (⟨1,d,en,tr,pa,ta,na,wh,st,te⟩ : Go.Dol.Obj) && noTag (⟨1,d,en,tr,pa,ta,na,wh,st,te⟩ : Go.Dol.Obj) && noTold (⟨1,d,en,tr,pa,ta,na,wh,st,te⟩ : Go.Dol.Obj))
  case false =>
   have H1:=Lib.hid h1
   have HF : Hid (r = false):=by unfold Hid; rw [HR.out,decide_eq_true q0,h1]; try simp
   clear h1 q0
   go_enter Tryz.func63,Tryz.ntmps63
   go_wp2_with fail
   refine (refBare1_calls 1 Ad d cd Ae en ce tr Ap pa cp ta na wh st te _).mono ?_
   rintro e w1 ⟨rfl,g1⟩
   rw [H1.out]
   have hb1:=hb0.next g1
   have hB1:=hB0.below g1 hB0.lt
   obtain ⟨a0,a1,a2,a3,a4,a5,a6,a7,a8,a9⟩:=obj_cells hB1
   go_wp2_with fail
   go_ret
   exact ⟨by rw [HF.out]; rfl,hb1⟩
  case true =>
   have H1:=Lib.hid h1
   clear h1
   have HF : Hid (r = true):=by unfold Hid; rw [HR.out,decide_eq_true q0,H1.out]; try rfl
   clear q0
   go_enter Tryz.func63,Tryz.ntmps63
   go_wp2_with fail
   refine (refBare1_calls 1 Ad d cd Ae en ce tr Ap pa cp ta na wh st te _).mono ?_
   rintro e w1 ⟨rfl,g1⟩
   rw [H1.out]
   have hb1:=hb0.next g1
   have hB1:=hB0.below g1 hB0.lt
   obtain ⟨a0,a1,a2,a3,a4,a5,a6,a7,a8,a9⟩:=obj_cells hB1
   go_wp2_with fail
   go_ret
   exact ⟨by rw [HF.out]; rfl,hb1⟩
theorem refCheck2_calls (Ad : Option Addr) (d : List UInt8) (cd : Nat) (Ae : Option Addr) (en : List Ent) (ce : Nat) (tr : ByteArray) (Ap : Option Addr) (pa : List ByteArray) (cp : Nat) (ta na wh : ByteArray) (st : Int) (te : ByteArray) (w : World) (he : Rd w w.heap.size 3 Ae en.length (ec en)) (hp : Rd w w.heap.size 1 Ap pa.length (pc pa)) (hel : en.length ≤ 140737488355328) (hpl : pa.length ≤ 140737488355328) (hns : Hid (∀ e ∈ en,e.name.size ≤ maxLen)) :
  Calls Tryz.prog 63 #[.agg #[.int .i64 2,.slice Ad d.length cd,.slice Ae en.length ce,.string tr,.slice Ap pa.length cp,.string ta,.string na,.string wh,.int .i64 st,.string te]] w fun e w' => e = .returned (.int .i64 (errC (checkB geS (⟨2,d,en,tr,pa,ta,na,wh,st,te⟩ : Go.Dol.Obj)))) ∧ Below w.heap.size w w':=by
 have hb0 : Below w.heap.size w (w.alloc (.cells #[.int .i64 2,.slice Ad d.length cd,.slice Ae en.length ce,.string tr,.slice Ap pa.length cp,.string ta,.string na,.string wh,.int .i64 st,.string te] 72)):=(Below.refl _ _).alloc (Nat.le_refl _) _
 have hB0:=Blk.new w 72 (ocells 2 (.slice Ad d.length cd) (.slice Ae en.length ce) tr (.slice Ap pa.length cp) ta na wh st te)
 have he0:=he.alive hb0
 have hp0:=hp.alive hb0
 obtain ⟨r,hr⟩ : ∃ r,r = checkB geS (⟨2,d,en,tr,pa,ta,na,wh,st,te⟩ : Go.Dol.Obj):=⟨_,rfl⟩
 rw [← hr]
 have HR : Hid (r = (entsB geS en && (noData (⟨2,d,en,tr,pa,ta,na,wh,st,te⟩ : Go.Dol.Obj) && noCommit (⟨2,d,en,tr,pa,ta,na,wh,st,te⟩ : Go.Dol.Obj) && noTag (⟨2,d,en,tr,pa,ta,na,wh,st,te⟩ : Go.Dol.Obj) && noTold (⟨2,d,en,tr,pa,ta,na,wh,st,te⟩ : Go.Dol.Obj)))):=hr
 clear hr
 cases h0 : entsB geS en
 case false =>
  have H0:=Lib.hid h0
  have HF : Hid (r = false):=by unfold Hid; rw [HR.out,h0]; try simp
  clear h0
  go_enter Tryz.func63,Tryz.ntmps63
  go_wp2_with fail
  refine (refEntries_calls Ae en ce _ _ he0 hel hns).mono ?_
  rintro e w1 ⟨rfl,n1,rfl⟩
  rw [H0.out]
  have hb1:=hb0.drewN' n1
  have hB1:=hB0.drewN n1
  obtain ⟨a0,a1,a2,a3,a4,a5,a6,a7,a8,a9⟩:=obj_cells hB1
  go_wp2_with fail
  go_ret
  exact ⟨by rw [HF.out]; rfl,hb1⟩
 case true =>
  have H0:=Lib.hid h0
  clear h0
  cases h1 : (noData (⟨2,d,en,tr,pa,ta,na,wh,st,te⟩ : Go.Dol.Obj) && noCommit (⟨2,d,en,tr,pa,ta,na,wh,st,te⟩ : Go.Dol.Obj) && noTag (⟨2,d,en,tr,pa,ta,na,wh,st,te⟩ : Go.Dol.Obj) && noTold (⟨2,d,en,tr,pa,ta,na,wh,st,te⟩ : Go.Dol.Obj))
  case false =>
   have H1:=Lib.hid h1
   have HF : Hid (r = false):=by unfold Hid; rw [HR.out,H0.out,h1]; try simp
   clear h1
   go_enter Tryz.func63,Tryz.ntmps63
   go_wp2_with fail
   refine (refEntries_calls Ae en ce _ _ he0 hel hns).mono ?_
   rintro e w1 ⟨rfl,n1,rfl⟩
   rw [H0.out]
   have hb1:=hb0.drewN' n1
   have hB1:=hB0.drewN n1
   obtain ⟨a0,a1,a2,a3,a4,a5,a6,a7,a8,a9⟩:=obj_cells hB1
   go_wp2_with fail
   clear a0 a1 a2 a3 a4 a5 a6 a7 a8 a9
   refine (refBare2_calls 2 Ad d cd Ae en ce tr Ap pa cp ta na wh st te _).mono ?_
   rintro e w2 ⟨rfl,g2⟩
   rw [H1.out]
   have hb2:=hb1.next g2
   have hB2:=hB1.below g2 hB1.lt
   obtain ⟨a0,a1,a2,a3,a4,a5,a6,a7,a8,a9⟩:=obj_cells hB2
   go_wp2_with fail
   go_ret
   exact ⟨by rw [HF.out]; rfl,hb2⟩
  case true =>
   have H1:=Lib.hid h1
   clear h1
   have HF : Hid (r = true):=by unfold Hid; rw [HR.out,H0.out,H1.out]; try rfl
   go_enter Tryz.func63,Tryz.ntmps63
   go_wp2_with fail
   refine (refEntries_calls Ae en ce _ _ he0 hel hns).mono ?_
   rintro e w1 ⟨rfl,n1,rfl⟩
   rw [H0.out]
   have hb1:=hb0.drewN' n1
   have hB1:=hB0.drewN n1
   obtain ⟨a0,a1,a2,a3,a4,a5,a6,a7,a8,a9⟩:=obj_cells hB1
   go_wp2_with fail
   clear a0 a1 a2 a3 a4 a5 a6 a7 a8 a9
   refine (refBare2_calls 2 Ad d cd Ae en ce tr Ap pa cp ta na wh st te _).mono ?_
   rintro e w2 ⟨rfl,g2⟩
   rw [H1.out]
   have hb2:=hb1.next g2
   have hB2:=hB1.below g2 hB1.lt
   obtain ⟨a0,a1,a2,a3,a4,a5,a6,a7,a8,a9⟩:=obj_cells hB2
   go_wp2_with fail
   go_ret
   exact ⟨by rw [HF.out]; rfl,hb2⟩
theorem refCheck3_calls (Ad : Option Addr) (d : List UInt8) (cd : Nat) (Ae : Option Addr) (en : List Ent) (ce : Nat) (tr : ByteArray) (Ap : Option Addr) (pa : List ByteArray) (cp : Nat) (ta na wh : ByteArray) (st : Int) (te : ByteArray) (w : World) (he : Rd w w.heap.size 3 Ae en.length (ec en)) (hp : Rd w w.heap.size 1 Ap pa.length (pc pa)) (hel : en.length ≤ 140737488355328) (hpl : pa.length ≤ 140737488355328) (hns : Hid (∀ e ∈ en,e.name.size ≤ maxLen)) :
  Calls Tryz.prog 63 #[.agg #[.int .i64 3,.slice Ad d.length cd,.slice Ae en.length ce,.string tr,.slice Ap pa.length cp,.string ta,.string na,.string wh,.int .i64 st,.string te]] w fun e w' => e = .returned (.int .i64 (errC (checkB geS (⟨3,d,en,tr,pa,ta,na,wh,st,te⟩ : Go.Dol.Obj)))) ∧ Below w.heap.size w w':=by
 have hb0 : Below w.heap.size w (w.alloc (.cells #[.int .i64 3,.slice Ad d.length cd,.slice Ae en.length ce,.string tr,.slice Ap pa.length cp,.string ta,.string na,.string wh,.int .i64 st,.string te] 72)):=(Below.refl _ _).alloc (Nat.le_refl _) _
 have hB0:=Blk.new w 72 (ocells 3 (.slice Ad d.length cd) (.slice Ae en.length ce) tr (.slice Ap pa.length cp) ta na wh st te)
 have he0:=he.alive hb0
 have hp0:=hp.alive hb0
 obtain ⟨r,hr⟩ : ∃ r,r = checkB geS (⟨3,d,en,tr,pa,ta,na,wh,st,te⟩ : Go.Dol.Obj):=⟨_,rfl⟩
 rw [← hr]
 have HR : Hid (r = (decide (tr.size = 32) && parsB pa && toldB wh st te && (noData (⟨3,d,en,tr,pa,ta,na,wh,st,te⟩ : Go.Dol.Obj) && noEnts (⟨3,d,en,tr,pa,ta,na,wh,st,te⟩ : Go.Dol.Obj) && noTag (⟨3,d,en,tr,pa,ta,na,wh,st,te⟩ : Go.Dol.Obj)))):=hr
 clear hr
 by_cases q0 : tr.size = 32
 case neg =>
  have D0 : ((tr.size : Int) == 32) = false:=beq_eq_false_iff_ne.2 (by omega)
  have HF : Hid (r = false):=by unfold Hid; rw [HR.out,decide_eq_false q0]; simp
  clear q0
  go_enter Tryz.func63,Tryz.ntmps63
  go_wp2_with fail
  go_ret
  exact ⟨by rw [HF.out]; rfl,hb0⟩
 case pos =>
  have D0 : ((tr.size : Int) == 32) = true:=beq_iff_eq.2 (by omega)
  cases h1 : parsB pa
  case false =>
   have H1:=Lib.hid h1
   have HF : Hid (r = false):=by unfold Hid; rw [HR.out,decide_eq_true q0,h1]; try simp
   clear h1 q0
   go_enter Tryz.func63,Tryz.ntmps63
   go_wp2_with fail
   refine (refParents_calls Ap pa cp _ _ hp0 hpl).mono ?_
   rintro e w1 ⟨rfl,n1,rfl⟩
   rw [H1.out]
   have hb1:=hb0.drewN' n1
   have hB1:=hB0.drewN n1
   obtain ⟨a0,a1,a2,a3,a4,a5,a6,a7,a8,a9⟩:=obj_cells hB1
   go_wp2_with fail
   go_ret
   exact ⟨by rw [HF.out]; rfl,hb1⟩
  case true =>
   have H1:=Lib.hid h1
   clear h1
   cases h2 : toldB wh st te
   case false =>
    have H2:=Lib.hid h2
    have HF : Hid (r = false):=by unfold Hid; rw [HR.out,decide_eq_true q0,H1.out,h2]; try simp
    clear h2 q0
    go_enter Tryz.func63,Tryz.ntmps63
    go_wp2_with fail
    refine (refParents_calls Ap pa cp _ _ hp0 hpl).mono ?_
    rintro e w1 ⟨rfl,n1,rfl⟩
    rw [H1.out]
    have hb1:=hb0.drewN' n1
    have hB1:=hB0.drewN n1
    obtain ⟨a0,a1,a2,a3,a4,a5,a6,a7,a8,a9⟩:=obj_cells hB1
    go_wp2_with fail
    clear a0 a1 a2 a3 a4 a5 a6 a7 a8 a9
    refine (refTold_calls 3 Ad d cd Ae en ce tr Ap pa cp ta na wh st te _).mono ?_
    rintro e w2 ⟨rfl,g2⟩
    rw [H2.out]
    have hb2:=hb1.next g2
    have hB2:=hB1.below g2 hB1.lt
    obtain ⟨a0,a1,a2,a3,a4,a5,a6,a7,a8,a9⟩:=obj_cells hB2
    go_wp2_with fail
    go_ret
    exact ⟨by rw [HF.out]; rfl,hb2⟩
   case true =>
    have H2:=Lib.hid h2
    clear h2
    cases h3 : (noData (⟨3,d,en,tr,pa,ta,na,wh,st,te⟩ : Go.Dol.Obj) && noEnts (⟨3,d,en,tr,pa,ta,na,wh,st,te⟩ : Go.Dol.Obj) && noTag (⟨3,d,en,tr,pa,ta,na,wh,st,te⟩ : Go.Dol.Obj))
    case false =>
     have H3:=Lib.hid h3
     have HF : Hid (r = false):=by unfold Hid; rw [HR.out,decide_eq_true q0,H1.out,H2.out,h3]; try simp
     clear h3 q0
     go_enter Tryz.func63,Tryz.ntmps63
     go_wp2_with fail
     refine (refParents_calls Ap pa cp _ _ hp0 hpl).mono ?_
     rintro e w1 ⟨rfl,n1,rfl⟩
     rw [H1.out]
     have hb1:=hb0.drewN' n1
     have hB1:=hB0.drewN n1
     obtain ⟨a0,a1,a2,a3,a4,a5,a6,a7,a8,a9⟩:=obj_cells hB1
     go_wp2_with fail
     clear a0 a1 a2 a3 a4 a5 a6 a7 a8 a9
     refine (refTold_calls 3 Ad d cd Ae en ce tr Ap pa cp ta na wh st te _).mono ?_
     rintro e w2 ⟨rfl,g2⟩
     rw [H2.out]
     have hb2:=hb1.next g2
     have hB2:=hB1.below g2 hB1.lt
     obtain ⟨a0,a1,a2,a3,a4,a5,a6,a7,a8,a9⟩:=obj_cells hB2
     go_wp2_with fail
     clear a0 a1 a2 a3 a4 a5 a6 a7 a8 a9
     refine (refBare3_calls 3 Ad d cd Ae en ce tr Ap pa cp ta na wh st te _).mono ?_
     rintro e w3 ⟨rfl,g3⟩
     rw [H3.out]
     have hb3:=hb2.next g3
     have hB3:=hB2.below g3 hB2.lt
     obtain ⟨a0,a1,a2,a3,a4,a5,a6,a7,a8,a9⟩:=obj_cells hB3
     go_wp2_with fail
     go_ret
     exact ⟨by rw [HF.out]; rfl,hb3⟩
    case true =>
     have H3:=Lib.hid h3
     clear h3
     have HF : Hid (r = true):=by unfold Hid; rw [HR.out,decide_eq_true q0,H1.out,H2.out,H3.out]; try rfl
     clear q0
     go_enter Tryz.func63,Tryz.ntmps63
     go_wp2_with fail
     refine (refParents_calls Ap pa cp _ _ hp0 hpl).mono ?_
     rintro e w1 ⟨rfl,n1,rfl⟩
     rw [H1.out]
     have hb1:=hb0.drewN' n1
     have hB1:=hB0.drewN n1
     obtain ⟨a0,a1,a2,a3,a4,a5,a6,a7,a8,a9⟩:=obj_cells hB1
     go_wp2_with fail
     clear a0 a1 a2 a3 a4 a5 a6 a7 a8 a9
     refine (refTold_calls 3 Ad d cd Ae en ce tr Ap pa cp ta na wh st te _).mono ?_
     rintro e w2 ⟨rfl,g2⟩
     rw [H2.out]
     have hb2:=hb1.next g2
     have hB2:=hB1.below g2 hB1.lt
     obtain ⟨a0,a1,a2,a3,a4,a5,a6,a7,a8,a9⟩:=obj_cells hB2
     go_wp2_with fail
     clear a0 a1 a2 a3 a4 a5 a6 a7 a8 a9
     refine (refBare3_calls 3 Ad d cd Ae en ce tr Ap pa cp ta na wh st te _).mono ?_
     rintro e w3 ⟨rfl,g3⟩
     rw [H3.out]
     have hb3:=hb2.next g3
     have hB3:=hB2.below g3 hB2.lt
     obtain ⟨a0,a1,a2,a3,a4,a5,a6,a7,a8,a9⟩:=obj_cells hB3
     go_wp2_with fail
     go_ret
     exact ⟨by rw [HF.out]; rfl,hb3⟩
theorem refCheck4_calls (Ad : Option Addr) (d : List UInt8) (cd : Nat) (Ae : Option Addr) (en : List Ent) (ce : Nat) (tr : ByteArray) (Ap : Option Addr) (pa : List ByteArray) (cp : Nat) (ta na wh : ByteArray) (st : Int) (te : ByteArray) (w : World) (he : Rd w w.heap.size 3 Ae en.length (ec en)) (hp : Rd w w.heap.size 1 Ap pa.length (pc pa)) (hel : en.length ≤ 140737488355328) (hpl : pa.length ≤ 140737488355328) (hns : Hid (∀ e ∈ en,e.name.size ≤ maxLen)) :
  Calls Tryz.prog 63 #[.agg #[.int .i64 4,.slice Ad d.length cd,.slice Ae en.length ce,.string tr,.slice Ap pa.length cp,.string ta,.string na,.string wh,.int .i64 st,.string te]] w fun e w' => e = .returned (.int .i64 (errC (checkB geS (⟨4,d,en,tr,pa,ta,na,wh,st,te⟩ : Go.Dol.Obj)))) ∧ Below w.heap.size w w':=by
 have hb0 : Below w.heap.size w (w.alloc (.cells #[.int .i64 4,.slice Ad d.length cd,.slice Ae en.length ce,.string tr,.slice Ap pa.length cp,.string ta,.string na,.string wh,.int .i64 st,.string te] 72)):=(Below.refl _ _).alloc (Nat.le_refl _) _
 have hB0:=Blk.new w 72 (ocells 4 (.slice Ad d.length cd) (.slice Ae en.length ce) tr (.slice Ap pa.length cp) ta na wh st te)
 have he0:=he.alive hb0
 have hp0:=hp.alive hb0
 obtain ⟨r,hr⟩ : ∃ r,r = checkB geS (⟨4,d,en,tr,pa,ta,na,wh,st,te⟩ : Go.Dol.Obj):=⟨_,rfl⟩
 rw [← hr]
 have HR : Hid (r = (decide (ta.size = 32) && decide (1 ≤ na.size) && decide (na.size ≤ 200) && toldB wh st te && (noData (⟨4,d,en,tr,pa,ta,na,wh,st,te⟩ : Go.Dol.Obj) && noEnts (⟨4,d,en,tr,pa,ta,na,wh,st,te⟩ : Go.Dol.Obj) && noCommit (⟨4,d,en,tr,pa,ta,na,wh,st,te⟩ : Go.Dol.Obj)))):=hr
 clear hr
 by_cases q0 : ta.size = 32
 case neg =>
  have D0 : ((ta.size : Int) == 32) = false:=beq_eq_false_iff_ne.2 (by omega)
  have HF : Hid (r = false):=by unfold Hid; rw [HR.out,decide_eq_false q0]; simp
  clear q0
  go_enter Tryz.func63,Tryz.ntmps63
  go_wp2_with fail
  go_ret
  exact ⟨by rw [HF.out]; rfl,hb0⟩
 case pos =>
  have D0 : ((ta.size : Int) == 32) = true:=beq_iff_eq.2 (by omega)
  by_cases q1 : 1 ≤ na.size
  case neg =>
   have D1 : decide ((na.size : Int) ≥ 1) = false:=decide_eq_false (by omega)
   have D1' : decide ((1 : Int) ≤ (na.size : Int)) = false:=decide_eq_false (by omega)
   have HF : Hid (r = false):=by unfold Hid; rw [HR.out,decide_eq_true q0,decide_eq_false q1]; simp
   clear q0 q1
   go_enter Tryz.func63,Tryz.ntmps63
   go_wp2_with fail
   go_ret
   exact ⟨by rw [HF.out]; rfl,hb0⟩
  case pos =>
   have D1 : decide ((na.size : Int) ≥ 1) = true:=decide_eq_true (by omega)
   have D1' : decide ((1 : Int) ≤ (na.size : Int)) = true:=decide_eq_true (by omega)
   by_cases q2 : na.size ≤ 200
   case neg =>
    have D2 : decide ((na.size : Int) ≤ 200) = false:=decide_eq_false (by omega)
    have HF : Hid (r = false):=by unfold Hid; rw [HR.out,decide_eq_true q0,decide_eq_true q1,decide_eq_false q2]; simp
    clear q0 q1 q2
    go_enter Tryz.func63,Tryz.ntmps63
    go_wp2_with fail
    go_ret
    exact ⟨by rw [HF.out]; rfl,hb0⟩
   case pos =>
    have D2 : decide ((na.size : Int) ≤ 200) = true:=decide_eq_true (by omega)
    cases h3 : toldB wh st te
    case false =>
     have H3:=Lib.hid h3
     have HF : Hid (r = false):=by unfold Hid; rw [HR.out,decide_eq_true q0,decide_eq_true q1,decide_eq_true q2,h3]; try simp
     clear h3 q0 q1 q2
     go_enter Tryz.func63,Tryz.ntmps63
     go_wp2_with fail
     refine (refTold_calls 4 Ad d cd Ae en ce tr Ap pa cp ta na wh st te _).mono ?_
     rintro e w1 ⟨rfl,g1⟩
     rw [H3.out]
     have hb1:=hb0.next g1
     have hB1:=hB0.below g1 hB0.lt
     obtain ⟨a0,a1,a2,a3,a4,a5,a6,a7,a8,a9⟩:=obj_cells hB1
     go_wp2_with fail
     go_ret
     exact ⟨by rw [HF.out]; rfl,hb1⟩
    case true =>
     have H3:=Lib.hid h3
     clear h3
     cases h4 : (noData (⟨4,d,en,tr,pa,ta,na,wh,st,te⟩ : Go.Dol.Obj) && noEnts (⟨4,d,en,tr,pa,ta,na,wh,st,te⟩ : Go.Dol.Obj) && noCommit (⟨4,d,en,tr,pa,ta,na,wh,st,te⟩ : Go.Dol.Obj))
     case false =>
      have H4:=Lib.hid h4
      have HF : Hid (r = false):=by unfold Hid; rw [HR.out,decide_eq_true q0,decide_eq_true q1,decide_eq_true q2,H3.out,h4]; try simp
      clear h4 q0 q1 q2
      go_enter Tryz.func63,Tryz.ntmps63
      go_wp2_with fail
      refine (refTold_calls 4 Ad d cd Ae en ce tr Ap pa cp ta na wh st te _).mono ?_
      rintro e w1 ⟨rfl,g1⟩
      rw [H3.out]
      have hb1:=hb0.next g1
      have hB1:=hB0.below g1 hB0.lt
      obtain ⟨a0,a1,a2,a3,a4,a5,a6,a7,a8,a9⟩:=obj_cells hB1
      go_wp2_with fail
      clear a0 a1 a2 a3 a4 a5 a6 a7 a8 a9
      refine (refBare4_calls 4 Ad d cd Ae en ce tr Ap pa cp ta na wh st te _).mono ?_
      rintro e w2 ⟨rfl,g2⟩
      rw [H4.out]
      have hb2:=hb1.next g2
      have hB2:=hB1.below g2 hB1.lt
      obtain ⟨a0,a1,a2,a3,a4,a5,a6,a7,a8,a9⟩:=obj_cells hB2
      go_wp2_with fail
      go_ret
      exact ⟨by rw [HF.out]; rfl,hb2⟩
     case true =>
      have H4:=Lib.hid h4
      clear h4
      have HF : Hid (r = true):=by unfold Hid; rw [HR.out,decide_eq_true q0,decide_eq_true q1,decide_eq_true q2,H3.out,H4.out]; try rfl
      clear q0 q1 q2
      go_enter Tryz.func63,Tryz.ntmps63
      go_wp2_with fail
      refine (refTold_calls 4 Ad d cd Ae en ce tr Ap pa cp ta na wh st te _).mono ?_
      rintro e w1 ⟨rfl,g1⟩
      rw [H3.out]
      have hb1:=hb0.next g1
      have hB1:=hB0.below g1 hB0.lt
      obtain ⟨a0,a1,a2,a3,a4,a5,a6,a7,a8,a9⟩:=obj_cells hB1
      go_wp2_with fail
      clear a0 a1 a2 a3 a4 a5 a6 a7 a8 a9
      refine (refBare4_calls 4 Ad d cd Ae en ce tr Ap pa cp ta na wh st te _).mono ?_
      rintro e w2 ⟨rfl,g2⟩
      rw [H4.out]
      have hb2:=hb1.next g2
      have hB2:=hB1.below g2 hB1.lt
      obtain ⟨a0,a1,a2,a3,a4,a5,a6,a7,a8,a9⟩:=obj_cells hB2
      go_wp2_with fail
      go_ret
      exact ⟨by rw [HF.out]; rfl,hb2⟩
theorem refCheck_calls (k : Int) (Ad : Option Addr) (d : List UInt8) (cd : Nat) (Ae : Option Addr) (en : List Ent) (ce : Nat) (tr : ByteArray) (Ap : Option Addr) (pa : List ByteArray) (cp : Nat) (ta na wh : ByteArray) (st : Int) (te : ByteArray) (w : World) (he : Rd w w.heap.size 3 Ae en.length (ec en)) (hp : Rd w w.heap.size 1 Ap pa.length (pc pa)) (hel : en.length ≤ 140737488355328) (hpl : pa.length ≤ 140737488355328) (hns : Hid (∀ e ∈ en,e.name.size ≤ maxLen)) :
  Calls Tryz.prog 63 #[.agg #[.int .i64 k,.slice Ad d.length cd,.slice Ae en.length ce,.string tr,.slice Ap pa.length cp,.string ta,.string na,.string wh,.int .i64 st,.string te]] w fun e w' => e = .returned (.int .i64 (errC (checkB geS (⟨k,d,en,tr,pa,ta,na,wh,st,te⟩ : Go.Dol.Obj)))) ∧ Below w.heap.size w w':=by
 by_cases h1 : k = 1
 ·subst h1; exact refCheck1_calls Ad d cd Ae en ce tr Ap pa cp ta na wh st te w he hp hel hpl hns
 by_cases h2 : k = 2
 ·subst h2; exact refCheck2_calls Ad d cd Ae en ce tr Ap pa cp ta na wh st te w he hp hel hpl hns
 by_cases h3 : k = 3
 ·subst h3; exact refCheck3_calls Ad d cd Ae en ce tr Ap pa cp ta na wh st te w he hp hel hpl hns
 by_cases h4 : k = 4
 ·subst h4; exact refCheck4_calls Ad d cd Ae en ce tr Ap pa cp ta na wh st te w he hp hel hpl hns
 have hb0 : Below w.heap.size w (w.alloc (.cells #[.int .i64 k,.slice Ad d.length cd,.slice Ae en.length ce,.string tr,.slice Ap pa.length cp,.string ta,.string na,.string wh,.int .i64 st,.string te] 72)):=(Below.refl _ _).alloc (Nat.le_refl _) _
 have hF : Hid (checkB geS (⟨k,d,en,tr,pa,ta,na,wh,st,te⟩ : Go.Dol.Obj) = false):=by
  unfold Hid checkB
  rw [if_neg h1,if_neg h2,if_neg h3,if_neg h4]
 have d1 : (k == 1) = false:=beq_eq_false_iff_ne.2 h1
 have d2 : (k == 2) = false:=beq_eq_false_iff_ne.2 h2
 have d3 : (k == 3) = false:=beq_eq_false_iff_ne.2 h3
 have d4 : (k == 4) = false:=beq_eq_false_iff_ne.2 h4
 clear h1 h2 h3 h4
 go_enter Tryz.func63,Tryz.ntmps63
 go_wp2_with fail
 go_ret
 exact ⟨by rw [hF.out]; rfl,hb0⟩
theorem refEncode1_calls (Ad : Option Addr) (d : List UInt8) (cd : Nat) (Ae : Option Addr) (en : List Ent) (ce : Nat) (tr : ByteArray) (Ap : Option Addr) (pa : List ByteArray) (cp : Nat) (ta na wh : ByteArray) (st : Int) (te : ByteArray) (w : World) (hd : Rd w w.heap.size 1 Ad d.length (bc d)) (he : Rd w w.heap.size 3 Ae en.length (ec en)) (hp : Rd w w.heap.size 1 Ap pa.length (pc pa)) (hel : en.length ≤ 140737488355328) (hpl : pa.length ≤ 140737488355328) (hns : Hid (∀ e ∈ en,e.name.size ≤ maxLen)) (HC : Hid (checkB geS (⟨1,d,en,tr,pa,ta,na,wh,st,te⟩ : Go.Dol.Obj) = true)) :
  Calls Tryz.prog 29 #[.agg #[.int .i64 1,.slice Ad d.length cd,.slice Ae en.length ce,.string tr,.slice Ap pa.length cp,.string ta,.string na,.string wh,.int .i64 st,.string te]] w (RetEnc w (⟨1,d,en,tr,pa,ta,na,wh,st,te⟩ : Go.Dol.Obj)):=by
 have hb0 : Below w.heap.size w (w.alloc (.cells #[.int .i64 1,.slice Ad d.length cd,.slice Ae en.length ce,.string tr,.slice Ap pa.length cp,.string ta,.string na,.string wh,.int .i64 st,.string te] 72)):=(Below.refl _ _).alloc (Nat.le_refl _) _
 have hB0:=Blk.new w 72 (ocells 1 (.slice Ad d.length cd) (.slice Ae en.length ce) tr (.slice Ap pa.length cp) ta na wh st te)
 have hd0:=hd.alive hb0
 have he0:=he.alive hb0
 have hp0:=hp.alive hb0
 have hEC : Hid (errC (checkB geS (⟨1,d,en,tr,pa,ta,na,wh,st,te⟩ : Go.Dol.Obj)) = 0):=Lib.hid (by rw [HC.out]; rfl)
 go_enter Tryz.func29,Tryz.ntmps29
 go_wp2_with fail
 refine (refCheck_calls 1 Ad d cd Ae en ce tr Ap pa cp ta na wh st te _ he0 hp0 hel hpl hns).mono ?_
 rintro e w1 ⟨rfl,hb1⟩
 rw [hEC.out]
 have hB1:=hB0.below hb1 hB0.lt
 have hbw:=hb0.next hb1
 have hd1:=hd0.alive hb1
 have he1:=he0.alive hb1
 have hp1:=hp0.alive hb1
 have hwr : IntKind.u8.wrap 1 = 1:=by rfl
 have hs1 : w.heap.size < w1.heap.size:=hB1.lt
 have hn1 : w.heap.size ≠ w1.heap.size:=by omega
 have hn2 : ¬ w1.heap.size = w.heap.size:=by omega
 have ho1 : (w1.alloc (.cells #[.int .u8 1] 5)).ownsRow w.heap.size 5 1 (.slice (some ⟨w1.heap.size,0,none⟩) 1 1) 1 (bc [1]):=World.ownsRow_lit w1 #[.int .u8 1] 1 hbw.size (by decide) rfl
 have hbo : Below w1.heap.size w1 (w1.alloc (.cells #[.int .u8 1] 5)):=(Below.refl _ _).alloc (Nat.le_refl _) _
 have hb2:=hbw.next hbo
 have hB2:=hB1.alloc (.cells #[.int .u8 1] 5)
 have hd2:=hd1.alive hbo
 have he2:=he1.alive hbo
 have hp2:=hp1.alive hbo
 obtain ⟨c0,c1,c2,c3,c4,c5,c6,c7,c8,c9⟩:=obj_cells hB1
 have hdl : d.length ≤ 1048576:=check1_parts rfl HC.out
 go_wp2_with (at_builtin; refine app8 rfl (.tmp 37) (.tmp 39) rfl w.heap.size _ 1 [1] rfl ho1 _ Ad d.length cd d rfl hd2 (by omega) hb2.size ?_)
 intro l A c w3 h0 h1 h2 h3 h4 h5 h6
 go_wp2_with fail
 go_ret2
 exact ⟨hb2.trans h2,.inl ⟨HC.out,l,A,c,by unfold Hid; rw [h0.out]; rfl,rfl,h1⟩⟩
def RPars (g : Nat) (T : List UInt8) (ps : List ByteArray) (cs : List Value) (w : World) (b i : Value) (wr : World) : Prop :=
 ∃ (k : Nat) (l : List UInt8) (A : Option Addr) (c : Nat),i = .int .i64 k ∧ b = .slice A l.length c ∧ k ≤ ps.length ∧ Hid (l = T ++ parsN (ps.take k)) ∧ wr.ownsRow w.heap.size 5 1 (.slice A l.length c) l.length (bc l) ∧ l.length ≤ c ∧ c ≤ maxLen ∧ Blk wr g 72 cs ∧ Below w.heap.size w wr
def REnts (g : Nat) (T : List UInt8) (es : List Ent) (cs : List Value) (w : World) (b i : Value) (wr : World) : Prop :=
 ∃ (k : Nat) (l : List UInt8) (A : Option Addr) (c : Nat),i = .int .i64 k ∧ b = .slice A l.length c ∧ k ≤ es.length ∧ Hid (l = T ++ (es.take k).flatMap entB) ∧ wr.ownsRow w.heap.size 5 1 (.slice A l.length c) l.length (bc l) ∧ l.length ≤ c ∧ c ≤ maxLen ∧ Blk wr g 72 cs ∧ Below w.heap.size w wr
theorem refEncode3_calls (Ad : Option Addr) (d : List UInt8) (cd : Nat) (Ae : Option Addr) (en : List Ent) (ce : Nat) (tr : ByteArray) (Ap : Option Addr) (pa : List ByteArray) (cp : Nat) (ta na wh : ByteArray) (st : Int) (te : ByteArray) (w : World) (hd : Rd w w.heap.size 1 Ad d.length (bc d)) (he : Rd w w.heap.size 3 Ae en.length (ec en)) (hp : Rd w w.heap.size 1 Ap pa.length (pc pa)) (hel : en.length ≤ 140737488355328) (hpl : pa.length ≤ 140737488355328) (hns : Hid (∀ e ∈ en,e.name.size ≤ maxLen)) (HC : Hid (checkB geS (⟨3,d,en,tr,pa,ta,na,wh,st,te⟩ : Go.Dol.Obj) = true)) :
  Calls Tryz.prog 29 #[.agg #[.int .i64 3,.slice Ad d.length cd,.slice Ae en.length ce,.string tr,.slice Ap pa.length cp,.string ta,.string na,.string wh,.int .i64 st,.string te]] w (RetEnc w (⟨3,d,en,tr,pa,ta,na,wh,st,te⟩ : Go.Dol.Obj)):=by
 have hb0 : Below w.heap.size w (w.alloc (.cells #[.int .i64 3,.slice Ad d.length cd,.slice Ae en.length ce,.string tr,.slice Ap pa.length cp,.string ta,.string na,.string wh,.int .i64 st,.string te] 72)):=(Below.refl _ _).alloc (Nat.le_refl _) _
 have hB0:=Blk.new w 72 (ocells 3 (.slice Ad d.length cd) (.slice Ae en.length ce) tr (.slice Ap pa.length cp) ta na wh st te)
 have hd0:=hd.alive hb0
 have he0:=he.alive hb0
 have hp0:=hp.alive hb0
 have hEC : Hid (errC (checkB geS (⟨3,d,en,tr,pa,ta,na,wh,st,te⟩ : Go.Dol.Obj)) = 0):=Lib.hid (by rw [HC.out]; rfl)
 go_enter Tryz.func29,Tryz.ntmps29
 go_wp2_with fail
 refine (refCheck_calls 3 Ad d cd Ae en ce tr Ap pa cp ta na wh st te _ he0 hp0 hel hpl hns).mono ?_
 rintro e w1 ⟨rfl,hb1⟩
 rw [hEC.out]
 have hB1:=hB0.below hb1 hB0.lt
 have hbw:=hb0.next hb1
 have hd1:=hd0.alive hb1
 have he1:=he0.alive hb1
 have hp1:=hp0.alive hb1
 have hwr : IntKind.u8.wrap 3 = 3:=by rfl
 have hs1 : w.heap.size < w1.heap.size:=hB1.lt
 have hn1 : w.heap.size ≠ w1.heap.size:=by omega
 have hn2 : ¬ w1.heap.size = w.heap.size:=by omega
 have ho1 : (w1.alloc (.cells #[.int .u8 3] 5)).ownsRow w.heap.size 5 1 (.slice (some ⟨w1.heap.size,0,none⟩) 1 1) 1 (bc [3]):=World.ownsRow_lit w1 #[.int .u8 3] 1 hbw.size (by decide) rfl
 have hbo : Below w1.heap.size w1 (w1.alloc (.cells #[.int .u8 3] 5)):=(Below.refl _ _).alloc (Nat.le_refl _) _
 have hb2:=hbw.next hbo
 have hB2:=hB1.alloc (.cells #[.int .u8 3] 5)
 have hd2:=hd1.alive hbo
 have he2:=he1.alive hbo
 have hp2:=hp1.alive hbo
 obtain ⟨c0,c1,c2,c3,c4,c5,c6,c7,c8,c9⟩:=obj_cells hB1
 obtain ⟨hts,hpb,htb⟩:=check3_parts rfl HC.out
 obtain ⟨hw1,hw2,_,_⟩:=told_parts htb
 simp only at hts hpb htb hw1 hw2
 have hpl4:=(parsB_parts hpb).2
 have hpn:=pars_small hpb
 have hcl : Hid (clampN (pa.length : Int) = pa.length):=by unfold Hid clampN; omega
 clear htb hpb
 go_wp2_with (at_builtin; refine app8s rfl (.tmp 83) (.tmp 85) rfl w.heap.size _ 1 [3] rfl ho1 tr rfl (by omega) hb2.size ?_)
 intro l1 A1 cc1 w3 e1 ho3 hb3 hg3 i1 i2
 have hl1 : l1.length ≤ 33:=by rw [e1.out]; simp only [List.length_cons,str_len]; omega
 have hB3:=hB2.grown hg3 (fun e => own_ne ho1 hB2 (by decide) e.symm)
 have hbw3:=hb2.trans hb3
 obtain ⟨d0,d1,d2,d3,d4,d5,d6,d7,d8,d9⟩:=obj_cells hB3
 clear c0 c1 c2 c3 c4 c5 c6 c7 c8 c9
 go_wp2_with fail
 refine (RefPutNum_calls A1 l1 cc1 _ w3 (Rd.of_own ho3) (by omega)).mono ?_
 rintro e w4 ⟨l2,A2,cc2,e2,rfl,ho4,hb4,i3,i4⟩
 have hB4:=hB3.below hb4 hB3.lt
 have hbw4:=hbw3.next hb4
 have ho4':=ho4.base hbw3.size
 obtain ⟨T,hTe⟩ : ∃ T,T = [3] ++ tr.data.toList ++ num pa.length:=⟨_,rfl⟩
 have hT : Hid (l2 = T ++ parsN (pa.take 0)):=by
  unfold Hid
  rw [e2.out,e1.out,hcl.out,hTe]
  simp [parsN]
 have hTl : T.length ≤ 42:=by
  rw [hTe]
  simp only [List.length_append,str_len,List.length_singleton]
  have:=num_length_le 8 pa.length (by omega)
  omega
 have HTE:=Lib.hid hTe
 clear d0 d1 d2 d3 d4 d5 d6 d7 d8 d9 hTe e1 e2
 go_wp2_with fail
 go_loopw [4,7] (fun b i wr => RPars w.heap.size T pa (ocells 3 (.slice Ad d.length cd) (.slice Ae en.length ce) tr (.slice Ap pa.length cp) ta na wh st te) w b i wr) (fun _ i _ => pa.length - (intOf i).toNat)
 case atStart => exact ⟨0,l2,A2,cc2,rfl,rfl,Nat.zero_le _,hT,ho4',i3,i4,hB4,hbw4⟩
 case round =>
  clear hT ho4' hB4 hbw4 i3 i4 hB3 hbw3 ho3 ho4 hb3 hb4 hg3
  obtain ⟨k',l3,A3,c3,rfl,rfl,hk,hT,hown,i3,i4,hB,hbel⟩:=hrel
  obtain ⟨k0,k1,k2,k3,k4,k5,k6,k7,k8,k9⟩:=obj_cells hB
  have hs:=hbel.size
  have hl3 : l3.length ≤ T.length + (parsN pa).length:=by rw [hT.out,List.length_append]; have:=parsN_le pa k'; omega
  have f1 : IntKind.i64.wrap ((k' : Int) + 1) = (k' : Int) + 1:=IntWalk.i64_in _ (by omega)
  by_cases h1 : k' < pa.length
  ·have d1 : decide ((k' : Int) < (pa.length : Int)) = true:=decide_eq_true (by omega)
   have d1' : (k' : Int) < (pa.length : Int):=by omega
   have hk0 : (0 : Int) ≤ (k' : Int):=by omega
   have hlen1 : pa.length ≤ 9223372036854775807:=by omega
   have hrw:=hp.below hbel
   obtain ⟨bb,off,rfl,hbb,hcell⟩:=hrw.at_ (by omega)
   have q0:=hcell _ _ (pc_get h1)
   obtain ⟨p,hp'⟩ : ∃ p,p = pa[k']:=⟨_,rfl⟩
   rw [← hp'] at q0
   have hsucc : Hid (parsN (pa.take (k' + 1)) = parsN (pa.take k') ++ p.data.toList):=by unfold Hid; rw [parsN_succ h1,hp']
   have hfit : l3.length + p.size ≤ 140737488355328:=by
    have h5:=parsN_le pa (k' + 1)
    rw [hsucc.out,List.length_append,str_len] at h5
    have h6:=congrArg List.length hT.out
    rw [List.length_append] at h6
    omega
   have hne : some w.heap.size ≠ (Value.slice A3 l3.length c3).ownBlock:=fun e => own_ne hown hB (by decide) e.symm
   clear hp' hcell
   go_wp2_with (at_builtin; refine app8s rfl (.tmp 99) (.tmp 104) rfl w.heap.size _ l3.length l3 rfl hown p rfl hfit hs ?_)
   intro l4 A4 c4 w4 e4 ho4 hb4 hg4 i5 i6
   go_wp2_with fail
   refine ⟨⟨k' + 1,l4,A4,c4,by go_num,rfl,h1,?_,ho4,i5,i6,hB.grown hg4 hne,hbel.trans hb4⟩,by simp [intOf]; omega⟩
   unfold Hid
   rw [e4.out,hT.out,hsucc.out,List.append_assoc]
  ·have d1 : decide ((k' : Int) < (pa.length : Int)) = false:=decide_eq_false (by omega)
   have d1' : ¬ (k' : Int) < (pa.length : Int):=by omega
   have hkl : k' = pa.length:=by omega
   have hT2 : Hid (l3 = T ++ parsN pa):=by unfold Hid; rw [hT.out,hkl,List.take_length]
   clear hkl
   go_wp2_with fail
   refine (RefPutText_calls A3 l3 c3 wh wr (Rd.of_own hown) (by omega)).mono ?_
   rintro e w5 ⟨l5,A5,c5,e5,rfl,ho5,hb5,i5,i6⟩
   have hB5:=hB.below hb5 hB.lt
   have hr5:=Rd.of_own ho5
   have hl5 : l5.length ≤ l3.length + (9 + 1000):=by rw [e5.out,List.length_append]; have:=tx_length (s:=wh) (by omega); unfold tx at this; omega
   have hbel5:=hbel.next hb5
   clear k0 k1 k2 k3 k4 k5 k6 k7 k8 k9
   go_wp2_with fail
   have zx : w5.cell? ⟨w.heap.size,8,none⟩ = some (.int .i64 st) ∧ w5.cell? ⟨w.heap.size,9,none⟩ = some (.string te):=⟨by rw [hB5.cell]; rfl,by rw [hB5.cell]; rfl⟩
   refine wp_region_held_drew (S:=fun w' => w'.cell? ⟨w.heap.size,8,none⟩ = some (.int .i64 st) ∧ w'.cell? ⟨w.heap.size,9,none⟩ = some (.string te)) (by kernel_rfl) zx (fun hHeld => ?_)
   refine tk 0 (.slice A5 l5.length c5) rfl (fun _ _ _ h => h) (Or.inl ⟨by rfl,fun w' hS => ?_⟩) hHeld ?_
   ·obtain ⟨s0,s1⟩:=hS
    go_simp
   try simp only [Act.put,sA,sB,sC,sD,sF]
   refine tk 1 (.pointer (some ⟨w.heap.size,8,none⟩)) rfl (fun _ _ _ h => h) (Or.inl ⟨by rfl,fun w' hS => ?_⟩) hHeld ?_
   ·obtain ⟨s0,s1⟩:=hS
    go_simp
   try simp only [Act.put,sA,sB,sC,sD,sE,sF]
   refine tk 2 (.int .i64 st) rfl (fun _ _ _ h => h) (Or.inl ⟨by rfl,fun w' hS => ?_⟩) hHeld ?_
   ·obtain ⟨s0,s1⟩:=hS
    go_simp
   try simp only [Act.put,sA,sB,sC,sD,sE,sF]
   refine tk 4 (.pointer (some ⟨w.heap.size,9,none⟩)) rfl (fun _ _ _ h => h) (Or.inl ⟨by rfl,fun w' hS => ?_⟩) hHeld ?_
   ·obtain ⟨s0,s1⟩:=hS
    go_simp
   try simp only [Act.put,sA,sB,sC,sD,sE,sF]
   refine tk 5 (.string te) rfl (fun _ _ _ h => h) (Or.inl ⟨by rfl,fun w' hS => ?_⟩) hHeld ?_
   ·obtain ⟨s0,s1⟩:=hS
    go_simp
   try simp only [Act.put,sA,sB,sC,sD,sE,sF]
   refine wpAnyH_ready (rs:=[3]) (by kernel_rfl) (by simp) (AllReadyH.cons (o:=_) rfl (fun K hK => ?_) AllReadyH.nil)
   go_simp
   refine (RefPutNum_calls A5 l5 c5 st w5.drew hr5.drew (by omega)).mono ?_
   rintro e wax ⟨lax,Aax,cax,eax,rfl,oax,bax,_,_⟩
   have Bax:=hB5.drew.below bax hB5.lt
   have rax:=Rd.of_own oax
   have nax : lax.length ≤ l5.length + 9:=by rw [eax.out,List.length_append]; have:=num_length_le 8 (clampN st) (by have:=clampN_le st; unfold mostNum at this; omega); omega
   have zax : wax.cell? ⟨w.heap.size,8,none⟩ = some (.int .i64 st) ∧ wax.cell? ⟨w.heap.size,9,none⟩ = some (.string te):=⟨by rw [Bax.cell]; rfl,by rw [Bax.cell]; rfl⟩
   refine hK.out _ _ zax (fun hHeld => ?_)
   clear hK K
   try simp only [Act.put,sA,sB,sC,sD,sE,sF]
   refine wpAnyH_ready (rs:=[6]) (by kernel_rfl) (by simp) (AllReadyH.cons (o:=_) rfl (fun K hK => ?_) AllReadyH.nil)
   go_simp
   refine (RefPutText_calls Aax lax cax te wax rax (by omega)).mono ?_
   rintro e wbx ⟨lbx,Abx,cbx,ebx,rfl,obx,bbx,jbx,kbx⟩
   have Bbx:=Bax.below bbx Bax.lt
   have nbx : lbx.length ≤ lax.length + (9 + 1000):=by rw [ebx.out,List.length_append]; have:=tx_length (s:=te) (by omega); unfold tx at this; omega
   have zbx : wbx.cell? ⟨w.heap.size,8,none⟩ = some (.int .i64 st) ∧ wbx.cell? ⟨w.heap.size,9,none⟩ = some (.string te):=⟨by rw [Bbx.cell]; rfl,by rw [Bbx.cell]; rfl⟩
   refine hK.out _ _ zbx (fun hHeld => ?_)
   clear hK K
   try simp only [Act.put,sA,sB,sC,sD,sE,sF]
   refine tk 7 (.slice Abx lbx.length cbx) rfl (fun _ _ _ h => h) (Or.inl ⟨by rfl,fun w' hS => ?_⟩) hHeld ?_
   ·obtain ⟨s0,s1⟩:=hS
    go_simp
   try simp only [Act.put,sA,sB,sC,sD,sE,sF]
   refine wpAnyH_done (by kernel_rfl) ?_ _
   have btx : Below w5.heap.size w5 wbx:=((Below.refl _ _).drew).trans (Below.trans bax (bbx.mono bax.size))
   go_wp2_with fail
   go_ret2
   refine ⟨hbel5.next btx,.inl ⟨HC.out,lbx,Abx,cbx,?_,rfl,obx.base (Nat.le_trans hbel5.size bax.size)⟩⟩
   unfold Hid
   rw [ebx.out,eax.out,e5.out,hT2.out,HTE.out]
   show _ = [3] ++ (tr.data.toList ++ (parsL pa ++ (tx wh ++ (num (clampN st) ++ tx te))))
   unfold parsL parsN tx
   simp only [List.append_assoc]
theorem refEncode4_calls (Ad : Option Addr) (d : List UInt8) (cd : Nat) (Ae : Option Addr) (en : List Ent) (ce : Nat) (tr : ByteArray) (Ap : Option Addr) (pa : List ByteArray) (cp : Nat) (ta na wh : ByteArray) (st : Int) (te : ByteArray) (w : World) (hd : Rd w w.heap.size 1 Ad d.length (bc d)) (he : Rd w w.heap.size 3 Ae en.length (ec en)) (hp : Rd w w.heap.size 1 Ap pa.length (pc pa)) (hel : en.length ≤ 140737488355328) (hpl : pa.length ≤ 140737488355328) (hns : Hid (∀ e ∈ en,e.name.size ≤ maxLen)) (HC : Hid (checkB geS (⟨4,d,en,tr,pa,ta,na,wh,st,te⟩ : Go.Dol.Obj) = true)) :
  Calls Tryz.prog 29 #[.agg #[.int .i64 4,.slice Ad d.length cd,.slice Ae en.length ce,.string tr,.slice Ap pa.length cp,.string ta,.string na,.string wh,.int .i64 st,.string te]] w (RetEnc w (⟨4,d,en,tr,pa,ta,na,wh,st,te⟩ : Go.Dol.Obj)):=by
 have hb0 : Below w.heap.size w (w.alloc (.cells #[.int .i64 4,.slice Ad d.length cd,.slice Ae en.length ce,.string tr,.slice Ap pa.length cp,.string ta,.string na,.string wh,.int .i64 st,.string te] 72)):=(Below.refl _ _).alloc (Nat.le_refl _) _
 have hB0:=Blk.new w 72 (ocells 4 (.slice Ad d.length cd) (.slice Ae en.length ce) tr (.slice Ap pa.length cp) ta na wh st te)
 have hd0:=hd.alive hb0
 have he0:=he.alive hb0
 have hp0:=hp.alive hb0
 have hEC : Hid (errC (checkB geS (⟨4,d,en,tr,pa,ta,na,wh,st,te⟩ : Go.Dol.Obj)) = 0):=Lib.hid (by rw [HC.out]; rfl)
 go_enter Tryz.func29,Tryz.ntmps29
 go_wp2_with fail
 refine (refCheck_calls 4 Ad d cd Ae en ce tr Ap pa cp ta na wh st te _ he0 hp0 hel hpl hns).mono ?_
 rintro e w1 ⟨rfl,hb1⟩
 rw [hEC.out]
 have hB1:=hB0.below hb1 hB0.lt
 have hbw:=hb0.next hb1
 have hd1:=hd0.alive hb1
 have he1:=he0.alive hb1
 have hp1:=hp0.alive hb1
 have hwr : IntKind.u8.wrap 4 = 4:=by rfl
 have hs1 : w.heap.size < w1.heap.size:=hB1.lt
 have hn1 : w.heap.size ≠ w1.heap.size:=by omega
 have hn2 : ¬ w1.heap.size = w.heap.size:=by omega
 have ho1 : (w1.alloc (.cells #[.int .u8 4] 5)).ownsRow w.heap.size 5 1 (.slice (some ⟨w1.heap.size,0,none⟩) 1 1) 1 (bc [4]):=World.ownsRow_lit w1 #[.int .u8 4] 1 hbw.size (by decide) rfl
 have hbo : Below w1.heap.size w1 (w1.alloc (.cells #[.int .u8 4] 5)):=(Below.refl _ _).alloc (Nat.le_refl _) _
 have hb2:=hbw.next hbo
 have hB2:=hB1.alloc (.cells #[.int .u8 4] 5)
 have hd2:=hd1.alive hbo
 have he2:=he1.alive hbo
 have hp2:=hp1.alive hbo
 obtain ⟨c0,c1,c2,c3,c4,c5,c6,c7,c8,c9⟩:=obj_cells hB1
 obtain ⟨hts,hnz,htb⟩:=check4_parts rfl HC.out
 obtain ⟨hw1,hw2,_,_⟩:=told_parts htb
 simp only at hts hnz htb hw1 hw2
 clear htb
 go_wp2_with (at_builtin; refine app8s rfl (.tmp 17) (.tmp 19) rfl w.heap.size _ 1 [4] rfl ho1 ta rfl (by omega) hb2.size ?_)
 intro l1 A1 cc1 w3 e1 ho3 hb3 hg3 i1 i2
 have hl1 : l1.length ≤ 33:=by rw [e1.out]; simp only [List.length_cons,str_len]; omega
 have hB3:=hB2.grown hg3 (fun e => own_ne ho1 hB2 (by decide) e.symm)
 have hbw3:=hb2.trans hb3
 have hr3:=Rd.of_own ho3
 clear c0 c1 c2 c3 c4 c5 c6 c7 c8 c9
 go_wp2_with fail
 have zx : w3.cell? ⟨w.heap.size,6,none⟩ = some (.string na) ∧ w3.cell? ⟨w.heap.size,7,none⟩ = some (.string wh):=⟨by rw [hB3.cell]; rfl,by rw [hB3.cell]; rfl⟩
 refine wp_region_held_drew (S:=fun w' => w'.cell? ⟨w.heap.size,6,none⟩ = some (.string na) ∧ w'.cell? ⟨w.heap.size,7,none⟩ = some (.string wh)) (by kernel_rfl) zx (fun hHeld => ?_)
 refine tk 0 (.slice A1 l1.length cc1) rfl (fun _ _ _ h => h) (Or.inl ⟨by rfl,fun w' hS => ?_⟩) hHeld ?_
 ·obtain ⟨s0,s1⟩:=hS
  go_simp
 try simp only [Act.put,sA,sB,sC,sD,sF]
 refine tk 1 (.pointer (some ⟨w.heap.size,6,none⟩)) rfl (fun _ _ _ h => h) (Or.inl ⟨by rfl,fun w' hS => ?_⟩) hHeld ?_
 ·obtain ⟨s0,s1⟩:=hS
  go_simp
 try simp only [Act.put,sA,sB,sC,sD,sE,sF]
 refine tk 2 (.string na) rfl (fun _ _ _ h => h) (Or.inl ⟨by rfl,fun w' hS => ?_⟩) hHeld ?_
 ·obtain ⟨s0,s1⟩:=hS
  go_simp
 try simp only [Act.put,sA,sB,sC,sD,sE,sF]
 refine tk 4 (.pointer (some ⟨w.heap.size,7,none⟩)) rfl (fun _ _ _ h => h) (Or.inl ⟨by rfl,fun w' hS => ?_⟩) hHeld ?_
 ·obtain ⟨s0,s1⟩:=hS
  go_simp
 try simp only [Act.put,sA,sB,sC,sD,sE,sF]
 refine tk 5 (.string wh) rfl (fun _ _ _ h => h) (Or.inl ⟨by rfl,fun w' hS => ?_⟩) hHeld ?_
 ·obtain ⟨s0,s1⟩:=hS
  go_simp
 try simp only [Act.put,sA,sB,sC,sD,sE,sF]
 refine wpAnyH_ready (rs:=[3]) (by kernel_rfl) (by simp) (AllReadyH.cons (o:=_) rfl (fun K hK => ?_) AllReadyH.nil)
 go_simp
 refine (RefPutText_calls A1 l1 cc1 na w3.drew hr3.drew (by omega)).mono ?_
 rintro e wax ⟨lax,Aax,cax,eax,rfl,oax,bax,_,_⟩
 have Bax:=hB3.drew.below bax hB3.lt
 have rax:=Rd.of_own oax
 have nax : lax.length ≤ l1.length + (9 + 200):=by rw [eax.out,List.length_append]; have:=tx_length (s:=na) (by omega); unfold tx at this; omega
 have zax : wax.cell? ⟨w.heap.size,6,none⟩ = some (.string na) ∧ wax.cell? ⟨w.heap.size,7,none⟩ = some (.string wh):=⟨by rw [Bax.cell]; rfl,by rw [Bax.cell]; rfl⟩
 refine hK.out _ _ zax (fun hHeld => ?_)
 clear hK K
 try simp only [Act.put,sA,sB,sC,sD,sE,sF]
 refine wpAnyH_ready (rs:=[6]) (by kernel_rfl) (by simp) (AllReadyH.cons (o:=_) rfl (fun K hK => ?_) AllReadyH.nil)
 go_simp
 refine (RefPutText_calls Aax lax cax wh wax rax (by omega)).mono ?_
 rintro e wbx ⟨lbx,Abx,cbx,ebx,rfl,obx,bbx,jbx,kbx⟩
 have Bbx:=Bax.below bbx Bax.lt
 have nbx : lbx.length ≤ lax.length + (9 + 1000):=by rw [ebx.out,List.length_append]; have:=tx_length (s:=wh) (by omega); unfold tx at this; omega
 have zbx : wbx.cell? ⟨w.heap.size,6,none⟩ = some (.string na) ∧ wbx.cell? ⟨w.heap.size,7,none⟩ = some (.string wh):=⟨by rw [Bbx.cell]; rfl,by rw [Bbx.cell]; rfl⟩
 refine hK.out _ _ zbx (fun hHeld => ?_)
 clear hK K
 try simp only [Act.put,sA,sB,sC,sD,sE,sF]
 refine tk 7 (.slice Abx lbx.length cbx) rfl (fun _ _ _ h => h) (Or.inl ⟨by rfl,fun w' hS => ?_⟩) hHeld ?_
 ·obtain ⟨s0,s1⟩:=hS
  go_simp
 try simp only [Act.put,sA,sB,sC,sD,sE,sF]
 refine wpAnyH_done (by kernel_rfl) ?_ _
 have btx : Below w3.heap.size w3 wbx:=((Below.refl _ _).drew).trans (Below.trans bax (bbx.mono bax.size))
 have hrx:=Rd.of_own obx
 go_wp2_with fail
 have zy : wbx.cell? ⟨w.heap.size,8,none⟩ = some (.int .i64 st) ∧ wbx.cell? ⟨w.heap.size,9,none⟩ = some (.string te):=⟨by rw [Bbx.cell]; rfl,by rw [Bbx.cell]; rfl⟩
 refine wp_region_held_drew (S:=fun w' => w'.cell? ⟨w.heap.size,8,none⟩ = some (.int .i64 st) ∧ w'.cell? ⟨w.heap.size,9,none⟩ = some (.string te)) (by kernel_rfl) zy (fun hHeld => ?_)
 refine tk 0 (.slice Abx lbx.length cbx) rfl (fun _ _ _ h => h) (Or.inl ⟨by rfl,fun w' hS => ?_⟩) hHeld ?_
 ·obtain ⟨s0,s1⟩:=hS
  go_simp
 try simp only [Act.put,sA,sB,sC,sD,sF]
 refine tk 1 (.pointer (some ⟨w.heap.size,8,none⟩)) rfl (fun _ _ _ h => h) (Or.inl ⟨by rfl,fun w' hS => ?_⟩) hHeld ?_
 ·obtain ⟨s0,s1⟩:=hS
  go_simp
 try simp only [Act.put,sA,sB,sC,sD,sE,sF]
 refine tk 2 (.int .i64 st) rfl (fun _ _ _ h => h) (Or.inl ⟨by rfl,fun w' hS => ?_⟩) hHeld ?_
 ·obtain ⟨s0,s1⟩:=hS
  go_simp
 try simp only [Act.put,sA,sB,sC,sD,sE,sF]
 refine tk 4 (.pointer (some ⟨w.heap.size,9,none⟩)) rfl (fun _ _ _ h => h) (Or.inl ⟨by rfl,fun w' hS => ?_⟩) hHeld ?_
 ·obtain ⟨s0,s1⟩:=hS
  go_simp
 try simp only [Act.put,sA,sB,sC,sD,sE,sF]
 refine tk 5 (.string te) rfl (fun _ _ _ h => h) (Or.inl ⟨by rfl,fun w' hS => ?_⟩) hHeld ?_
 ·obtain ⟨s0,s1⟩:=hS
  go_simp
 try simp only [Act.put,sA,sB,sC,sD,sE,sF]
 refine wpAnyH_ready (rs:=[3]) (by kernel_rfl) (by simp) (AllReadyH.cons (o:=_) rfl (fun K hK => ?_) AllReadyH.nil)
 go_simp
 refine (RefPutNum_calls Abx lbx cbx st wbx.drew hrx.drew (by omega)).mono ?_
 rintro e way ⟨lay,Aay,cay,eay,rfl,oay,bay,_,_⟩
 have Bay:=Bbx.drew.below bay Bbx.lt
 have ray:=Rd.of_own oay
 have nay : lay.length ≤ lbx.length + 9:=by rw [eay.out,List.length_append]; have:=num_length_le 8 (clampN st) (by have:=clampN_le st; unfold mostNum at this; omega); omega
 have zay : way.cell? ⟨w.heap.size,8,none⟩ = some (.int .i64 st) ∧ way.cell? ⟨w.heap.size,9,none⟩ = some (.string te):=⟨by rw [Bay.cell]; rfl,by rw [Bay.cell]; rfl⟩
 refine hK.out _ _ zay (fun hHeld => ?_)
 clear hK K
 try simp only [Act.put,sA,sB,sC,sD,sE,sF]
 refine wpAnyH_ready (rs:=[6]) (by kernel_rfl) (by simp) (AllReadyH.cons (o:=_) rfl (fun K hK => ?_) AllReadyH.nil)
 go_simp
 refine (RefPutText_calls Aay lay cay te way ray (by omega)).mono ?_
 rintro e wby ⟨lby,Aby,cby,eby,rfl,oby,bby,jby,kby⟩
 have Bby:=Bay.below bby Bay.lt
 have nby : lby.length ≤ lay.length + (9 + 1000):=by rw [eby.out,List.length_append]; have:=tx_length (s:=te) (by omega); unfold tx at this; omega
 have zby : wby.cell? ⟨w.heap.size,8,none⟩ = some (.int .i64 st) ∧ wby.cell? ⟨w.heap.size,9,none⟩ = some (.string te):=⟨by rw [Bby.cell]; rfl,by rw [Bby.cell]; rfl⟩
 refine hK.out _ _ zby (fun hHeld => ?_)
 clear hK K
 try simp only [Act.put,sA,sB,sC,sD,sE,sF]
 refine tk 7 (.slice Aby lby.length cby) rfl (fun _ _ _ h => h) (Or.inl ⟨by rfl,fun w' hS => ?_⟩) hHeld ?_
 ·obtain ⟨s0,s1⟩:=hS
  go_simp
 try simp only [Act.put,sA,sB,sC,sD,sE,sF]
 refine wpAnyH_done (by kernel_rfl) ?_ _
 have bty : Below wbx.heap.size wbx wby:=((Below.refl _ _).drew).trans (Below.trans bay (bby.mono bay.size))
 go_wp2_with fail
 go_ret2
 have hbx:=hbw3.next btx
 refine ⟨hbx.next bty,.inl ⟨HC.out,lby,Aby,cby,?_,rfl,oby.base (Nat.le_trans hbx.size bay.size)⟩⟩
 unfold Hid
 rw [eby.out,eay.out,ebx.out,eax.out,e1.out]
 show _ = [4] ++ (ta.data.toList ++ (tx na ++ (tx wh ++ (num (clampN st) ++ tx te))))
 unfold tx
 simp only [List.append_assoc,List.cons_append,List.nil_append]
theorem refEncode2_calls (Ad : Option Addr) (d : List UInt8) (cd : Nat) (Ae : Option Addr) (en : List Ent) (ce : Nat) (tr : ByteArray) (Ap : Option Addr) (pa : List ByteArray) (cp : Nat) (ta na wh : ByteArray) (st : Int) (te : ByteArray) (w : World) (hd : Rd w w.heap.size 1 Ad d.length (bc d)) (he : Rd w w.heap.size 3 Ae en.length (ec en)) (hp : Rd w w.heap.size 1 Ap pa.length (pc pa)) (hel : en.length ≤ 140737488355328) (hpl : pa.length ≤ 140737488355328) (hns : Hid (∀ e ∈ en,e.name.size ≤ maxLen)) (HC : Hid (checkB geS (⟨2,d,en,tr,pa,ta,na,wh,st,te⟩ : Go.Dol.Obj) = true)) :
  Calls Tryz.prog 29 #[.agg #[.int .i64 2,.slice Ad d.length cd,.slice Ae en.length ce,.string tr,.slice Ap pa.length cp,.string ta,.string na,.string wh,.int .i64 st,.string te]] w (RetEnc w (⟨2,d,en,tr,pa,ta,na,wh,st,te⟩ : Go.Dol.Obj)):=by
 have hb0 : Below w.heap.size w (w.alloc (.cells #[.int .i64 2,.slice Ad d.length cd,.slice Ae en.length ce,.string tr,.slice Ap pa.length cp,.string ta,.string na,.string wh,.int .i64 st,.string te] 72)):=(Below.refl _ _).alloc (Nat.le_refl _) _
 have hB0:=Blk.new w 72 (ocells 2 (.slice Ad d.length cd) (.slice Ae en.length ce) tr (.slice Ap pa.length cp) ta na wh st te)
 have hd0:=hd.alive hb0
 have he0:=he.alive hb0
 have hp0:=hp.alive hb0
 have hEC : Hid (errC (checkB geS (⟨2,d,en,tr,pa,ta,na,wh,st,te⟩ : Go.Dol.Obj)) = 0):=Lib.hid (by rw [HC.out]; rfl)
 go_enter Tryz.func29,Tryz.ntmps29
 go_wp2_with fail
 refine (refCheck_calls 2 Ad d cd Ae en ce tr Ap pa cp ta na wh st te _ he0 hp0 hel hpl hns).mono ?_
 rintro e w1 ⟨rfl,hb1⟩
 rw [hEC.out]
 have hB1:=hB0.below hb1 hB0.lt
 have hbw:=hb0.next hb1
 have hd1:=hd0.alive hb1
 have he1:=he0.alive hb1
 have hp1:=hp0.alive hb1
 have hwr : IntKind.u8.wrap 2 = 2:=by rfl
 have hs1 : w.heap.size < w1.heap.size:=hB1.lt
 have hn1 : w.heap.size ≠ w1.heap.size:=by omega
 have hn2 : ¬ w1.heap.size = w.heap.size:=by omega
 have ho1 : (w1.alloc (.cells #[.int .u8 2] 5)).ownsRow w.heap.size 5 1 (.slice (some ⟨w1.heap.size,0,none⟩) 1 1) 1 (bc [2]):=World.ownsRow_lit w1 #[.int .u8 2] 1 hbw.size (by decide) rfl
 have hbo : Below w1.heap.size w1 (w1.alloc (.cells #[.int .u8 2] 5)):=(Below.refl _ _).alloc (Nat.le_refl _) _
 have hb2:=hbw.next hbo
 have hB2:=hB1.alloc (.cells #[.int .u8 2] 5)
 have hd2:=hd1.alive hbo
 have he2:=he1.alive hbo
 have hp2:=hp1.alive hbo
 obtain ⟨c0,c1,c2,c3,c4,c5,c6,c7,c8,c9⟩:=obj_cells hB1
 have heb:=check2_parts rfl HC.out
 simp only at heb
 have hel4:=(entsB_parts heb).2
 have hen:=ents_small heb
 have hcl : Hid (clampN (en.length : Int) = en.length):=by unfold Hid clampN; omega
 clear heb
 go_wp2_with fail
 refine (RefPutNum_calls _ [2] 1 _ _ (Rd.of_own ho1) (by decide)).mono ?_
 rintro e w4 ⟨l2,A2,cc2,e2,rfl,ho4,hb4,i3,i4⟩
 have hB4:=hB2.below hb4 hB2.lt
 have hbw4:=hb2.next hb4
 have ho4':=ho4.base hb2.size
 obtain ⟨T,hTe⟩ : ∃ T,T = [2] ++ num en.length:=⟨_,rfl⟩
 have hT : Hid (l2 = T ++ (en.take 0).flatMap entB):=by
  unfold Hid
  rw [e2.out,hcl.out,hTe]
  simp
 have hTl : T.length ≤ 10:=by
  rw [hTe]
  simp only [List.length_append,List.length_singleton]
  have:=num_length_le 8 en.length (by omega)
  omega
 have HTE:=Lib.hid hTe
 obtain ⟨d0,d1,d2,d3,d4,d5,d6,d7,d8,d9⟩:=obj_cells hB4
 clear c0 c1 c2 c3 c4 c5 c6 c7 c8 c9 hTe e2
 go_wp2_with fail
 clear d0 d1 d2 d3 d4 d5 d6 d7 d8 d9
 go_loopw [4,5] (fun b i wr => REnts w.heap.size T en (ocells 2 (.slice Ad d.length cd) (.slice Ae en.length ce) tr (.slice Ap pa.length cp) ta na wh st te) w b i wr) (fun _ i _ => en.length - (intOf i).toNat)
 case atStart => exact ⟨0,l2,A2,cc2,rfl,rfl,Nat.zero_le _,hT,ho4',i3,i4,hB4,hbw4⟩
 case round =>
  clear hT ho4' hB4 hbw4 i3 i4 ho4 hb4
  obtain ⟨k',l3,A3,c3,rfl,rfl,hk,hT,hown,i3,i4,hB,hbel⟩:=hrel
  obtain ⟨k0,k1,k2,k3,k4,k5,k6,k7,k8,k9⟩:=obj_cells hB
  have hs:=hbel.size
  have f1 : IntKind.i64.wrap ((k' : Int) + 1) = (k' : Int) + 1:=IntWalk.i64_in _ (by omega)
  by_cases h1 : k' < en.length
  ·have d1 : decide ((k' : Int) < (en.length : Int)) = true:=decide_eq_true (by omega)
   have d1' : (k' : Int) < (en.length : Int):=by omega
   have hk0 : (0 : Int) ≤ (k' : Int):=by omega
   have hlen1 : en.length ≤ 9223372036854775807:=by omega
   have hrw:=he.below hbel
   obtain ⟨bb,off,rfl,hbb,hcell⟩:=hrw.at_ (by omega)
   obtain ⟨p0,p1,p2⟩:=ec_get h1
   have q0:=hcell _ _ p0
   have q1 : wr.cell? ⟨bb,off + k' * 3 + 1,none⟩ = _:=hcell _ _ p1
   have q2 : wr.cell? ⟨bb,off + k' * 3 + 2,none⟩ = _:=hcell _ _ p2
   have hpart:=ent_part h1
   have hel':=entB_length en[k']
   obtain ⟨x,hx⟩ : ∃ x,x = en[k']:=⟨_,rfl⟩
   have hsucc : Hid ((en.take (k' + 1)).flatMap entB = (en.take k').flatMap entB ++ entB x):=by unfold Hid; rw [entsN_succ h1,hx]
   rw [← hx] at q0 q1 q2 hpart hel'
   have hl3 : l3.length + x.name.size + 1 + x.id.size ≤ T.length + (en.flatMap entB).length:=by
    have h6:=congrArg List.length hT.out
    rw [List.length_append] at h6
    omega
   obtain ⟨x0,x1,x2⟩:=x
   simp only at q0 q1 q2 hl3
   clear hx hcell p0 p1 p2 hpart hel'
   go_wp2_with fail
   refine (RefPutText_calls A3 l3 c3 x0 wr (Rd.of_own hown) (by omega)).mono ?_
   rintro e w6 ⟨l6,A6,c6,e6,rfl,ho6,hb6,i5,i6⟩
   have hl6 : l6.length ≤ l3.length + 9 + x0.size:=by rw [e6.out,List.length_append]; have:=tx_length (s:=x0) (by omega); unfold tx at this; omega
   have hB6:=hB.below hb6 hB.lt
   have hbb' : bb < wr.heap.size:=by omega
   have q1' : w6.cell? ⟨bb,off + k' * 3 + 1,none⟩ = some (.bool x1):=(hb6.cell (p:=⟨bb,_,none⟩) hbb').trans q1
   have q2' : w6.cell? ⟨bb,off + k' * 3 + 2,none⟩ = some (.string x2):=(hb6.cell (p:=⟨bb,_,none⟩) hbb').trans q2
   clear k0 k1 k2 k3 k4 k5 k6 k7 k8 k9 q0 q1 q2
   obtain ⟨k0,k1,k2,k3,k4,k5,k6,k7,k8,k9⟩:=obj_cells hB6
   cases x1 with
   | true =>
    go_wp2_with (at_builtin; refine push8 rfl (.tmp 69) (.tmp 71) rfl wr.heap.size _ l6.length l6 rfl ho6 rfl (by decide) (by decide) (by omega) hb6.size ?_)
    intro d7 l7 A7 c7 w7 ed7 e7 ho7 hb7 hg7 _ i7 i8
    have hb67:=hb6.trans hb7
    have hB7:=hB6.grown hg7 (fun e => own_ne ho6 hB6 (by decide) e.symm)
    have q2'' : w7.cell? ⟨bb,off + k' * 3 + 2,none⟩ = some (.string x2):=(hb7.cell (p:=⟨bb,_,none⟩) hbb').trans q2'
    have hl7 : l7.length ≤ l6.length + 1:=by rw [e7.out,List.length_append]; exact Nat.le_refl _
    clear k0 k1 k2 k3 k4 k5 k6 k7 k8 k9
    obtain ⟨k0,k1,k2,k3,k4,k5,k6,k7,k8,k9⟩:=obj_cells hB7
    go_wp2_with (at_builtin; refine app8s rfl (.tmp 73) (.tmp 79) rfl wr.heap.size _ l7.length l7 rfl ho7 x2 rfl (by omega) hb67.size ?_)
    intro l8 A8 c8 w8 e8 ho8 hb8 hg8 i9 i10
    go_wp2_with fail
    refine ⟨⟨k' + 1,l8,A8,c8,by go_num,rfl,h1,?_,ho8.base hs,i9,i10,hB7.grown hg8 (fun e => own_ne ho7 hB7 (by decide) e.symm),hbel.trans ((hb67.trans hb8).mono hs)⟩,by simp [intOf]; omega⟩
    have hd : d7 = 1:=byte_of (n:=1) ed7 rfl
    unfold Hid
    rw [e8.out,e7.out,e6.out,hT.out,hsucc.out,hd]
    unfold entB tx
    simp only [List.append_assoc,List.cons_append,List.nil_append,if_true]
   | false =>
    go_wp2_with (at_builtin; refine push8 rfl (.tmp 69) (.tmp 71) rfl wr.heap.size _ l6.length l6 rfl ho6 rfl (by decide) (by decide) (by omega) hb6.size ?_)
    intro d7 l7 A7 c7 w7 ed7 e7 ho7 hb7 hg7 _ i7 i8
    have hb67:=hb6.trans hb7
    have hB7:=hB6.grown hg7 (fun e => own_ne ho6 hB6 (by decide) e.symm)
    have q2'' : w7.cell? ⟨bb,off + k' * 3 + 2,none⟩ = some (.string x2):=(hb7.cell (p:=⟨bb,_,none⟩) hbb').trans q2'
    have hl7 : l7.length ≤ l6.length + 1:=by rw [e7.out,List.length_append]; exact Nat.le_refl _
    clear k0 k1 k2 k3 k4 k5 k6 k7 k8 k9
    obtain ⟨k0,k1,k2,k3,k4,k5,k6,k7,k8,k9⟩:=obj_cells hB7
    go_wp2_with (at_builtin; refine app8s rfl (.tmp 73) (.tmp 79) rfl wr.heap.size _ l7.length l7 rfl ho7 x2 rfl (by omega) hb67.size ?_)
    intro l8 A8 c8 w8 e8 ho8 hb8 hg8 i9 i10
    go_wp2_with fail
    refine ⟨⟨k' + 1,l8,A8,c8,by go_num,rfl,h1,?_,ho8.base hs,i9,i10,hB7.grown hg8 (fun e => own_ne ho7 hB7 (by decide) e.symm),hbel.trans ((hb67.trans hb8).mono hs)⟩,by simp [intOf]; omega⟩
    have hd : d7 = 0:=UInt8.toNat_inj.1 ed7.out
    unfold Hid
    rw [e8.out,e7.out,e6.out,hT.out,hsucc.out,hd]
    unfold entB tx
    simp [List.append_assoc]
  ·have d1 : decide ((k' : Int) < (en.length : Int)) = false:=decide_eq_false (by omega)
   have d1' : ¬ (k' : Int) < (en.length : Int):=by omega
   have hkl : k' = en.length:=by omega
   have hT2 : Hid (l3 = encO (⟨2,d,en,tr,pa,ta,na,wh,st,te⟩ : Go.Dol.Obj)):=by
    unfold Hid
    rw [hT.out,hkl,List.take_length,HTE.out]
    show _ = [2] ++ entsL en
    unfold entsL
    rw [List.append_assoc]
   clear hkl
   go_wp2_with fail
   go_ret2
   exact ⟨hbel,.inl ⟨HC.out,l3,A3,c3,hT2,rfl,hown⟩⟩
theorem refEncode_wrong (k : Int) (Ad : Option Addr) (d : List UInt8) (cd : Nat) (Ae : Option Addr) (en : List Ent) (ce : Nat) (tr : ByteArray) (Ap : Option Addr) (pa : List ByteArray) (cp : Nat) (ta na wh : ByteArray) (st : Int) (te : ByteArray) (w : World) (hd : Rd w w.heap.size 1 Ad d.length (bc d)) (he : Rd w w.heap.size 3 Ae en.length (ec en)) (hp : Rd w w.heap.size 1 Ap pa.length (pc pa)) (hel : en.length ≤ 140737488355328) (hpl : pa.length ≤ 140737488355328) (hns : Hid (∀ e ∈ en,e.name.size ≤ maxLen)) (HC : Hid (checkB geS (⟨k,d,en,tr,pa,ta,na,wh,st,te⟩ : Go.Dol.Obj) = false)) :
  Calls Tryz.prog 29 #[.agg #[.int .i64 k,.slice Ad d.length cd,.slice Ae en.length ce,.string tr,.slice Ap pa.length cp,.string ta,.string na,.string wh,.int .i64 st,.string te]] w fun e w' => e = .returned (.tuple #[.slice none 0 0,.int .i64 1]) ∧ Below w.heap.size w w':=by
 have hb0 : Below w.heap.size w (w.alloc (.cells #[.int .i64 k,.slice Ad d.length cd,.slice Ae en.length ce,.string tr,.slice Ap pa.length cp,.string ta,.string na,.string wh,.int .i64 st,.string te] 72)):=(Below.refl _ _).alloc (Nat.le_refl _) _
 have hB0:=Blk.new w 72 (ocells k (.slice Ad d.length cd) (.slice Ae en.length ce) tr (.slice Ap pa.length cp) ta na wh st te)
 have hd0:=hd.alive hb0
 have he0:=he.alive hb0
 have hp0:=hp.alive hb0
 have hEC : Hid (errC (checkB geS (⟨k,d,en,tr,pa,ta,na,wh,st,te⟩ : Go.Dol.Obj)) = 1):=Lib.hid (by rw [HC.out]; rfl)
 go_enter Tryz.func29,Tryz.ntmps29
 go_wp2_with fail
 refine (refCheck_calls k Ad d cd Ae en ce tr Ap pa cp ta na wh st te _ he0 hp0 hel hpl hns).mono ?_
 rintro e w1 ⟨rfl,hb1⟩
 rw [hEC.out]
 have hB1:=hB0.below hb1 hB0.lt
 have hbw:=hb0.next hb1
 go_wp2_with fail
 go_ret2
 exact ⟨rfl,hbw⟩
theorem refEncode_calls (k : Int) (Ad : Option Addr) (d : List UInt8) (cd : Nat) (Ae : Option Addr) (en : List Ent) (ce : Nat) (tr : ByteArray) (Ap : Option Addr) (pa : List ByteArray) (cp : Nat) (ta na wh : ByteArray) (st : Int) (te : ByteArray) (w : World) (hd : Rd w w.heap.size 1 Ad d.length (bc d)) (he : Rd w w.heap.size 3 Ae en.length (ec en)) (hp : Rd w w.heap.size 1 Ap pa.length (pc pa)) (hel : en.length ≤ 140737488355328) (hpl : pa.length ≤ 140737488355328) (hns : Hid (∀ e ∈ en,e.name.size ≤ maxLen)) :
  Calls Tryz.prog 29 #[.agg #[.int .i64 k,.slice Ad d.length cd,.slice Ae en.length ce,.string tr,.slice Ap pa.length cp,.string ta,.string na,.string wh,.int .i64 st,.string te]] w (RetEnc w (⟨k,d,en,tr,pa,ta,na,wh,st,te⟩ : Go.Dol.Obj)):=by
 cases hc : checkB geS (⟨k,d,en,tr,pa,ta,na,wh,st,te⟩ : Go.Dol.Obj) with
 | false => exact (refEncode_wrong k Ad d cd Ae en ce tr Ap pa cp ta na wh st te w hd he hp hel hpl hns (Lib.hid hc)).mono fun e w' h => ⟨h.2,.inr ⟨hc,h.1⟩⟩
 | true =>
  rcases check_kind hc with h | h | h | h
  ·have h' : k = 1:=h
   subst h'
   exact refEncode1_calls Ad d cd Ae en ce tr Ap pa cp ta na wh st te w hd he hp hel hpl hns (Lib.hid hc)
  ·have h' : k = 2:=h
   subst h'
   exact refEncode2_calls Ad d cd Ae en ce tr Ap pa cp ta na wh st te w hd he hp hel hpl hns (Lib.hid hc)
  ·have h' : k = 3:=h
   subst h'
   exact refEncode3_calls Ad d cd Ae en ce tr Ap pa cp ta na wh st te w hd he hp hel hpl hns (Lib.hid hc)
  ·have h' : k = 4:=h
   subst h'
   exact refEncode4_calls Ad d cd Ae en ce tr Ap pa cp ta na wh st te w hd he hp hel hpl hns (Lib.hid hc)
def Rr (w : World) (B g : Nat) (l : List UInt8) (b : Bool) : Prop :=
 ∃ (A : Option Addr) (c : Nat),Blk w g 127 [.slice A l.length c,.bool b] ∧ Far w B A l ∧ l.length ≤ c ∧ c ≤ maxLen ∧ l.length ≤ 140737488355328 ∧ B ≤ g
theorem Rr.keep {w w' : World} {B g : Nat} {l : List UInt8} {b : Bool} (h : Rr w B g l b) {row : Option Nat} (hg : w.grownBy w' row) (hne : some g ≠ row) (hr : Other w B row) : Rr w' B g l b:=by
 obtain ⟨A,c,hB,hF,h1⟩:=h
 exact ⟨A,c,hB.grown hg hne,hF.keep hg hr,h1⟩
theorem Rr.below {w w' : World} {B g : Nat} {l : List UInt8} {b : Bool} (h : Rr w B g l b) (hb : Below w.heap.size w w') : Rr w' B g l b:=by
 obtain ⟨A,c,hB,hF,h1⟩:=h
 exact ⟨A,c,hB.below hb hB.lt,hF.below hb,h1⟩
theorem Rr.drew {w : World} {B g : Nat} {l : List UInt8} {b : Bool} (h : Rr w B g l b) : Rr w.drew B g l b:=by
 obtain ⟨A,c,hB,hF,h1⟩:=h
 exact ⟨A,c,hB.drew,hF.drew,h1⟩
def RetRr {α : Type} (mk : α → Value) (P : α → Prop) (B g : Nat) (t : Option (α × List UInt8)) (l : List UInt8) (b : Bool) (w : World) (e : Ending) (w' : World) : Prop :=
 ∃ (v : α) (l' : List UInt8) (b' : Bool),e = .returned (mk v) ∧ Rr w' B g l' b' ∧ Hid (Took t b v l' b') ∧ w.grownBy w' (some g) ∧ l'.length ≤ l.length ∧ P v
theorem rrBytes_calls (B g n : Nat) (nI : Int) (hnI : nI = (n : Nat)) (l : List UInt8) (b : Bool) (w : World) (h : Rr w B g l b) :
  Calls Tryz.prog 66 #[.pointer (some ⟨g,0,none⟩),.int .i64 nI] w (RetRr mkS (fun v => v.length ≤ n) B g (takeB n l) l b w):=by
 obtain ⟨A,c,hB,hF,hc,hcm,hl,hBg⟩:=h
 have hO:=Other.blk hB (by decide) hBg
 have k0 : w.cell? ⟨g,0,none⟩ = some (.slice A l.length c):=by rw [hB.cell]; rfl
 have k1 : w.cell? ⟨g,1,none⟩ = some (.bool b):=by rw [hB.cell]; rfl
 have z0:=hB.free 0
 have z1:=hB.free 1
 by_cases hn : l.length < n
 ·have d1 : decide ((l.length : Int) < nI) = true:=decide_eq_true (by omega)
  have HT : Hid (takeB n l = none):=by unfold Hid takeB; rw [if_pos hn]
  clear hnI
  go_enter Tryz.func66,Tryz.ntmps66
  go_wp2_with fail
  go_ret
  have hg : w.grownBy (w.setCell ⟨g,1,none⟩ (.bool true)) (some g):=grown_setCell (World.grownBy.refl w _) 1 _
  exact ⟨[],l,true,rfl,⟨A,c,hB.set 1 (.bool true),hF.keep hg hO,hc,hcm,hl,hBg⟩,Lib.hid (took_none b _ _ HT.out),hg,Nat.le_refl _,Nat.zero_le _⟩
 ·have hn' : n ≤ l.length:=by omega
  have d1 : decide ((l.length : Int) < nI) = false:=decide_eq_false (by omega)
  have HT : Hid (takeB n l = some (l.take n,l.drop n)):=by unfold Hid takeB; rw [if_neg hn]
  obtain ⟨m,em,jm,jm',⟨rm,km,km'⟩,_,sm⟩:=sl_to (k:=n) nI hnI hF.1 hn' hc hcm
  obtain ⟨q,A',c',eq,jq,jq',hq,_,sq,_,sn⟩:=sl_from (k:=n) nI hnI hF.1 hn' hc hcm
  have v1:=conv8f (c:=c) rm
  clear hnI hn
  go_enter Tryz.func66,Tryz.ntmps66
  go_wp2_with fail
  go_ret
  have hg : w.grownBy (w.setCell ⟨g,0,none⟩ (.slice A' q.length c')) (some g):=grown_setCell (World.grownBy.refl w _) 0 _
  have hq2:=hq.2
  refine ⟨m,q,b,rfl,⟨A',c',hB.set 0 (.slice A' q.length c'),(hF.piece hq (Nat.le_refl _) jq sq).keep hg hO,hq2.1,hq2.2,by omega,hBg⟩,Lib.hid (took_some b ?_),hg,by omega,jm⟩
  rw [HT.out,em.out,eq.out]
theorem rrNum_calls (B g : Nat) (l : List UInt8) (b : Bool) (w : World) (h : Rr w B g l b) :
  Calls Tryz.prog 64 #[.pointer (some ⟨g,0,none⟩)] w (RetRr mkN (fun n => n ≤ 4611686018427387903) B g (takeNum l) l b w):=by
 obtain ⟨A,c,hB,hF,hc,hcm,hl,hBg⟩:=h
 have k0 : w.cell? ⟨g,0,none⟩ = some (.slice A l.length c):=by rw [hB.cell]; rfl
 have hgl:=hB.lt
 go_enter Tryz.func64,Tryz.ntmps64
 go_wp2_with fail
 refine (RefTakeNum_calls A l c w hF.1 hl hc).mono ?_
 intro e w1 h1
 rcases ht : takeNum l with _ | ⟨n,q⟩
 ·rw [ht] at h1
  obtain ⟨rfl,hb1⟩:=h1
  have hB1:=hB.below hb1 hgl
  have hO1:=Other.blk hB1 (by decide) hBg
  have k1 : w1.cell? ⟨g,1,none⟩ = some (.bool b):=by rw [hB1.cell]; rfl
  have z0:=hB1.free 0
  have z1:=hB1.free 1
  have k3 : w1.cell? ⟨g,0,none⟩ = some (.slice A l.length c):=by rw [hB1.cell]; rfl
  have HT:=Lib.hid ht
  clear ht k0
  go_wp2_with fail
  go_ret
  have hg : w1.grownBy (w1.setCell ⟨g,1,none⟩ (.bool true)) (some g):=grown_setCell (World.grownBy.refl w1 _) 1 _
  rw [HT.out]
  exact ⟨0,l,true,rfl,⟨A,c,hB1.set 1 (.bool true),(hF.below hb1).keep hg hO1,hc,hcm,hl,hBg⟩,Lib.hid (took_none _ _ _ rfl),grown_step (grown_of_below hb1 _) hg,Nat.le_refl _,by decide⟩
 ·rw [ht] at h1
  obtain ⟨q',A',c',e1,rfl,ho1,hb1,i1,i2⟩:=h1
  have hB1:=hB.below hb1 hgl
  have hO1:=Other.blk hB1 (by decide) hBg
  have k1 : w1.cell? ⟨g,1,none⟩ = some (.bool b):=by rw [hB1.cell]; rfl
  have z0:=hB1.free 0
  have z1:=hB1.free 1
  have k3 : w1.cell? ⟨g,0,none⟩ = some (.slice A l.length c):=by rw [hB1.cell]; rfl
  have HT:=Lib.hid ht
  have hlt:=Lib.hid (takeNum_fewer ht)
  have hn:=Lib.hid ((num_takeNum ht).2)
  have hF1 : Far w1 B A' q':=Far.of_seg (Seg.of_own ho1)
  clear ht k0
  go_wp2_with fail
  go_ret
  have hg : w1.grownBy (w1.setCell ⟨g,0,none⟩ (.slice A' q'.length c')) (some g):=grown_setCell (World.grownBy.refl w1 _) 0 _
  have hq : q'.length < l.length:=by rw [e1.out]; exact hlt.out
  rw [HT.out]
  exact ⟨n,q',b,rfl,⟨A',c',hB1.set 0 (.slice A' q'.length c'),hF1.keep hg hO1,i1,i2,by omega,hBg⟩,Lib.hid (took_some _ (by rw [e1.out])),grown_step (grown_of_below hb1 _) hg,by omega,hn.out⟩
theorem rrText_calls (B g : Nat) (l : List UInt8) (b : Bool) (w : World) (h : Rr w B g l b) :
  Calls Tryz.prog 65 #[.pointer (some ⟨g,0,none⟩)] w (RetRr mkS (fun v => v.length ≤ 1048576) B g (takeT l) l b w):=by
 obtain ⟨A,c,hB,hF,hc,hcm,hl,hBg⟩:=h
 have k0 : w.cell? ⟨g,0,none⟩ = some (.slice A l.length c):=by rw [hB.cell]; rfl
 have hgl:=hB.lt
 go_enter Tryz.func65,Tryz.ntmps65
 go_wp2_with fail
 refine (RefTakeText_far A l c 1048576 w hF.1 hl hc).mono ?_
 intro e w1 h1
 change RetTextF w (takeT l) e w1 at h1
 rcases ht : takeT l with _ | ⟨s,q⟩
 ·rw [ht] at h1
  obtain ⟨rfl,hb1⟩:=h1
  have hB1:=hB.below hb1 hgl
  have hO1:=Other.blk hB1 (by decide) hBg
  have k1 : w1.cell? ⟨g,1,none⟩ = some (.bool b):=by rw [hB1.cell]; rfl
  have z0:=hB1.free 0
  have z1:=hB1.free 1
  have k3 : w1.cell? ⟨g,0,none⟩ = some (.slice A l.length c):=by rw [hB1.cell]; rfl
  have HT:=Lib.hid ht
  clear ht k0
  go_wp2_with fail
  go_ret
  have hg : w1.grownBy (w1.setCell ⟨g,1,none⟩ (.bool true)) (some g):=grown_setCell (World.grownBy.refl w1 _) 1 _
  rw [HT.out]
  exact ⟨[],l,true,rfl,⟨A,c,hB1.set 1 (.bool true),(hF.below hb1).keep hg hO1,hc,hcm,hl,hBg⟩,Lib.hid (took_none _ _ _ rfl),grown_step (grown_of_below hb1 _) hg,Nat.le_refl _,by decide⟩
 ·rw [ht] at h1
  obtain ⟨q',A',c',e1,rfl,hs1,hb1⟩:=h1
  have hB1:=hB.below hb1 hgl
  have hO1:=Other.blk hB1 (by decide) hBg
  have k1 : w1.cell? ⟨g,1,none⟩ = some (.bool b):=by rw [hB1.cell]; rfl
  have z0:=hB1.free 0
  have z1:=hB1.free 1
  have k3 : w1.cell? ⟨g,0,none⟩ = some (.slice A l.length c):=by rw [hB1.cell]; rfl
  have HT:=Lib.hid ht
  have hlt:=Lib.hid (takeT_less ht)
  have hF1 : Far w1 B A' q':=Far.of_seg hs1
  have i1:=hs1.2.1
  have i2:=hs1.2.2.1
  clear ht k0 hs1
  go_wp2_with fail
  go_ret
  have hg : w1.grownBy (w1.setCell ⟨g,0,none⟩ (.slice A' q'.length c')) (some g):=grown_setCell (World.grownBy.refl w1 _) 0 _
  have hq : q'.length ≤ l.length:=by rw [e1.out]; exact hlt.out.1
  rw [HT.out]
  exact ⟨s,q',b,rfl,⟨A',c',hB1.set 0 (.slice A' q'.length c'),hF1.keep hg hO1,i1,i2,by omega,hBg⟩,Lib.hid (took_some _ (by rw [e1.out])),grown_step (grown_of_below hb1 _) hg,by omega,hlt.out.2⟩
end Go.Proofs.YtnaakfnbmeimaaaGreat
