/- The walks of bytes.Equal, HasPrefix and CutPrefix. Conditions: bytes of at most 2^47. -/
import Derived.Test.YtnaakfnbmeimaaaGreatWordsA
import Derived.Test.YtnaakfnbmeimaaaGreatObjA
import Derived.Deep.DeepCutAuto
import Derived.Lib.SlBytesConst
set_option maxRecDepth 100000
set_option maxHeartbeats 800000
set_option linter.unusedVariables false
namespace Go.Proofs.YtnaakfnbmeimaaaGreat
open Go.RowKit Go.Dol
def mgL : List UInt8:=[68,80,75,49]
theorem magic_conv (W : World) : (convert 25 25 (.slice (some ⟨W.heap.size,0,none⟩) 4 4)).run Tryz.prog (W.alloc (.cells #[.int .u8 68,.int .u8 80,.int .u8 75,.int .u8 49] 5)) = .ok (.slice (some ⟨W.heap.size,0,none⟩) 4 4) (W.alloc (.cells #[.int .u8 68,.int .u8 80,.int .u8 75,.int .u8 49] 5 (4,5))):=Lib.run_convert_bytes_const (P:=Tryz.prog) W 25 5 #[.int .u8 68,.int .u8 80,.int .u8 75,.int .u8 49] 4 4 Tryz.underlying25 Tryz.underlying5
theorem magic_rd (W : World) : Rd (W.alloc (.cells #[.int .u8 68,.int .u8 80,.int .u8 75,.int .u8 49] 5 (4,5))) (W.heap.size + 1) 1 (some ⟨W.heap.size,0,none⟩) 4 (bc mgL):=by
 refine ⟨rfl,fun _ => ⟨W.heap.size,0,rfl,by omega,fun j u hu => ?_⟩⟩
 rw [Nat.zero_add]
 have h:=cell_of_row (W.alloc (.cells #[.int .u8 68,.int .u8 80,.int .u8 75,.int .u8 49] 5 (4,5))) W.heap.size j #[.int .u8 68,.int .u8 80,.int .u8 75,.int .u8 49] 5 (4,5) (heap_alloc_new W _)
 rw [h]
 rw [← hu]
 simp [bc,mgL]
theorem str_eqT (a b : List UInt8) : ((⟨a.toArray⟩ : ByteArray).toList == (⟨b.toArray⟩ : ByteArray).toList) = decide (a = b):=by
 by_cases h : a = b
 ·subst h; simp
 ·rw [decide_eq_false h]
  refine beq_eq_false_iff_ne.2 fun e => h ?_
  have:=str_inj e
  simpa using this
theorem bytesEqual_calls (A : Option Addr) (a : List UInt8) (n c : Nat) (A2 : Option Addr) (b : List UInt8) (n2 c2 : Nat) (w : World) (B B2 : Nat) (hr : Rd w B 1 A n (bc a)) (hr2 : Rd w B2 1 A2 n2 (bc b)) :
  Calls Tryz.prog 105 #[.slice A n c,.slice A2 n2 c2] w fun e w' => e = .returned (.bool (decide (a = b))) ∧ w' = w:=by
 have h1:=conv8f (c:=c) hr
 have h2:=conv8f (c:=c2) hr2
 have h3:=str_eqT a b
 have hd : (a == b) = decide (a = b):=by by_cases h : a = b <;> simp [h]
 go_enter Tryz.func105,Tryz.ntmps105
 go_wp2_with fail
 go_ret
 exact ⟨rfl,rfl⟩
theorem hasPrefix_calls (A : Option Addr) (a : List UInt8) (c : Nat) (A2 : Option Addr) (b : List UInt8) (c2 : Nat) (w : World) (B B2 : Nat) (hr : Rd w B 1 A a.length (bc a)) (hr2 : Rd w B2 1 A2 b.length (bc b)) (hc : a.length ≤ c) (hcm : c ≤ maxLen) :
  Calls Tryz.prog 75 #[.slice A a.length c,.slice A2 b.length c2] w fun e w' => e = .returned (.bool (decide (a.take b.length = b))) ∧ w' = w:=by
 by_cases h : b.length ≤ a.length
 ·have d1 : decide ((b.length : Int) ≤ (a.length : Int)) = true:=decide_eq_true (by omega)
  obtain ⟨m,hm,hm1,hm2,hmp,_,hsl⟩:=sl_to (k:=b.length) (b.length : Int) rfl hr h hc hcm
  have he:=Lib.hid (bytesEqual_calls A m m.length c A2 b b.length c2 w _ _ hmp.1 hr2)
  rw [hm.out] at he
  go_enter Tryz.func75,Tryz.ntmps75
  go_wp2_with (go_at_call 105; rw [← hm.out] at he; refine he.out.mono ?_; rintro e w' ⟨rfl,hw⟩; obtain rfl:=hw.symm)
  go_ret
  rw [hm.out]
  exact ⟨rfl,rfl⟩
 ·have d1 : decide ((b.length : Int) ≤ (a.length : Int)) = false:=decide_eq_false (by omega)
  have hn : decide (a.take b.length = b) = false:=decide_eq_false fun e => h (by have:=congrArg List.length e; rw [List.length_take] at this; omega)
  rw [hn]
  go_enter Tryz.func75,Tryz.ntmps75
  go_wp2_with fail
  go_ret
  exact ⟨rfl,rfl⟩
def RetCut (w : World) (B : Nat) (A : Option Addr) (a : List UInt8) (c : Nat) (b : List UInt8) (e : Ending) (w' : World) : Prop :=
 if a.take b.length = b then ∃ (m : List UInt8) (A' : Option Addr) (c' : Nat),Hid (m = a.drop b.length) ∧ e = .returned (.tuple #[.slice A' m.length c',.bool true]) ∧ Piece w B m A' c' ∧ w' = w
 else e = .returned (.tuple #[.slice A a.length c,.bool false]) ∧ w' = w
theorem cutPrefix_calls (A : Option Addr) (a : List UInt8) (c : Nat) (A2 : Option Addr) (b : List UInt8) (c2 : Nat) (w : World) (B B2 : Nat) (hr : Rd w B 1 A a.length (bc a)) (hr2 : Rd w B2 1 A2 b.length (bc b)) (hc : a.length ≤ c) (hcm : c ≤ maxLen) :
  Calls Tryz.prog 37 #[.slice A a.length c,.slice A2 b.length c2] w (RetCut w B A a c b):=by
 have hp:=hasPrefix_calls A a c A2 b c2 w B B2 hr hr2 hc hcm
 by_cases h : a.take b.length = b
 ·rw [decide_eq_true h] at hp
  have HP:=Lib.hid hp
  clear hp
  have hl : b.length ≤ a.length:=by have:=congrArg List.length h; rw [List.length_take] at this; omega
  obtain ⟨m,A',c',hm,hm1,hm2,hmp,_,_,_,hsl⟩:=sl_from (k:=b.length) (b.length : Int) rfl hr hl hc hcm
  have HI : Hid (a.take b.length = b):=h
  have HM:=Lib.hid hmp
  clear h hmp
  go_enter Tryz.func37,Tryz.ntmps37
  go_wp2_with (go_at_call 75; refine HP.out.mono ?_; rintro e w' ⟨rfl,hw⟩; obtain rfl:=hw.symm)
  go_ret2
  unfold RetCut
  rw [if_pos HI.out]
  exact ⟨m,A',c',hm,rfl,HM.out,rfl⟩
 ·rw [decide_eq_false h] at hp
  have HP:=Lib.hid hp
  have HI : Hid (¬ a.take b.length = b):=h
  clear hp h
  go_enter Tryz.func37,Tryz.ntmps37
  go_wp2_with (go_at_call 75; refine HP.out.mono ?_; rintro e w' ⟨rfl,hw⟩; obtain rfl:=hw.symm)
  go_ret2
  unfold RetCut
  rw [if_neg HI.out]
  exact ⟨rfl,rfl⟩
end Go.Proofs.YtnaakfnbmeimaaaGreat
