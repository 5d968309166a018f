/- The walk of the law DiskNone. Conditions: bytes of at most 2^47. -/
import Derived.Test.YtogjlfpoedeooaaNone
import Derived.Test.YtogjlfpoedeooaaDiskAwake
namespace Go.Proofs.Ytogjlfpoedeooaa
open Go.RowKit Go.Dol
set_option linter.unusedVariables false
set_option maxRecDepth 100000 in
set_option maxHeartbeats 4000000 in
theorem diskNone_walk (a b : ByteArray) (A : Option Addr) (l : List UInt8) (cl : Nat) (n : Int) (w : World) (ha : a.size ≤ 140737488351232) (hb : b.size ≤ 140737488351232) (hr : Rd w w.heap.size 1 A l.length (bc l)) (hcl : l.length ≤ cl) (hml : cl ≤ maxLen) (hl : l.length ≤ 140737488351232) (hn : (Lit.int .i64 n).wf = true) :
    Calls Try.prog 9 #[.string a, .string b, .slice A l.length cl, .int .i64 n] w fun e w' => e = .returned (.bool true) ∧ Below w.heap.size w w' := by
  have hAw := awake4_calls w
  clear hr hcl hml hn
  go_enter Try.func9, Try.ntmps9
  go_wp2_with fail
  refine hAw.mono ?_
  rintro e w1 ⟨rfl, hb1⟩
  clear hAw
  go_wp2_with fail
  have hG1 := Blk.new w1 72 [.int .i64 0, .map none, .int .i64 0, .int .i64 0, .int .i64 0, .bool false]
  have hS := Blk.new (w1.alloc (.cells #[.int .i64 0, .map none, .int .i64 0, .int .i64 0, .int .i64 0, .bool false] 72)) 25 [.pointer none, .pointer (some ⟨w1.heap.size, 0, none⟩)]
  have hG := hG1.alloc (.cells #[.pointer none, .pointer (some ⟨w1.heap.size, 0, none⟩)] 25)
  have hbA : Below w1.heap.size w1 ((w1.alloc (.cells #[.int .i64 0, .map none, .int .i64 0, .int .i64 0, .int .i64 0, .bool false] 72)).alloc (.cells #[.pointer none, .pointer (some ⟨w1.heap.size, 0, none⟩)] 25)) := ((Below.refl _ _).alloc (Nat.le_refl _) _).alloc (by simp) _
  rw [World.size_alloc] at hS
  obtain ⟨W, hW⟩ : ∃ W, W = (w1.alloc (.cells #[.int .i64 0, .map none, .int .i64 0, .int .i64 0, .int .i64 0, .bool false] 72)).alloc (.cells #[.pointer none, .pointer (some ⟨w1.heap.size, 0, none⟩)] 25) := ⟨_, rfl⟩
  change Blk ((w1.alloc (.cells #[.int .i64 0, .map none, .int .i64 0, .int .i64 0, .int .i64 0, .bool false] 72)).alloc (.cells #[.pointer none, .pointer (some ⟨w1.heap.size, 0, none⟩)] 25)) _ _ _ at hS
  change Blk ((w1.alloc (.cells #[.int .i64 0, .map none, .int .i64 0, .int .i64 0, .int .i64 0, .bool false] 72)).alloc (.cells #[.pointer none, .pointer (some ⟨w1.heap.size, 0, none⟩)] 25)) _ _ _ at hG
  rw [← hW] at hS hG hbA
  rw [← hW]
  clear hW hG1
  obtain ⟨g, hg⟩ : ∃ g, g = w1.heap.size := ⟨_, rfl⟩
  rw [← hg] at hS hG
  rw [← hg]
  have hb2 := hb1.next hbA
  clear hg hbA
  have hgl := hG.lt
  have hsl := hS.lt
  have hU2 : Unm W (some ⟨g, 0, none⟩) := fun W2 h2 => madeZero W2 g (by rw [h2.cell (p := ⟨g, 1, none⟩) hgl, hG.cell]; rfl)
  go_loopw [12] (fun i wr => ∃ k : Nat, i = .int .i64 k ∧ k ≤ 2 ∧ Below W.heap.size W wr) (fun i _ => 2 - (intOf i).toNat)
  case atStart => exact ⟨0, rfl, Nat.zero_le _, Below.refl _ _⟩
  case round =>
    obtain ⟨k, rfl, hk, hbr⟩ := hrel
    by_cases hlt : k < 2
    · have hd : decide ((k : Int) < 2) = true := decide_eq_true (by omega)
      have hd' : (k : Int) < 2 := by omega
      have hk0 : (0 : Int) ≤ (k : Int) := by omega
      have f1 : IntKind.i64.wrap ((k : Int) + 1) = (k : Int) + 1 := IntWalk.i64_in _ (by omega)
      obtain ⟨p, q0, hU⟩ : ∃ p, wr.cell? ⟨g + 1, 0 + k, none⟩ = some (.pointer p) ∧ Unm wr p := by
        have h2 : k = 0 ∨ k = 1 := by omega
        rcases h2 with rfl | rfl
        · exact ⟨none, by rw [hbr.cell (p := ⟨g + 1, _, none⟩) hsl, hS.cell]; rfl, Unm.nil wr⟩
        · exact ⟨some ⟨g, 0, none⟩, by rw [hbr.cell (p := ⟨g + 1, _, none⟩) hsl, hS.cell]; rfl, hU2.later hbr⟩
      have q1 : wr.cell? ⟨g + 1, k, none⟩ = some (.pointer p) := by rw [← q0, Nat.zero_add]
      have HOn := Lib.hid (OnN_calls hU)
      have HRd := Lib.hid (ReadN_calls hU a)
      have HAp := Lib.hid (AppendN_calls hU a A l.length cl (by omega))
      go_wp2_with (first
        | (go_at_call 37; refine HOn.out.mono ?_; rintro e w3 ⟨rfl, hw3⟩; obtain rfl := hw3.symm)
        | (go_at_call 19; refine HRd.out.mono ?_; rintro e w3 ⟨rfl, hw3⟩; obtain rfl := hw3.symm))
      refine HAp.out.mono ?_
      rintro e w3 ⟨rfl, hb3⟩
      have hU3 := hU.later hb3
      have HRm := Lib.hid (RemoveN_calls hU3 a)
      go_wp2_with fail
      refine HRm.out.mono ?_
      rintro e w4 ⟨rfl, hb4⟩
      have hU4 := hU3.later hb4
      have HRn := Lib.hid (RenameN_calls hU4 a b)
      go_wp2_with fail
      refine HRn.out.mono ?_
      rintro e w5 ⟨rfl, hb5⟩
      have hU5 := hU4.later hb5
      have HSy := Lib.hid (SyncN_calls hU5 a)
      go_wp2_with fail
      refine HSy.out.mono ?_
      rintro e w6 ⟨rfl, hb6⟩
      have hU6 := hU5.later hb6
      have HCu := Lib.hid (CutN_calls hU6 n)
      have HOf := Lib.hid (OffN_calls hU6)
      have HHa := Lib.hid (HasN_calls hU6 a)
      have HFr := Lib.hid (FreeN_calls hU6)
      have HOp := Lib.hid (OpsN_calls hU6)
      have HNa := Lib.hid (NamesN_calls hU6)
      have HDu := Lib.hid (DumpN_calls hU6)
      have hbe := hbr.trans ((((hb3.next hb4).next hb5).next hb6).mono hbr.size)
      go_wp2_with (first
        | (go_at_call 32; refine HCu.out.mono ?_; rintro e w7 ⟨rfl, hw7⟩; obtain rfl := hw7.symm)
        | (go_at_call 35; refine HOf.out.mono ?_; rintro e w7 ⟨rfl, hw7⟩; obtain rfl := hw7.symm)
        | (go_at_call 20; refine HHa.out.mono ?_; rintro e w7 ⟨rfl, hw7⟩; obtain rfl := hw7.symm)
        | (go_at_call 16; refine HFr.out.mono ?_; rintro e w7 ⟨rfl, hw7⟩; obtain rfl := hw7.symm)
        | (go_at_call 21; refine HOp.out.mono ?_; rintro e w7 ⟨rfl, hw7⟩; obtain rfl := hw7.symm)
        | (go_at_call 41; refine HNa.out.mono ?_; rintro e w7 ⟨rfl, hw7⟩; obtain rfl := hw7.symm)
        | (go_at_call 24; refine HDu.out.mono ?_; rintro e w7 ⟨rfl, hw7⟩; obtain rfl := hw7.symm))
      refine ⟨⟨k + 1, by go_num, by omega, hbe⟩, by simp [intOf]; omega⟩
    · have hd : decide ((k : Int) < 2) = false := decide_eq_false (by omega)
      go_wp2_with fail
      go_ret
      exact ⟨rfl, hb2.next hbr⟩
end Go.Proofs.Ytogjlfpoedeooaa
