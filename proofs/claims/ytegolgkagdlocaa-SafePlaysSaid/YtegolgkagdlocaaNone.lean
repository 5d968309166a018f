/- The walks of the layer 'disk' at a disk that was never made. Conditions: texts of at most maxLen bytes. -/
import Derived.Test.YtegolgkagdlocaaDisk5
import Derived.Test.YtegolgkagdlocaaDisk14
namespace Go.Proofs.Ytegolgkagdlocaa
open Go.RowKit Go.Dol
set_option linter.unusedVariables false
/-- No disk lies behind this pointer, now and later. -/
def Unm (w : World) (p : Option Addr) : Prop := ∀ W, Below w.heap.size w W → Calls Try.prog 42 #[.pointer p] W fun e w' => e = .returned (.bool false) ∧ w' = W
/-- An answer, and nothing turned but new memory. -/
def RetN (w : World) (v : Value) (e : Ending) (w' : World) : Prop := e = .returned v ∧ Below w.heap.size w w'
theorem Unm.nil (w : World) : Unm w none := fun W _ => madeNil_calls W
theorem map_unmade (w : World) : (binOp .neq 70 (.map none) (.map none)).run Try.prog w = .ok (.bool false) w := run_neq_map_nil w _ _ _ _ Try.underlying70
set_option maxRecDepth 100000 in
set_option maxHeartbeats 800000 in
theorem madeZero (w : World) (g : Nat) (h : w.cell? ⟨g, 1, none⟩ = some (.map none)) : Calls Try.prog 42 #[.pointer (some ⟨g, 0, none⟩)] w fun e w' => e = .returned (.bool false) ∧ w' = w := by
  have hm := map_unmade w
  go_enter Try.func42, Try.ntmps42
  go_wp2_with fail
  go_ret
  exact ⟨rfl, rfl⟩
section
variable {w : World} {p : Option Addr}
theorem Unm.later {W : World} (h : Unm w p) (hb : Below w.heap.size w W) : Unm W p := fun W2 h2 => h W2 (hb.next h2)
theorem Unm.now (h : Unm w p) : Calls Try.prog 42 #[.pointer p] w fun e w' => e = .returned (.bool false) ∧ w' = w := h w (Below.refl _ _)
set_option maxRecDepth 100000 in
set_option maxHeartbeats 800000 in
theorem readyN_calls (h : Unm w p) (A : Option Addr) (n c : Nat) : Calls Try.prog 50 #[.pointer p, .slice A n c] w fun e w' => e = .returned (.int .i64 1) ∧ w' = w := by
  have HM := Lib.hid h.now
  go_enter Try.func50, Try.ntmps50
  go_wp2_with (go_at_call 42; refine HM.out.mono ?_; rintro e w' ⟨rfl, rfl⟩)
  go_ret
  exact ⟨rfl, rfl⟩
set_option maxRecDepth 100000 in
set_option maxHeartbeats 800000 in
theorem thereN_calls (h : Unm w p) (base : Nat) (Ao : Option Addr) (os : List ByteArray) (no co : Nat) (hno : no = os.length) (hos : os.length ≤ 4) (n : ByteArray) (ho : w.ownsRow base 9 1 (.slice Ao no co) no (sc os)) (hb : base ≤ w.heap.size) (hbw : ∀ W, Below base w W → Unm W p) :
    Calls Try.prog 38 #[.pointer p, .string n, .slice Ao no co] w fun e w' => e = .returned (.int .i64 1) ∧ Below base w w' := by
  subst hno
  have hb1 : Below base w (w.alloc (.cells #[.string n] 9)) := (Below.refl _ _).alloc hb _
  have ho1 := ho.alloc (.cells #[.string n] 9)
  have hr1 := Rd.new1 w 9 (.string n)
  have hs1 := hb1.size
  have hbs : base ≤ (w.alloc (.cells #[.string n] 9)).heap.size := by omega
  go_enter Try.func38, Try.ntmps38
  go_wp2_with (at_builtin; refine appVl rfl (.tmp 11) (.tmp 13) 89 9 _ 16 rfl Try.underlying89 info_st rfl base _ os.length (sc os) rfl ho1 _ _ 1 1 [.string n] rfl hr1 (by intro u hu; obtain rfl := List.mem_singleton.1 hu; rfl) (by unfold maxLen; omega) (by omega) hbs ?_)
  intro A2 c2 w2 ho2 hb2 hg2 h3 h4
  have hb02 := hb1.trans hb2
  have HR := Lib.hid (readyN_calls (hbw w2 hb02) A2 (os.length + 1) c2)
  go_wp2_with ((go_at_call 50; refine HR.out.mono ?_; rintro e w' ⟨rfl, rfl⟩))
  go_ret
  exact ⟨rfl, hb02⟩
set_option maxRecDepth 100000 in
set_option maxHeartbeats 800000 in
theorem OnN_calls (h : Unm w p) : Calls Try.prog 29 #[.pointer p] w fun e w' => e = .returned (.tuple #[]) ∧ w' = w := by
  have HM := Lib.hid h.now
  go_enter Try.func29, Try.ntmps29
  go_wp2_with (go_at_call 42; refine HM.out.mono ?_; rintro e w' ⟨rfl, hw'⟩; obtain rfl := hw'.symm)
  first | (go_end0; exact ⟨rfl, rfl⟩) | (refine bodyPost_ret (results_none (by rfl) _ _ _) rfl ?_; exact ⟨rfl, rfl⟩)
set_option maxRecDepth 100000 in
set_option maxHeartbeats 800000 in
theorem ReadN_calls (h : Unm w p) (n : ByteArray) : Calls Try.prog 15 #[.pointer p, .string n] w fun e w' => e = .returned (.tuple #[.slice none 0 0, .int .i64 1]) ∧ w' = w := by
  have HM := Lib.hid h.now
  go_enter Try.func15, Try.ntmps15
  go_wp2_with (go_at_call 42; refine HM.out.mono ?_; rintro e w' ⟨rfl, hw'⟩; obtain rfl := hw'.symm)
  go_ret2
  exact ⟨rfl, rfl⟩
set_option maxRecDepth 100000 in
set_option maxHeartbeats 800000 in
theorem AppendN_calls (h : Unm w p) (n : ByteArray) (A : Option Addr) (l c : Nat) (hl : l ≤ 140737488355328) : Calls Try.prog 18 #[.pointer p, .string n, .slice A l c] w (RetN w (.int .i64 1)) := by
  have hb1 := (Below.refl w.heap.size w).alloc (Nat.le_refl _) (.cells #[.pointer p] 25)
  have hb2 := hb1.alloc hb1.size (.cells #[.string n] 9)
  have hb3 := hb2.alloc hb2.size (.cells #[.slice A l c] 23)
  have hb4 := hb3.alloc hb3.size (.cells #[.string n] 9)
  by_cases hlen : 64 < l
  · have d1 : decide ((l : Int) > 64) = true := decide_eq_true (by omega)
    have d1' : decide ((64 : Int) < (l : Int)) = true := decide_eq_true (by omega)
    have d1n : decide (64 < l) = true := decide_eq_true (by omega)
    clear hlen
    go_enter Try.func18, Try.ntmps18
    go_wp2_with fail
    go_ret
    exact ⟨rfl, hb3⟩
  · have d1 : decide ((l : Int) > 64) = false := decide_eq_false (by omega)
    have d1' : decide ((64 : Int) < (l : Int)) = false := decide_eq_false (by omega)
    have d1n : decide (64 < l) = false := decide_eq_false (by omega)
    have HR := Lib.hid (readyN_calls (h.later hb4) (some ⟨w.heap.size + 1 + 1 + 1, 0, none⟩) 1 1)
    clear hlen
    go_enter Try.func18, Try.ntmps18
    go_wp2_with ((go_at_call 50; refine HR.out.mono ?_; rintro e w' ⟨rfl, rfl⟩))
    go_ret
    exact ⟨rfl, hb4⟩
set_option maxRecDepth 100000 in
set_option maxHeartbeats 800000 in
theorem RemoveN_calls (h : Unm w p) (n : ByteArray) : Calls Try.prog 11 #[.pointer p, .string n] w (RetN w (.int .i64 1)) := by
  have hb1 := (Below.refl w.heap.size w).alloc (Nat.le_refl _) (.cells #[.pointer p] 25)
  have hb2 := hb1.alloc hb1.size (.cells #[.string n] 9)
  have hT := thereN_calls (h.later hb2) ((w.alloc (.cells #[.pointer p] 25)).alloc (.cells #[.string n] 9)).heap.size none [] 0 0 rfl (by simp) n (World.ownsRow_nil _ _ _ _) (Nat.le_refl _) (fun W hW => (h.later hb2).later hW)
  have HT := Lib.hid hT
  clear hT
  go_enter Try.func11, Try.ntmps11
  go_wp2_with ((go_at_call 38; refine HT.out.mono ?_; rintro e w' ⟨rfl, hb'⟩))
  go_ret
  exact ⟨rfl, hb2.next hb'⟩
set_option maxRecDepth 100000 in
set_option maxHeartbeats 800000 in
theorem SyncN_calls (h : Unm w p) (n : ByteArray) : Calls Try.prog 45 #[.pointer p, .string n] w (RetN w (.int .i64 1)) := by
  have HT := Lib.hid (thereN_calls h w.heap.size none [] 0 0 rfl (by simp) n (World.ownsRow_nil _ _ _ _) (Nat.le_refl _) (fun W hW => h.later hW))
  go_enter Try.func45, Try.ntmps45
  go_wp2_with ((go_at_call 38; refine HT.out.mono ?_; rintro e w' ⟨rfl, hb'⟩))
  go_ret
  exact ⟨rfl, hb'⟩
set_option maxRecDepth 100000 in
set_option maxHeartbeats 800000 in
theorem RenameN_calls (h : Unm w p) (a b : ByteArray) : Calls Try.prog 46 #[.pointer p, .string a, .string b] w (RetN w (.int .i64 1)) := by
  have hb1 := (Below.refl w.heap.size w).alloc (Nat.le_refl _) (.cells #[.pointer p] 25)
  have hb2 := hb1.alloc hb1.size (.cells #[.string a] 9)
  have hb3 := hb2.alloc hb2.size (.cells #[.string b] 9)
  have hb4 := hb3.alloc hb3.size (.cells #[.string b] 9)
  have hO := own_new (((w.alloc (.cells #[.pointer p] 25)).alloc (.cells #[.string a] 9)).alloc (.cells #[.string b] 9)) 9 (w.heap.size + 1 + 1 + 1) 1 [.string b] rfl (by simp) (by decide)
  rw [World.size_alloc, World.size_alloc, World.size_alloc] at hO
  have hs : ∀ W, Below (w.heap.size + 1 + 1 + 1) ((((w.alloc (.cells #[.pointer p] 25)).alloc (.cells #[.string a] 9)).alloc (.cells #[.string b] 9)).alloc (.cells #[.string b] 9)) W → Below w.heap.size w W := fun W hW => hb4.trans (hW.mono (by omega))
  have hT := thereN_calls (h.later hb4) (w.heap.size + 1 + 1 + 1) (some ⟨w.heap.size + 1 + 1 + 1, 0, none⟩) [b] 1 1 rfl (by simp) a hO (by simp) (fun W hW => h.later (hs W hW))
  have HT := Lib.hid hT
  clear hT hO
  go_enter Try.func46, Try.ntmps46
  go_wp2_with ((go_at_call 38; refine HT.out.mono ?_; rintro e w' ⟨rfl, hb'⟩))
  go_ret
  exact ⟨rfl, hs _ hb'⟩
set_option maxRecDepth 100000 in
set_option maxHeartbeats 800000 in
theorem CutN_calls (h : Unm w p) (k : Int) : Calls Try.prog 27 #[.pointer p, .int .i64 k] w fun e w' => e = .returned (.int .i64 1) ∧ w' = w := by
  have HM := Lib.hid h.now
  go_enter Try.func27, Try.ntmps27
  go_wp2_with (go_at_call 42; refine HM.out.mono ?_; rintro e w' ⟨rfl, hw'⟩; obtain rfl := hw'.symm)
  go_ret
  exact ⟨rfl, rfl⟩
set_option maxRecDepth 100000 in
set_option maxHeartbeats 800000 in
theorem OffN_calls (h : Unm w p) : Calls Try.prog 34 #[.pointer p] w fun e w' => e = .returned (.bool true) ∧ w' = w := by
  have HM := Lib.hid h.now
  go_enter Try.func34, Try.ntmps34
  go_wp2_with (go_at_call 42; refine HM.out.mono ?_; rintro e w' ⟨rfl, hw'⟩; obtain rfl := hw'.symm)
  go_ret
  exact ⟨rfl, rfl⟩
set_option maxRecDepth 100000 in
set_option maxHeartbeats 800000 in
theorem HasN_calls (h : Unm w p) (n : ByteArray) : Calls Try.prog 16 #[.pointer p, .string n] w fun e w' => e = .returned (.bool false) ∧ w' = w := by
  have HM := Lib.hid h.now
  go_enter Try.func16, Try.ntmps16
  go_wp2_with (go_at_call 42; refine HM.out.mono ?_; rintro e w' ⟨rfl, hw'⟩; obtain rfl := hw'.symm)
  go_ret
  exact ⟨rfl, rfl⟩
set_option maxRecDepth 100000 in
set_option maxHeartbeats 800000 in
theorem FreeN_calls (h : Unm w p) : Calls Try.prog 12 #[.pointer p] w fun e w' => e = .returned (.int .i64 0) ∧ w' = w := by
  have HM := Lib.hid h.now
  go_enter Try.func12, Try.ntmps12
  go_wp2_with (go_at_call 42; refine HM.out.mono ?_; rintro e w' ⟨rfl, hw'⟩; obtain rfl := hw'.symm)
  go_ret
  exact ⟨rfl, rfl⟩
set_option maxRecDepth 100000 in
set_option maxHeartbeats 800000 in
theorem OpsN_calls (h : Unm w p) : Calls Try.prog 17 #[.pointer p] w fun e w' => e = .returned (.int .i64 0) ∧ w' = w := by
  have HM := Lib.hid h.now
  go_enter Try.func17, Try.ntmps17
  go_wp2_with (go_at_call 42; refine HM.out.mono ?_; rintro e w' ⟨rfl, hw'⟩; obtain rfl := hw'.symm)
  go_ret
  exact ⟨rfl, rfl⟩
set_option maxRecDepth 100000 in
set_option maxHeartbeats 800000 in
theorem NamesN_calls (h : Unm w p) : Calls Try.prog 53 #[.pointer p] w fun e w' => e = .returned (.slice none 0 0) ∧ w' = w := by
  have HM := Lib.hid h.now
  go_enter Try.func53, Try.ntmps53
  go_wp2_with (go_at_call 42; refine HM.out.mono ?_; rintro e w' ⟨rfl, hw'⟩; obtain rfl := hw'.symm)
  go_ret
  exact ⟨rfl, rfl⟩
set_option maxRecDepth 100000 in
set_option maxHeartbeats 800000 in
theorem DumpN_calls (h : Unm w p) : Calls Try.prog 20 #[.pointer p] w fun e w' => e = .returned (.slice none 0 0) ∧ w' = w := by
  have HN := Lib.hid (NamesN_calls h)
  have hd : decide ((0 : Int) < ((0 : Nat) : Int)) = false := by decide
  go_enter Try.func20, Try.ntmps20
  go_wp2_with ((go_at_call 53; refine HN.out.mono ?_; rintro e w' ⟨rfl, hw'⟩; obtain rfl := hw'.symm))
  go_loopw [3, 9] (fun q i wr => q = .slice none 0 0 ∧ i = .int .i64 0 ∧ w = wr) (fun _ i _ => 0)
  case atStart => exact ⟨rfl, rfl, rfl⟩
  case round =>
    obtain ⟨rfl, rfl, hwr⟩ := hrel
    obtain rfl := hwr
    go_wp2_with fail
    go_ret
    exact ⟨rfl, rfl⟩
end
end Go.Proofs.Ytegolgkagdlocaa
