/- The document's examples, which stand at the head of each statement of layer 'object'. Conditions: none. -/
import Derived.Test.YtcefbhmmijmefaaObj11
import Derived.Lib.SmallJoins
namespace Go.Proofs.Ytcefbhmmijmefaa
open Go.RowKit Go.Dol
set_option linter.unusedVariables false

def id7 : ByteArray := ⟨(List.replicate 32 (7 : UInt8)).toArray⟩
def id8 : ByteArray := ⟨((3 : UInt8) :: List.replicate 32 (7 : UInt8)).toArray⟩
def id9 : ByteArray := ⟨((3 : UInt8) :: (List.replicate 32 (7 : UInt8) ++ [0, 1, 97, 5, 0])).toArray⟩
def ex3 : List UInt8 := 3 :: (List.replicate 32 (7 : UInt8) ++ [0, 1, 97, 5, 0])
theorem id7_calls (w : World) : Calls Try.prog 58 #[.int .u8 7] w fun e w' => e = .returned (.string id7) ∧ Below w.heap.size w w' := id_calls 7 w (by decide)
theorem enc_ex1 : encO ⟨1, [104, 105], [], ⟨#[]⟩, [], ⟨#[]⟩, ⟨#[]⟩, ⟨#[]⟩, 0, ⟨#[]⟩⟩ = [1, 104, 105] := rfl
theorem enc_ex2 : encO ⟨2, [], [], ⟨#[]⟩, [], ⟨#[]⟩, ⟨#[]⟩, ⟨#[]⟩, 0, ⟨#[]⟩⟩ = [2, 0] := by
  have n0 : num 0 = [0] := by rw [num_lt (by decide)]; rfl
  unfold encO entsL
  simp [n0]
theorem enc_ex3 : encO ⟨3, [], [], id7, [], ⟨#[]⟩, ⟨#[]⟩, ⟨#[97]⟩, 5, ⟨#[]⟩⟩ = ex3 := by
  have n0 : num 0 = [0] := by rw [num_lt (by decide)]; rfl
  have n1 : num 1 = [1] := by rw [num_lt (by decide)]; rfl
  have n5 : num 5 = [5] := by rw [num_lt (by decide)]; rfl
  have c5 : clampN 5 = 5 := by decide
  unfold encO parsL toldL tx text
  simp [n0, n1, n5, c5, id7, ex3]
theorem s7 : id7.size = 32 := rfl
theorem s8 : id8.size = 33 := rfl
theorem s_add1 : (⟨#[3]⟩ : ByteArray) ++ id7 = id8 := by decide +kernel
theorem s_add2 : id8 ++ (⟨#[0, 1, 97, 5, 0]⟩ : ByteArray) = id9 := by decide +kernel
theorem s_eq : (ex3 == id9.toList) = true := by
  show (ex3 == (⟨ex3.toArray⟩ : ByteArray).toList) = true
  simp

theorem _root_.Go.Dol.Rd.lit (w : World) (T : TypeId) (fr : Nat × Nat) (l : List UInt8) : Rd (w.alloc (.cells (bc l).toArray T fr)) (w.heap.size + 1) 1 (some ⟨w.heap.size, 0, none⟩) l.length (bc l) := by
  refine ⟨by simp [bc], fun _ => ⟨w.heap.size, 0, rfl, by omega, fun j u hu => ?_⟩⟩
  have := World.cell?_alloc_mark w (bc l).toArray T fr j
  rw [Nat.zero_add, this]
  simpa using hu
/-- What Encode hands back for a known object. -/
def RetEx (w : World) (L : List UInt8) (n : Nat) (e : Ending) (w' : World) : Prop :=
  ∃ (A : Option Addr) (c : Nat), e = .returned (.tuple #[.slice A n c, .int .i64 0]) ∧ w'.ownsRow w.heap.size 5 1 (.slice A n c) n (bc L) ∧ Below w.heap.size w w'
theorem Encode_ex (k : Int) (Ad : Option Addr) (d : List UInt8) (nd cd : Nat) (hnd : d.length = nd) (tr wh : ByteArray) (st : Int) (w : World) (hd : Rd w w.heap.size 1 Ad nd (bc d)) (L : List UInt8) (n : Nat)
    (HC : checkB geS ⟨k, d, [], tr, [], ⟨#[]⟩, ⟨#[]⟩, wh, st, ⟨#[]⟩⟩ = true) (hL : encO ⟨k, d, [], tr, [], ⟨#[]⟩, ⟨#[]⟩, wh, st, ⟨#[]⟩⟩ = L) (hn : L.length = n) :
    Calls Try.prog 39 #[.agg #[.int .i64 k, .slice Ad nd cd, .slice none 0 0, .string tr, .slice none 0 0, .string ⟨#[]⟩, .string ⟨#[]⟩, .string wh, .int .i64 st, .string ⟨#[]⟩]] w (RetEx w L n) := by
  subst hnd
  refine (Encode_calls k Ad d cd none [] 0 tr none [] 0 ⟨#[]⟩ ⟨#[]⟩ wh st ⟨#[]⟩ w hd Rd.nil Rd.nil (by simp) (by simp) (by unfold Hid; simp)).mono ?_
  rintro e w' ⟨hb, ⟨_, l, A, c, el, rfl, ho⟩ | ⟨hf, _⟩⟩
  · rw [el.out, hL, hn] at ho
    rw [el.out, hL, hn]
    exact ⟨A, c, rfl, ho, hb⟩
  · rw [HC] at hf
    cases hf

set_option maxRecDepth 100000 in
set_option maxHeartbeats 4000000 in
theorem awake_calls (w : World) : Calls Try.prog 35 #[] w fun e w' => e = .returned (.bool true) ∧ Below w.heap.size w w' := by
  have kc := fun (w : World) (C : Array Value) (n c : Nat) => Lib.run_convert_bytes_const (P := Try.prog) w 22 5 C n c Try.underlying22 Try.underlying5
  have a1 := s_add1
  have a2 := s_add2
  have a3 := s_eq
  have a4 := s7
  have a5 := s8
  go_enter Try.func35, Try.ntmps35
  go_wp2_with fail
  have hr1 : Rd (w.alloc (.cells #[.int .u8 104, .int .u8 105] 5 (2, 3))) (w.alloc (.cells #[.int .u8 104, .int .u8 105] 5 (2, 3))).heap.size 1 (some ⟨w.heap.size, 0, none⟩) 2 (bc [104, 105]) := (Rd.lit w 5 (2, 3) [104, 105]).more (by simp)
  have hb1 : Below w.heap.size w (w.alloc (.cells #[.int .u8 104, .int .u8 105] 5 (2, 3))) := (Below.refl _ _).alloc (Nat.le_refl _) _
  refine (Encode_ex 1 _ [104, 105] 2 2 rfl ⟨#[]⟩ ⟨#[]⟩ 0 _ hr1 [1, 104, 105] 3 (by decide +kernel) enc_ex1 rfl).mono ?_
  rintro e w2 ⟨A2, c2, rfl, ho2, hb2⟩
  have hw2 := hb1.next hb2
  have r2 := Rd.of_own ho2
  clear hr1 hb1 hb2 ho2
  go_wp2_with fail
  refine (Encode_ex 2 none [] 0 0 rfl ⟨#[]⟩ ⟨#[]⟩ 0 w2 Rd.nil [2, 0] 2 (by decide +kernel) enc_ex2 rfl).mono ?_
  rintro e w3 ⟨A3, c3, rfl, ho3, hb3⟩
  have r3 := Rd.of_own ho3
  have q2 := r2.alive hb3
  have hw3 := hw2.next hb3
  clear hb3 ho3 r2 hw2
  go_wp2_with ((go_at_call 58; refine (id7_calls _).mono ?_; rintro e w4 ⟨rfl, hb4⟩))
  refine (Encode_ex 3 none [] 0 0 rfl id7 ⟨#[97]⟩ 5 w4 Rd.nil ex3 38 (by decide +kernel) enc_ex3 rfl).mono ?_
  rintro e w5 ⟨A5, c5, rfl, ho5, hb5⟩
  have r5 := Rd.of_own ho5
  have hb45 := hb4.next hb5
  have p2 := q2.alive hb45
  have p3 := r3.alive hb45
  have hw5 := hw3.next hb45
  clear hb4 hb5 hb45 ho5 q2 r3 hw3
  go_wp2_with fail
  have hr6 : Rd (w5.alloc (.cells #[.int .u8 5] 5)) (w5.alloc (.cells #[.int .u8 5] 5)).heap.size 1 (some ⟨w5.heap.size, 0, none⟩) 1 (bc [5]) := (Rd.lit w5 5 (0, 0) [5]).more (by simp)
  have hb6 : Below w5.heap.size w5 (w5.alloc (.cells #[.int .u8 5] 5)) := (Below.refl _ _).alloc (Nat.le_refl _) _
  refine (DecodeN_calls _ 5 [] 1 1 _ rfl hr6 (by decide) (by decide) (by decide) (by decide) (by decide) (by decide)).mono ?_
  rintro e w7 ⟨rfl, hb7⟩
  have hb57 := hb6.next hb7
  have s2 := p2.alive hb57
  have s3 := p3.alive hb57
  have s5 := r5.alive hb57
  have hw7 := hw5.next hb57
  clear hr6 hb6 hb7 hb57 p2 p3 r5 hw5
  go_wp2_with fail
  have hb8 : Below w7.heap.size w7 (w7.alloc (.cells #[.int .i64 0, .slice none 0 0, .slice none 0 0, .string ⟨#[]⟩, .slice none 0 0, .string ⟨#[]⟩, .string ⟨#[]⟩, .string ⟨#[]⟩, .int .i64 0, .string ⟨#[]⟩] 43)).drew := ((Below.refl _ _).alloc (Nat.le_refl _) _).drew
  obtain ⟨w8, hw8⟩ : ∃ w8, w8 = (w7.alloc (.cells #[.int .i64 0, .slice none 0 0, .slice none 0 0, .string ⟨#[]⟩, .slice none 0 0, .string ⟨#[]⟩, .string ⟨#[]⟩, .string ⟨#[]⟩, .int .i64 0, .string ⟨#[]⟩] 43)) := ⟨_, rfl⟩
  rw [← hw8] at hb8 ⊢
  clear hw8
  have t2 := s2.alive hb8
  have t3 := s3.alive hb8
  have t5 := s5.alive hb8
  have v2 : (convert 22 9 (.slice A2 3 c2)).run Try.prog w8.drew = .ok (.string ⟨#[1, 104, 105]⟩) w8.drew := conv8f t2
  have v3 : (convert 22 9 (.slice A3 2 c3)).run Try.prog w8.drew = .ok (.string ⟨#[2, 0]⟩) w8.drew := conv8f t3
  have v5 : (convert 22 9 (.slice A5 38 c5)).run Try.prog w8.drew = .ok (.string ⟨ex3.toArray⟩) w8.drew := conv8f t5
  have hbw := hw7.next hb8
  clear s2 s3 s5 hw7 hb8 kc
  go_region_held3 (fun w' => (convert 22 9 (.slice A2 3 c2)).run Try.prog w' = .ok (.string ⟨#[1, 104, 105]⟩) w' ∧ (convert 22 9 (.slice A3 2 c3)).run Try.prog w' = .ok (.string ⟨#[2, 0]⟩) w' ∧ (convert 22 9 (.slice A5 38 c5)).run Try.prog w' = .ok (.string ⟨ex3.toArray⟩) w') (first | exact ⟨v2, v3, v5⟩ | exact ⟨u2, u3, u5⟩) ((first | (go_at_call 58; with_reducible refine (id7_calls _).mono ?_; rintro e w9 ⟨rfl, hb9⟩; have u2 : (convert 22 9 (.slice A2 3 c2)).run Try.prog w9 = .ok (.string ⟨#[1, 104, 105]⟩) w9 := conv8f (t2.alive hb9); have u3 : (convert 22 9 (.slice A3 2 c3)).run Try.prog w9 = .ok (.string ⟨#[2, 0]⟩) w9 := conv8f (t3.alive hb9); have u5 : (convert 22 9 (.slice A5 38 c5)).run Try.prog w9 = .ok (.string ⟨ex3.toArray⟩) w9 := conv8f (t5.alive hb9))))
  all_goals go_wp2_with fail
  all_goals go_ret
  all_goals exact ⟨rfl, hbw.next hb9⟩
end Go.Proofs.Ytcefbhmmijmefaa
