/- The walks of the layer 'pack': are bytes an object's; an object's bytes are few. Conditions: none beyond what each law names. -/
import Derived.Test.YtnaakfnbmeimaaaGreatPackSpec
import Derived.Test.YtnaakfnbmeimaaaGreatObjC
set_option linter.unusedVariables false
namespace Go.Proofs.YtnaakfnbmeimaaaGreat
open Go.RowKit Go.Dol
theorem ents_few {l : List Ent} (h : entsB geS l = true) : (l.flatMap entB).length ≤ 600000:=by
 have h1:=flat_le entB 143 l fun e he => by
  obtain ⟨i,hi,rfl⟩:=List.getElem_of_mem he
  have hx:=(entsB_parts h).1 i hi
  unfold entAt at hx
  rw [List.getElem?_eq_getElem hi] at hx
  simp only [Bool.and_eq_true,decide_eq_true_eq] at hx
  have h0:=part_size hx.1.1
  have h3:=tx_length (s:=l[i].name) (by omega)
  have h4:=str_len l[i].id
  have h5:=hx.1.2
  unfold entB
  rw [List.length_append,List.length_cons,h4]
  omega
 have h2:=(entsB_parts h).2
 have h3 : l.length * 143 ≤ 4096 * 143:=Nat.mul_le_mul_right _ h2
 omega
theorem enc_few {o : Go.Dol.Obj} (h : checkB geS o = true) : (encO o).length ≤ 1048577:=by
 unfold encO
 rw [List.length_cons]
 rcases check_kind h with e | e | e | e
 ·rw [if_pos e]
  have:=check1_parts e h
  omega
 ·rw [if_neg (by omega),if_pos e]
  have h1:=ents_few (check2_parts e h)
  have h3:=num_length_le 8 o.ents.length (by have:=(entsB_parts (check2_parts e h)).2; omega)
  unfold entsL
  rw [List.length_append]
  omega
 ·rw [if_neg (by omega),if_neg (by omega),if_pos e]
  obtain ⟨h1,h2,h3⟩:=check3_parts e h
  have h4:=pars_small h2
  have h6:=num_length_le 8 o.pars.length (by have:=(parsB_parts h2).2; omega)
  have h7:=told_small h3
  have h8:=str_len o.tree
  unfold parsN at h4
  unfold parsL
  simp only [List.length_append]
  omega
 ·rw [if_neg (by omega),if_neg (by omega),if_neg (by omega)]
  obtain ⟨h1,h2,h3⟩:=check4_parts e h
  have h7:=told_small h3
  have h8:=str_len o.target
  have h9:=tx_length (s:=o.name) (by omega)
  simp only [List.length_append]
  omega
theorem obj_few : ∀ r,isObjL geS r = true → r.length ≤ 2097152:=by
 intro r h
 unfold isObjL at h
 cases hd : decO geS r with
 | none => rw [hd] at h; cases h
 | some o =>
  obtain ⟨h1,rfl⟩:=dec_is hd
  have:=enc_few h1
  omega
theorem obj_head {r : List UInt8} (h : isObjL geS r = true) : ∃ k t,r = k :: t:=by
 unfold isObjL at h
 cases hd : decO geS r with
 | none => rw [hd] at h; cases h
 | some o =>
  obtain ⟨h1,rfl⟩:=dec_is hd
  exact ⟨_,_,rfl⟩
set_option maxRecDepth 100000 in
set_option maxHeartbeats 2000000 in
theorem isObject_calls (A : Option Addr) (b : List UInt8) (c : Nat) (w : World) (hr : Rd w w.heap.size 1 A b.length (bc b)) (hc : b.length ≤ c) (hcm : c ≤ maxLen) (hl : b.length ≤ 140737488351232) :
  Calls Tryz.prog 25 #[.slice A b.length c] w fun e w' => e = .returned (.bool (isObjL geS b)) ∧ Below w.heap.size w w':=by
 have hd:=Decode_calls A b c w hr hc hcm hl
 unfold isObjL
 cases h : decO geS b with
 | none =>
  rw [h] at hd
  go_enter Tryz.func25,Tryz.ntmps25
  go_wp2_with (go_at_call 57; refine hd.mono ?_)
  rintro e w1 ⟨rfl,hb1⟩
  go_wp2_with fail
  go_ret
  first | exact ⟨rfl,hb1.alloc hb1.size _⟩ | exact ⟨rfl,(hb1.alloc hb1.size _).drew⟩
 | some o =>
  rw [h] at hd
  go_enter Tryz.func25,Tryz.ntmps25
  go_wp2_with (go_at_call 57; refine hd.mono ?_)
  rintro e w1 ⟨k,Ad,d,cd,Ae,en,ce,tr,Ap,pa,cp,ta,na,wh,st,te,ho,rfl,h1,h2,h3,hb1,h4,h5,h6⟩
  go_wp2_with fail
  go_ret
  first | exact ⟨rfl,hb1.alloc hb1.size _⟩ | exact ⟨rfl,(hb1.alloc hb1.size _).drew⟩
end Go.Proofs.YtnaakfnbmeimaaaGreat
