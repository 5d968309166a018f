/- The walks of the document's Get and Ids. Conditions: at most 4096 parts. -/
import Derived.Test.YtnaakfnbmeimaaaGreatRPk3
import Derived.Test.YtnaakfnbmeimaaaGreatSrt
import Derived.Test.YtnaakfnbmeimaaaGreatPackIdsLaw
import Derived.Test.YtnaakfnbmeimaaaGreatPckIds
import Derived.Deep.DeepCutAuto
set_option maxRecDepth 100000
set_option maxHeartbeats 1600000
set_option linter.unusedVariables false
namespace Go.Proofs.YtnaakfnbmeimaaaGreat
open Go.RowKit Go.Dol
theorem look_atR : ∀ {l : List PtA} {k : Nat} {x : PtA} {s : List UInt8},l[k]? = some x → x.p.id = s → (∀ j,j < k → ∀ y,l[j]? = some y → y.p.id ≠ s) → lookP (ptp l) s = some x.p
 | [],_,_,_,h,_,_ => by simp at h
 | y :: l,0,x,s,h,e,_ => by
  obtain rfl : y = x:=by simpa using h
  unfold lookP ptp
  rw [List.map_cons,List.find?_cons,decide_eq_true e]
 | y :: l,k + 1,x,s,h,e,hn => by
  have h0:=hn 0 (by omega) y rfl
  have ih:=look_atR (l:=l) (k:=k) (x:=x) (s:=s) (by simpa using h) e (fun j hj z hz => hn (j + 1) (by omega) z (by simpa using hz))
  unfold lookP ptp at ih ⊢
  rw [List.map_cons,List.find?_cons,decide_eq_false h0]
  exact ih
theorem look_noR {l : List PtA} {s : List UInt8} (h : ∀ j,j < l.length → ∀ y,l[j]? = some y → y.p.id ≠ s) : lookP (ptp l) s = none:=by
 unfold lookP
 rw [List.find?_eq_none]
 intro p hp
 obtain ⟨x,hx,rfl⟩:=List.mem_map.1 hp
 obtain ⟨j,hj⟩:=List.getElem?_of_mem hx
 simp only [decide_eq_true_eq]
 exact h j (List.getElem?_eq_some_iff.1 hj).1 x hj
def GetRRel (l : List PtA) (s : List UInt8) (w : World) (i : Value) (wr : World) : Prop:=∃ k : Nat,i = .int .i64 k ∧ k ≤ l.length ∧ Hid (∀ j,j < k → ∀ y,l[j]? = some y → y.p.id ≠ s) ∧ w = wr
theorem refGet_calls (A : Option Addr) (l : List PtA) (c : Nat) (s : ByteArray) (w : World) (B : Nat) (hr : Rd w B 5 A l.length (rpc l)) (hl : l.length ≤ 4096) (hf : ∀ x ∈ l,Rd w w.heap.size 1 x.A x.p.raw.length (bc x.p.raw) ∧ x.p.raw.length ≤ 140737488351232) (hs : s.size ≤ maxLen) :
  Calls Tryz.prog 19 #[.slice A l.length c,.string s] w (RetGet w (getP (ptp l) s)):=by
 by_cases h32 : s.size = 32
 ·have d0 : ((s.size : Int) != 32) = false:=by simp; omega
  obtain ⟨r,hre⟩ : ∃ r,r = getP (ptp l) s:=⟨_,rfl⟩
  rw [← hre]
  have hg1 : Hid (lookP (ptp l) s.data.toList = none → r = .error 6):=fun h => by rw [hre]; unfold getP; rw [if_pos h32,h]
  have hg2 : Hid (∀ p,lookP (ptp l) s.data.toList = some p → r = .ok p.raw):=fun p h => by rw [hre]; unfold getP; rw [if_pos h32,h]
  clear hre h32
  go_enter Tryz.func19,Tryz.ntmps19
  go_wp2_with fail
  go_loopw [6] (fun i wr => GetRRel l s.data.toList w i wr) (fun i _ => l.length - (intOf i).toNat)
  case atStart => exact ⟨0,rfl,Nat.zero_le _,(fun j hj => by omega),rfl⟩
  case round =>
   obtain ⟨k,rfl,hk,hn,hwr⟩:=hrel
   subst hwr
   have f1 : IntKind.i64.wrap ((k : Int) + 1) = (k : Int) + 1:=IntWalk.i64_in _ (by omega)
   by_cases h1 : k < l.length
   ·have d1 : decide ((k : Int) < (l.length : Int)) = true:=decide_eq_true (by omega)
    have d1n : decide (k < l.length) = true:=decide_eq_true h1
    have d1' : (k : Int) < (l.length : Int):=by omega
    have hk0 : (0 : Int) ≤ (k : Int):=by omega
    obtain ⟨x,hx⟩ : ∃ x,l[k]? = some x:=⟨l[k],List.getElem?_eq_getElem h1⟩
    obtain ⟨bb,off,rfl,hbb,hcell⟩:=hr.at_ (by omega)
    have c0 : w.cell? ⟨bb,off + k * 5,none⟩ = some (.string (idS x.p.id)):=hcell (k * 5 + 0) _ (rpc_get hx 0 (by omega))
    have c4 : w.cell? ⟨bb,off + k * 5 + 4,none⟩ = some (.slice x.A x.p.raw.length x.c):=hcell (k * 5 + 4) _ (rpc_get hx 4 (by omega))
    obtain ⟨xr,xl⟩:=hf x (List.mem_of_getElem? hx)
    obtain ⟨t,ht⟩ : ∃ t,t = idS x.p.id:=⟨_,rfl⟩
    rw [← ht] at c0
    by_cases h3 : t = s
    ·have hlk : Hid (lookP (ptp l) s.data.toList = some x.p):=look_atR hx (by rw [← h3,ht]; simp [idS]) hn.out
     subst h3
     have hO : (w.alloc (.cells #[] 5)).ownsRow w.heap.size 5 1 (.slice (some ⟨w.heap.size,0,none⟩) 0 0) 0 (bc []) :=
      ⟨rfl,.inr ⟨w.heap.size,0,#[],rfl,Nat.le_refl _,heap_alloc_new w _,Nat.le_refl _,Nat.zero_le _,rfl,rfl⟩⟩
     have hb1 : Below w.heap.size w (w.alloc (.cells #[] 5)):=(Below.refl _ _).alloc (Nat.le_refl _) _
     have c4a : (w.alloc (.cells #[] 5)).cell? ⟨bb,off + k * 5 + 4,none⟩ = some (.slice x.A x.p.raw.length x.c):=(hb1.cell (p:=⟨bb,off + k * 5 + 4,none⟩) (by show bb < _; exact World.block_lt_of_cell? w _ c4)).trans c4
     clear ht hcell hn hx
     go_wp2_with (at_builtin; refine app8 rfl (.tmp 23) (.tmp 28) rfl w.heap.size _ 0 [] rfl hO w.heap.size x.A x.p.raw.length x.c x.p.raw rfl (xr.below hb1) (by omega) (by simp) ?_; intro l5 A5 c5 v5 hl5 ho5 hb5 hg5 hO5 i5 i6)
     go_ret2
     rw [hg2.out _ hlk.out]
     exact ⟨hb1.trans hb5,l5,A5,c5,hl5,rfl,ho5,i5,i6⟩
    ·have hne : (t.toList == s.toList) = false:=beq_eq_false_iff_ne.2 fun e => h3 (str_inj e)
     have hn2 : Hid (∀ j,j < k + 1 → ∀ y,l[j]? = some y → y.p.id ≠ s.data.toList):=fun j hj y hy e => by
      by_cases hjk : j = k
      ·rw [hjk,hx] at hy
       obtain rfl:=Option.some.inj hy
       exact h3 (by rw [ht]; exact idS_eq.2 e)
      ·exact hn.out j (by omega) y hy e
     clear ht hcell hn hx h3
     go_wp2_with fail
     exact ⟨⟨k + 1,by go_num,by omega,hn2,rfl⟩,by simp [intOf]; omega⟩
   ·have d1 : decide ((k : Int) < (l.length : Int)) = false:=decide_eq_false (by omega)
    have d1n : decide (k < l.length) = false:=decide_eq_false h1
    have d1' : ¬ (k : Int) < (l.length : Int):=by omega
    have hlk : Hid (lookP (ptp l) s.data.toList = none):=look_noR fun j hj => hn.out j (by omega)
    clear hn
    go_wp2_with fail
    go_ret2
    rw [hg1.out hlk.out]
    exact ⟨Below.refl _ _,rfl⟩
 ·have d0 : ((s.size : Int) != 32) = true:=by simp; omega
  have hg : getP (ptp l) s = .error 1:=by unfold getP; rw [if_neg h32]
  rw [hg]
  clear hg
  go_enter Tryz.func19,Tryz.ntmps19
  go_wp2_with fail
  go_ret2
  exact ⟨Below.refl _ _,rfl⟩
def idtR (l : List PtA) : List ByteArray:=l.map fun x => idS x.p.id
theorem srt_ids {l : List PtA} (hn : ((ptp l).map (·.id)).Nodup) : srtS (idtR l) = idsL (ptp l):=by
 have inj : ∀ a b : List UInt8,idS a = idS b → a = b:=fun a b e => by
  have:=congrArg (fun x : ByteArray => x.data.toList) e
  simpa [idS] using this
 have e1 : idtR l = ((ptp l).map (·.id)).map idS:=by simp [idtR,ptp]
 have hn2 : (idtR l).Nodup:=by
  rw [e1]
  exact List.Pairwise.map _ (fun a b h e => h (inj a b e)) hn
 obtain ⟨h1,h2⟩:=srtS_ok hn2
 refine h1.same ?_ fun x => ?_
 ·unfold Strict
  rw [List.pairwise_iff_getElem]
  have tr : ∀ a b c : List UInt8,decide (a ≤ b) = true → decide (b ≤ c) = true → decide (a ≤ c) = true:=fun a b c h1 h2 => decide_eq_true (List.le_trans (of_decide_eq_true h1) (of_decide_eq_true h2))
  have tl : ∀ a b : List UInt8,(decide (a ≤ b) || decide (b ≤ a)) = true:=fun a b => by
   rcases List.le_total a b with h | h <;> simp [h]
  have hp:=List.pairwise_mergeSort tr tl ((ptp l).map (·.id))
  have hd : (sortL ((ptp l).map (·.id))).Nodup:=by unfold sortL; exact (List.mergeSort_perm _ _).nodup_iff.2 hn
  intro i j hi hj hij
  unfold idsL at hi hj ⊢
  rw [List.length_map] at hi hj
  have h3:=List.pairwise_iff_getElem.1 hp i j hi hj hij
  have h4:=List.pairwise_iff_getElem.1 hd i j hi hj hij
  rw [List.getElem_map,List.getElem_map]
  unfold sLt
  rw [idS_toList,idS_toList]
  refine decide_eq_true (Decidable.byContradiction fun h5 => h4 (List.le_antisymm (of_decide_eq_true h3) (List.not_lt.1 h5)))
 ·rw [h2]
  unfold idsL
  rw [e1]
  constructor
  ·intro h
   obtain ⟨a,ha,rfl⟩:=List.mem_map.1 h
   exact List.mem_map.2 ⟨a,(List.mergeSort_perm _ _).mem_iff.2 ha,rfl⟩
  ·intro h
   obtain ⟨a,ha,rfl⟩:=List.mem_map.1 h
   exact List.mem_map.2 ⟨a,(List.mergeSort_perm _ _).mem_iff.1 ha,rfl⟩
def IdsRRel (l : List PtA) (w : World) (o i : Value) (wr : World) : Prop :=
 ∃ (k : Nat) (A : Option Addr) (c : Nat),i = .int .i64 k ∧ k ≤ l.length ∧ o = .slice A k c ∧ wr.ownsRow w.heap.size 9 1 (.slice A k c) k (pc ((idtR l).take k)) ∧ Below w.heap.size w wr
theorem refIds_calls (A : Option Addr) (l : List PtA) (c : Nat) (w : World) (hr : Rd w w.heap.size 5 A l.length (rpc l)) (hl : l.length ≤ 4096) (hn : ((ptp l).map (·.id)).Nodup) :
  Calls Tryz.prog 48 #[.slice A l.length c] w fun e w' => ∃ (A' : Option Addr) (c' : Nat),e = .returned (.slice A' (idsL (ptp l)).length c') ∧ w'.ownsRow w.heap.size 9 1 (.slice A' (idsL (ptp l)).length c') (idsL (ptp l)).length (pc (idsL (ptp l))) ∧ Below w.heap.size w w':=by
 have HN:=Lib.hid hn
 clear hn
 go_enter Tryz.func48,Tryz.ntmps48
 go_wp2_with fail
 go_loopw [3,4] (fun o i wr => IdsRRel l w o i wr) (fun _ i _ => l.length - (intOf i).toNat)
 case atStart => exact ⟨0,none,0,rfl,Nat.zero_le _,rfl,World.ownsRow_nil _ _ _ _,Below.refl _ _⟩
 case round =>
  obtain ⟨k,A1,c1,rfl,hk,rfl,hown,hbel⟩:=hrel
  have hs:=hbel.size
  have f1 : IntKind.i64.wrap ((k : Int) + 1) = (k : Int) + 1:=IntWalk.i64_in _ (by omega)
  by_cases h1 : k < l.length
  ·have d1 : decide ((k : Int) < (l.length : Int)) = true:=decide_eq_true (by omega)
   have d1n : decide (k < l.length) = true:=decide_eq_true h1
   have d1' : (k : Int) < (l.length : Int):=by omega
   have hk0 : (0 : Int) ≤ (k : Int):=by omega
   obtain ⟨x,hx⟩ : ∃ x,l[k]? = some x:=⟨l[k],List.getElem?_eq_getElem h1⟩
   obtain ⟨bb,off,rfl,hbb,hcell⟩:=(hr.below hbel).at_ (by omega)
   have c0 : wr.cell? ⟨bb,off + k * 5,none⟩ = some (.string (idS x.p.id)):=hcell (k * 5 + 0) _ (rpc_get hx 0 (by omega))
   obtain ⟨t,ht⟩ : ∃ t,t = idS x.p.id:=⟨_,rfl⟩
   rw [← ht] at c0
   have hnext : Hid (pc ((idtR l).take (k + 1)) = pc ((idtR l).take k) ++ [.string t]):=by
    unfold Hid
    have h2 : (idtR l)[k]? = some t:=by rw [ht]; simp [idtR,hx]
    rw [List.take_add_one,h2]
    simp [pc]
   clear ht hcell hx
   go_wp2_with (at_builtin; refine appVl rfl (.tmp 11) (.tmp 17) 45 9 _ 16 rfl Tryz.underlying45 info_strS rfl w.heap.size _ k _ rfl (hown.alloc _) (wr.heap.size + 1) _ 1 1 [.string t] rfl (Rd.new1 wr _ _) (by intro u hu; obtain rfl:=List.mem_singleton.1 hu; rfl) (by unfold maxLen; omega) (by omega) (by simp; omega) ?_; intro A5 c5 w5 hown5 hb5 hg5 i5 i6)
   rw [← hnext.out] at hown5
   exact ⟨⟨k + 1,A5,c5,by go_num,by omega,rfl,hown5,(hbel.trans ((Below.refl _ _).alloc hs _)).trans hb5⟩,by simp [intOf]; omega⟩
  ·have d1 : decide ((k : Int) < (l.length : Int)) = false:=decide_eq_false (by omega)
   have d1n : decide (k < l.length) = false:=decide_eq_false h1
   have d1' : ¬ (k : Int) < (l.length : Int):=by omega
   have hlen : (idtR l).length = l.length:=by simp [idtR]
   have hkl : k = (idtR l).length:=by omega
   have hkk : (idtR l).take k = idtR l:=by rw [hkl,List.take_length]
   rw [hkk] at hown
   have hS:=refSorted_calls A1 (idtR l) c1 wr (by rw [← hkl]; exact Rd.of_own hown) (by omega)
   rw [← hkl] at hS
   have HS:=Lib.hid hS
   clear hS hkk hkl hown hlen
   go_wp2_with fail
   refine HS.out.mono ?_
   rintro e w6 ⟨ys,A6,c6,rfl,hy,ho6,hb6⟩
   have hy2 : ys = idsL (ptp l):=by rw [hy.out]; exact srt_ids HN.out
   have HY:=Lib.hid hy2
   clear hy hy2
   go_wp2_with fail
   go_ret
   refine ⟨A6,c6,?_,?_,hbel.next hb6⟩
   ·rw [← HY.out]; rfl
   ·rw [← HY.out]; exact ho6.base hs
end Go.Proofs.YtnaakfnbmeimaaaGreat
