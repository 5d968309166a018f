/- The walk of the document's Sorted. Conditions: fewer than 2^39 texts. -/
import Derived.Test.YtnaakfnbmeimaaaGreatSrtP
import Derived.Test.YtnaakfnbmeimaaaGreatObjA
import Derived.Test.YtnaakfnbmeimaaaGreatWordsA
import Derived.BigQuiet
set_option linter.unusedVariables false
namespace Go.Proofs.YtnaakfnbmeimaaaGreat
open Go.RowKit Go.Dol
theorem info_strS : (Tryz.prog.info? 9).map (fun i => (i.zero,i.size,i.bytes)) = some (some (.string ⟨#[]⟩),1,16):=by kernel_rfl
theorem pc_appendS (a b : List ByteArray) : pc (a ++ b) = pc a ++ pc b:=by simp [pc]
theorem pc_oneS (l : List ByteArray) : ∀ u ∈ pc l,u.oneCell' = true:=by
 intro u hu
 obtain ⟨x,_,rfl⟩:=List.mem_map.1 hu
 rfl
theorem pc_drop (l : List ByteArray) (k : Nat) : (pc l).drop k = pc (l.drop k):=by simp [pc]
theorem pc_take (l : List ByteArray) (k : Nat) : (pc l).take k = pc (l.take k):=by simp [pc]
theorem size_str (w : World) : (sizeOf (Tryz.prog.elem 45)).run Tryz.prog w = .ok 1 w:=by kernel_rfl
section
variable {w : World} {B : Nat} {A : Option Addr} {l : List ByteArray} {c k : Nat}
theorem slT_from (kI : Int) (hkI : kI = (k : Nat)) (hr : Rd w B 1 A l.length (pc l)) (hk : k ≤ l.length) (hc : l.length ≤ c) (hc2 : c ≤ maxLen) :
  ∃ (m : List ByteArray) (A' : Option Addr) (c' : Nat),Hid (m = l.drop k) ∧ m.length + k ≤ l.length ∧ l.length ≤ m.length + k ∧ Rd w B 1 A' m.length (pc m) ∧ c' + k = c ∧ segBlock A' = segBlock A ∧ Hid (∀ w0 base,Seg w0 base 9 1 A l.length c (pc l) → Seg w0 base 9 1 A' m.length c' (pc m)) ∧
   ∀ w' : World,(Instr.sliceAt 45 (.slice A l.length c) (some (.int .i64 kI)) none none).run Tryz.prog w' = .ok (.slice A' m.length c') w':=by
 subst hkI
 have h:=hr.cut (lo:=k) (hi:=l.length) (cap:=c) hk (Nat.le_refl _) hc
 have htk : (l.drop k).take (l.length - k) = l.drop k:=List.take_of_length_le (by rw [List.length_drop]; exact Nat.le_refl _)
 rw [Nat.mul_one,Nat.mul_one,pc_drop,pc_take,htk] at h
 have hlen : (l.drop k).length = l.length - k:=List.length_drop
 refine ⟨l.drop k,_,c - k,rfl,by omega,by omega,by rw [hlen]; exact h,by omega,?_,?_,fun w' => ?_⟩
 ·split
  ·rfl
  ·exact segBlock_add A k
 ·intro w0 base hs
  have:=hs.cut (lo:=k) (hi:=l.length) hk (Nat.le_refl _)
  rw [Nat.mul_one,Nat.mul_one,pc_drop,pc_take,htk] at this
  rw [hlen]
  exact this
 ·rw [run_sliceAt_slice _ _ _ _ _ _ (by kernel_rfl),run_slice_l _ _ _ _ _ (by kernel_rfl) _ _ (by omega) (by omega),size_str,hlen]
  simp [sliced,Result.andThen]
theorem slT_to (kI : Int) (hkI : kI = (k : Nat)) (hr : Rd w B 1 A l.length (pc l)) (hk : k ≤ l.length) (hc : l.length ≤ c) (hc2 : c ≤ maxLen) :
  ∃ m : List ByteArray,Hid (m = l.take k) ∧ m.length ≤ k ∧ k ≤ m.length ∧ Rd w B 1 A m.length (pc m) ∧
   ∀ w' : World,(Instr.sliceAt 45 (.slice A l.length c) none (some (.int .i64 kI)) none).run Tryz.prog w' = .ok (.slice A m.length c) w':=by
 subst hkI
 have hlen : (l.take k).length = k:=by rw [List.length_take]; omega
 have h:=hr.cut (lo:=0) (hi:=k) (cap:=c) (Nat.zero_le _) hk hc
 simp only [Nat.mul_one,pc_take,List.drop_zero,Nat.sub_zero] at h
 refine ⟨l.take k,rfl,by omega,by omega,?_,fun w' => ?_⟩
 ·rw [hlen]
  split at h
  ·exact h
  ·have e : A.map (·.add 0) = A:=by cases A with | none => rfl | some a => simp [Addr.add]
   rw [e] at h
   exact h
 ·rw [run_sliceAt_slice _ _ _ _ _ _ (by kernel_rfl),run_slice_h _ _ _ _ _ (by kernel_rfl) _ _ (by omega) (by omega),size_str,hlen]
  cases A <;> simp [sliced,Result.andThen,Addr.add]
end
theorem less_eqS (x y : List UInt8) : Op.bytesLess x y = decide (x < y):=by
 induction x generalizing y with
 | nil =>
  cases y with
  | nil => rfl
  | cons b y => simp [Op.bytesLess]
 | cons a x ih =>
  cases y with
  | nil => simp [Op.bytesLess]
  | cons b y =>
   simp only [Op.bytesLess,ih,List.cons_lt_cons_iff]
   by_cases h1 : a < b <;> by_cases h2 : a = b <;> simp [h1,h2]
theorem less_sLtS (a b : ByteArray) : Op.bytesLess a.toList b.toList = sLt a b:=by
 rw [ByteArray.toList_eq,ByteArray.toList_eq,less_eqS]
 rfl
theorem below_drewS {B : Nat} {w w' : World} (h : Below B w w') (n : Nat) : Below B w (w'.drewN n):=⟨h.os,h.tape,h.output,h.size,h.block⟩
def SoIn (ys : List ByteArray) (x : ByteArray) (wr : World) (p : Value) (wq : World) : Prop :=
 ∃ j q : Nat,p = .int .i64 j ∧ j ≤ posS ys x ∧ Hid (wq = wr.drewN q)
def SoRel (l : List ByteArray) (w : World) (q i : Value) (wr : World) : Prop :=
 ∃ (k : Nat) (ys : List ByteArray) (A : Option Addr) (c : Nat),q = .slice A ys.length c ∧ i = .int .i64 k ∧ k ≤ l.length ∧ Hid (ys = srtS (l.take k)) ∧ ys.length = k ∧ wr.ownsRow w.heap.size 9 1 (.slice A ys.length c) ys.length (pc ys) ∧ Below w.heap.size w wr
set_option maxRecDepth 100000 in
set_option maxHeartbeats 1600000 in
theorem refSorted_calls (A : Option Addr) (l : List ByteArray) (c : Nat) (w : World) (hr : Rd w w.heap.size 1 A l.length (pc l)) (hl : l.length ≤ 549755813888) :
  Calls Tryz.prog 83 #[.slice A l.length c] w fun e w' => ∃ (ys : List ByteArray) (A' : Option Addr) (c' : Nat),e = .returned (.slice A' ys.length c') ∧ Hid (ys = srtS l) ∧ w'.ownsRow w.heap.size 9 1 (.slice A' ys.length c') ys.length (pc ys) ∧ Below w.heap.size w w':=by
 go_enter Tryz.func83,Tryz.ntmps83
 go_wp2_with fail
 go_loopw [3,4] (fun q i wr => SoRel l w q i wr) (fun _ i _ => l.length - (intOf i).toNat)
 case atStart => exact ⟨0,[],none,0,rfl,rfl,Nat.zero_le _,rfl,rfl,World.ownsRow_nil _ _ _ _,Below.refl _ _⟩
 case round =>
  obtain ⟨k,ys,A5,c5,rfl,rfl,hk,hy,hyl,ho,hb⟩:=hrel
  have hs:=hb.size
  have HYL:=Lib.hid hyl
  have hyb : ys.length ≤ 549755813888:=by omega
  clear hyl
  have f1 : IntKind.i64.wrap ((k : Int) + 1) = (k : Int) + 1:=IntWalk.i64_in _ (by omega)
  by_cases hlt : k < l.length
  ·have hd : decide ((k : Int) < (l.length : Int)) = true:=decide_eq_true (by omega)
   have hd' : (k : Int) < (l.length : Int):=by omega
   have hk0 : (0 : Int) ≤ (k : Int):=by omega
   obtain ⟨x,hx⟩ : ∃ x,l[k]? = some x:=⟨l[k],List.getElem?_eq_getElem hlt⟩
   have hnext : l.take (k + 1) = l.take k ++ [x]:=by rw [List.take_add_one,hx]; rfl
   have HX:=Lib.hid hnext
   have HXk:=Lib.hid hx
   clear hnext hx
   obtain ⟨v0,hv0⟩ : ∃ v,v = wr:=⟨_,rfl⟩
   subst hv0
   go_wp2_with fail
   go_loopw [5] (fun p wq => SoIn ys x v0 p wq) (fun p _ => ys.length + 1 - (intOf p).toNat)
   case atStart => exact ⟨0,0,rfl,Nat.zero_le _,rfl⟩
   case round =>
    obtain ⟨j,q,rfl,hj,hq⟩:=hrel
    have hjl:=posS_le ys x
    have f2 : IntKind.i64.wrap ((j : Int) + 1) = (j : Int) + 1:=IntWalk.i64_in _ (by omega)
    have hrW : Rd wr w.heap.size 1 A l.length (pc l):=by rw [hq.out]; exact (hr.belowW hb (Nat.le_refl _)).drewN q
    have hoR : wr.ownsRow w.heap.size 9 1 (.slice A5 ys.length c5) ys.length (pc ys):=by rw [hq.out]; exact ho
    have hrY:=Rd.of_own hoR
    obtain ⟨bl,ol,rfl,hbl,hcl⟩:=hrW.at_ (by omega)
    have cx : wr.cell? ⟨bl,ol + k,none⟩ = some (.string x):=hcl k _ (by rw [pc_get hlt]; have h:=HXk.out; rw [List.getElem?_eq_getElem hlt] at h; injection h with h; rw [h])
    clear hcl hrW hr
    have hcap:=(own_le hoR)
    by_cases hlt2 : j < posS ys x
    ·have hjy : j < ys.length:=by omega
     have d1 : decide ((j : Int) < (ys.length : Int)) = true:=decide_eq_true (by omega)
     have d1n : decide (j < ys.length) = true:=decide_eq_true hjy
     have d1' : (j : Int) < (ys.length : Int):=by omega
     have hj0 : (0 : Int) ≤ (j : Int):=by omega
     obtain ⟨bb,off,rfl,hbb,hcell⟩:=hrY.at_ (by omega)
     obtain ⟨y,hyj,hyl⟩:=posS_lt hlt2
     have cy : wr.cell? ⟨bb,off + j,none⟩ = some (.string y):=hcell j _ (by rw [pc_get hjy]; rw [List.getElem?_eq_getElem hjy] at hyj; injection hyj with h; rw [h])
     have g2 : Op.bytesLess y.toList x.toList = true:=by rw [less_sLtS]; exact hyl
     clear hcell hyj hyl
     go_wp2_with fail
     go_quiet (fail)
     go_wp2_with fail
     exact ⟨⟨j + 1,q + nq,by go_num,by omega,by unfold Hid; rw [hq.out,World.drewN_drewN]⟩,by simp [intOf]; omega⟩
    ·have hje : j = posS ys x:=by omega
     obtain ⟨m1,hm1,hm1a,hm1b,hR1,hS1⟩:=slT_to (w:=wr) (k:=j) (j : Int) rfl hrY (by omega) hcap.1 hcap.2
     obtain ⟨m2,A2,c2,hm2,hm2a,hm2b,hR2,hc2,_,_,hS2⟩:=slT_from (w:=wr) (k:=j) (j : Int) rfl hrY (by omega) hcap.1 hcap.2
     have HZ : Hid (m1 ++ [x] ++ m2 = srtS (l.take (k + 1))):=by
      unfold Hid
      rw [HX.out,srtS_snoc,← hy.out,hm1.out,hm2.out,hje]
      unfold insS
      simp
     have ml1 : m1.length ≤ 549755813888:=by omega
     have ml2 : m2.length ≤ 549755813888:=by omega
     have hsr : w.heap.size ≤ wr.heap.size:=by rw [hq.out]; exact hs
     have hbr : Below w.heap.size w wr:=by rw [hq.out]; exact below_drewS hb q
     have HL : Hid (m1.length + 1 + m2.length = k + 1):=by unfold Hid; have:=HYL.out; omega
     have hga : (∃ y bb off,A5 = some ⟨bb,off,none⟩ ∧ decide ((j : Int) < (ys.length : Int)) = true ∧ decide (j < ys.length) = true ∧ (j : Int) < (ys.length : Int) ∧ wr.cell? ⟨bb,off + j,none⟩ = some (.string y) ∧ Op.bytesLess y.toList x.toList = false) ∨ (decide ((j : Int) < (ys.length : Int)) = false ∧ decide (j < ys.length) = false):=by
      by_cases hjy : j < ys.length
      ·obtain ⟨bb,off,hA,_,hcell⟩:=hrY.at_ (by omega)
       refine .inl ⟨ys[j],bb,off,hA,decide_eq_true (by omega),decide_eq_true hjy,by omega,hcell j _ (pc_get hjy),?_⟩
       rw [less_sLtS]
       refine posS_at (l:=ys) ?_
       rw [← hje]
       exact List.getElem?_eq_getElem hjy
      ·exact .inr ⟨decide_eq_false (by omega),decide_eq_false hjy⟩
     clear hm1 hm2 hm1a hm1b hm2a hm2b hrY hc2 hje HYL
     rcases hga with ⟨y,bb,off,rfl,d1,d1n,d1',cy,g2⟩ | ⟨d1,d1n⟩
     all_goals
      have hj0 : (0 : Int) ≤ (j : Int):=by omega
      go_wp2_with fail
      go_quiet (fail)
      obtain ⟨v1,hv1⟩ : ∃ v,v = wr.drewN nq:=⟨_,rfl⟩
      have cx1 : v1.cell? ⟨bl,ol + k,none⟩ = some (.string x):=by rw [hv1]; exact cx
      have hR1':=hR1.drewN nq
      rw [← hv1] at hR1'
      have hR2' : Rd v1 wr.heap.size 1 A2 m2.length (pc m2):=by rw [hv1]; exact hR2.drewN nq
      have hs1 : wr.heap.size = v1.heap.size:=by rw [hv1]; rfl
      rw [hs1] at hR1' hR2' hsr
      have hbr1 : Below w.heap.size w v1:=by rw [hv1]; exact below_drewS hbr nq
      try rw [← hv1]
      clear hv1 hs1 hR1 hR2 cx hbr hoR hq
      go_wp2_with (at_builtin; first
       | (refine appVl rfl (.tmp 30) (.tmp 33) 45 9 _ 16 rfl Tryz.underlying45 info_strS rfl v1.heap.size (.slice none 0 0) 0 [] rfl (World.ownsRow_nil _ _ _ _) v1.heap.size _ m1.length c5 (pc m1) rfl hR1' (pc_oneS _) (by unfold maxLen; omega) (by omega) (Nat.le_refl _) ?_; intro A6 c6 w6 z1 z2 z3 z4 z5; simp only [Nat.zero_add,List.nil_append] at z1 z4; have cx6 : w6.cell? ⟨bl,ol + k,none⟩ = some (.string x):=(z2.cell (p:=⟨bl,ol + k,none⟩) (by show bl < _; omega)).trans cx1; have hn6:=Rd.new1 w6 9 (.string x); have hs6:=z2.size)
       | (refine appVl rfl (.tmp 35) (.tmp 40) 45 9 _ 16 rfl Tryz.underlying45 info_strS rfl v1.heap.size _ m1.length (pc m1) rfl (z1.alloc _) (w6.heap.size + 1) _ 1 1 [.string x] rfl hn6 (by simp [Value.oneCell']) (by unfold maxLen; omega) (by omega) (by simp; omega) ?_; intro A7 c7 w7 y1 y2 y3 y4 y5; have hb7:=(z2.alloc hs6 (.cells #[.string x] 9)).trans y2; have hR7:=hR2'.below hb7; have hs7:=hb7.size)
       | (refine appVl rfl (.tmp 42) (.tmp 45) 45 9 _ 16 rfl Tryz.underlying45 info_strS rfl v1.heap.size _ (m1.length + 1) (pc m1 ++ [Value.string x]) rfl y1 v1.heap.size _ m2.length c2 (pc m2) rfl hR7 (pc_oneS _) (by unfold maxLen; omega) (by omega) hs7 ?_; intro A8 c8 w8 x1 x2 x3 x4 x5; have hb8:=hb7.trans x2))
      have HE : (m1 ++ [x] ++ m2).length = m1.length + 1 + m2.length:=by simp; omega
      have HE2:=HL.out
      refine ⟨⟨k + 1,m1 ++ [x] ++ m2,A8,c8,by rw [HE],by go_num,by omega,HZ,by rw [HE,HE2],?_,hbr1.trans (hb8.mono hsr)⟩,by simp [intOf]; omega⟩
      rw [HE,pc_appendS,pc_appendS]
      exact x1.base hsr
  ·have hd : decide ((k : Int) < (l.length : Int)) = false:=decide_eq_false (by omega)
   have hkf : l.take k = l:=List.take_of_length_le (by omega)
   rw [hkf] at hy
   clear hkf
   go_wp2_with fail
   go_ret
   exact ⟨ys,A5,c5,rfl,hy,ho,hb⟩
end Go.Proofs.YtnaakfnbmeimaaaGreat
