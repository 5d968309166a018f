/- The walks of a pack's Parts and Ids. Conditions: at most 4096 parts. -/
import Derived.Test.YtnaakfnbmeimaaaGreatPck
import Derived.Test.YtnaakfnbmeimaaaGreatIterP
import Derived.Test.YtnaakfnbmeimaaaGreatOnce
import Derived.Deep.RegionWith
import Derived.Deep.RegionHeld3
import Derived.Deep.DeepCutAuto
import Derived.Test.YtnaakfnbmeimaaaGreatShort
set_option maxRecDepth 100000
set_option maxHeartbeats 1600000
set_option linter.unusedVariables false
namespace Go.Dol
open Go.RowKit
theorem sortL_perm {a b : List (List UInt8)} (h : a.Perm b) : sortL a = sortL b:=by
 have tr : ∀ a b c : List UInt8,decide (a ≤ b) = true → decide (b ≤ c) = true → decide (a ≤ c) = true:=fun a b c h1 h2 => decide_eq_true (List.le_trans (of_decide_eq_true h1) (of_decide_eq_true h2))
 have tl : ∀ a b : List UInt8,(decide (a ≤ b) || decide (b ≤ a)) = true:=fun a b => by
  rcases List.le_total a b with h | h <;> simp [h]
 exact List.Perm.eq_of_pairwise (le:=fun a b => decide (a ≤ b) = true) (fun a b _ _ h1 h2 => List.le_antisymm (of_decide_eq_true h1) (of_decide_eq_true h2)) (List.pairwise_mergeSort tr tl a) (List.pairwise_mergeSort tr tl b) ((List.mergeSort_perm a _).trans (h.trans (List.mergeSort_perm b _).symm))
end Go.Dol
namespace Go.Proofs.YtnaakfnbmeimaaaGreat
open Go.RowKit Go.Dol
theorem keysP_calls (mb : Option Nat) (W : World) : Calls Tryz.prog 52 #[.map mb] W fun e w' => e = .returned (.func (.func 88) #[] #[.pointer (some ⟨W.heap.size,0,none⟩)]) ∧ w' = W.alloc (.cells #[.map mb] 52) :=
 (callsIn_wide (n:=5)).1 (mapsKeys mb W)
def RetIds (w : World) (l : List Pt) (e : Ending) (w' : World) : Prop :=
 ∃ A c,e = .returned (.slice A l.length c) ∧ w'.ownsRow w.heap.size 9 1 (.slice A l.length c) l.length (pc (idsL l)) ∧ Below w.heap.size w w'
theorem sortedP_calls {l : List PtA} {m : Nat} (w : World) (hM : MapL Tryz.prog 9 w m (ptm l)) (hle : l.length ≤ 4096) :
  Calls Tryz.prog 51 #[.func (.func 88) #[] #[.pointer (some ⟨w.heap.size,0,none⟩)]] (w.alloc (.cells #[.map (some m)] 52)) (RetIds w (ptp l)):=by
 have hlen : (ptm l).length = l.length:=by simp [ptm]
 obtain ⟨D0,hown,hsz,hkeys⟩:=hM.owns Tryz.underlying9 (by unfold maxLen; omega)
 refine ((callsIn_wide (n:=5)).1 (sortedKeys m (ptm l).length D0 _ w hown (by unfold maxLen; omega) (by omega))).mono ?_
 rintro e w' ⟨v,ss,rfl,hS,hrow,_,hb⟩
 have hns : (ptm l).map Prod.fst = (l.map fun x => idS x.p.id).map Value.string:=by
  simp [ptm]
 have hperm : ss.Perm ((ptp l).map (·.id)):=by
  refine hS.trans ((hkeys _ hns).trans ?_)
  rw [List.map_map]
  refine List.Perm.of_eq ?_
  simp [ptp,idS]
 have hpl : (ptp l).length = l.length:=by simp [ptp]
 have hsl : ss.length = (ptp l).length:=by rw [hperm.length_eq,List.length_map]
 have e1 : (ss.mergeSort fun x y => decide (x ≤ y)) = sortL ((ptp l).map (·.id)):=sortL_perm hperm
 rw [e1,hsl] at hrow
 have hxs : (sortL ((ptp l).map (·.id))).map Go.Proofs.encStr = pc (idsL (ptp l)):=by
  unfold pc idsL
  rw [List.map_map]
  exact List.map_congr_left fun f _ => rfl
 rw [hxs] at hrow
 have hbl : Below w.heap.size w w':=((Below.refl _ _).alloc (Nat.le_refl _) _).trans (hb.mono (by simp))
 have hrow' : w'.ownsRow w.heap.size 9 1 v (ptp l).length (pc (idsL (ptp l))):=World.ownsRow.mono hrow (by simp)
 have hv : ∃ A c,v = .slice A (ptp l).length c:=by
  rcases hrow'.2 with ⟨rfl,h0⟩ | ⟨q,cap,cur,rfl,_⟩
  ·exact ⟨none,0,by rw [h0]⟩
  ·exact ⟨_,cap,rfl⟩
 obtain ⟨A,c,rfl⟩:=hv
 exact ⟨A,c,rfl,hrow',hbl⟩
theorem eqlP_nil (w : World) (A : Option Addr) (n c : Nat) : (binOp .eql 47 (.slice A n c) (.slice none 0 0)).run Tryz.prog w = .ok (.bool A.isNone) w:=Lib.run_eql_slice_nil w _ _ A n c 0 0 Tryz.underlying47
theorem eqlI_nil (w : World) (A : Option Addr) (n c : Nat) : (binOp .eql 45 (.slice A n c) (.slice none 0 0)).run Tryz.prog w = .ok (.bool A.isNone) w:=Lib.run_eql_slice_nil w _ _ A n c 0 0 Tryz.underlying45
theorem info_pt : (Tryz.prog.info? 50).map (fun i => (i.zero,i.size,i.bytes)) = some (some (.agg #[.string ⟨#[]⟩,.int .i64 0,.int .i64 0,.int .i64 0]),4,40):=by kernel_rfl
theorem info_stI : (Tryz.prog.info? 9).map (fun i => (i.zero,i.size,i.bytes)) = some (some (.string ⟨#[]⟩),1,16):=by kernel_rfl
theorem pcI_one (l : List ByteArray) : ∀ u ∈ pc l,u.oneCell' = true:=by
 intro u hu
 obtain ⟨x,_,rfl⟩:=List.mem_map.1 hu
 rfl
def RetPts (w : World) (l : List PtA) (e : Ending) (w' : World) : Prop :=
 ∃ A c,e = .returned (.slice A l.length c) ∧ w'.ownsRow w.heap.size 50 4 (.slice A l.length c) l.length (ptc l) ∧ Below w.heap.size w w'
theorem cloneP_calls (A : Option Addr) (l : List PtA) (c : Nat) (w : World) (hr : Rd w w.heap.size 4 A l.length (ptc l)) (hl : l.length ≤ 4096) :
  Calls Tryz.prog 54 #[.slice A l.length c] w (RetPts w l):=by
 have hq:=eqlP_nil w A l.length c
 cases A with
 | none =>
  have h0:=hr.none_zero
  obtain rfl : l = []:=List.eq_nil_of_length_eq_zero h0
  have hq0 : (binOp .eql 47 (.slice none 0 c) (.slice none 0 0)).run Tryz.prog w = .ok (.bool true) w:=hq
  clear hq hr h0
  go_enter Tryz.func54,Tryz.ntmps54
  go_wp2_with fail
  go_ret
  exact ⟨none,0,rfl,World.ownsRow_nil _ _ _ _,Below.refl _ _⟩
 | some a =>
  have hq0 : (binOp .eql 47 (.slice (some a) l.length c) (.slice none 0 0)).run Tryz.prog w = .ok (.bool false) w:=hq
  have hb0 : Below w.heap.size w (w.alloc (.cells #[] 50)):=(Below.refl _ _).alloc (Nat.le_refl _) _
  have ho : (w.alloc (.cells #[] 50)).ownsRow w.heap.size 50 4 (.slice (some ⟨w.heap.size,0,none⟩) 0 0) 0 []:=World.ownsRow_made w #[] 0 (Nat.le_refl _) (by unfold maxLen; omega) rfl
  have hr2:=hr.belowW hb0 (Nat.le_refl _)
  clear hq hr
  go_enter Tryz.func54,Tryz.ntmps54
  go_wp2_with (at_builtin; refine appNl rfl (.tmp 5) (.tmp 6) 47 50 _ 4 40 rfl Tryz.underlying47 info_pt rfl (by decide) w.heap.size _ 0 [] rfl ho w.heap.size _ l.length c (ptc l) rfl hr2 (ptc_one _) (by unfold maxLen; omega) (by omega) (by simp) ?_; intro A' c' w' y1 y2 y3 y4 y5; simp only [Nat.zero_add,List.nil_append] at y1 y4 ⊢)
  go_ret
  exact ⟨A',c',rfl,y1,hb0.trans y2⟩
theorem cloneI_calls (A : Option Addr) (n : Nat) (l : List ByteArray) (c : Nat) (w : World) (hn : l.length = n) (hr : Rd w w.heap.size 1 A n (pc l)) (hl : n ≤ 1099511627776) :
  Calls Tryz.prog 53 #[.slice A n c] w fun e w' => ∃ A' c',e = .returned (.slice A' n c') ∧ w'.ownsRow w.heap.size 9 1 (.slice A' n c') n (pc l) ∧ Below w.heap.size w w':=by
 have hq:=eqlI_nil w A n c
 cases A with
 | none =>
  have h0:=hr.none_zero
  subst h0
  obtain rfl : l = []:=List.eq_nil_of_length_eq_zero hn
  have hq0 : (binOp .eql 45 (.slice none 0 c) (.slice none 0 0)).run Tryz.prog w = .ok (.bool true) w:=hq
  clear hq hr
  go_enter Tryz.func53,Tryz.ntmps53
  go_wp2_with fail
  go_ret
  exact ⟨none,0,rfl,World.ownsRow_nil _ _ _ _,Below.refl _ _⟩
 | some a =>
  have hq0 : (binOp .eql 45 (.slice (some a) n c) (.slice none 0 0)).run Tryz.prog w = .ok (.bool false) w:=hq
  have hb0 : Below w.heap.size w (w.alloc (.cells #[] 9)):=(Below.refl _ _).alloc (Nat.le_refl _) _
  have ho:=own_new w 9 w.heap.size 0 [] rfl (Nat.le_refl _) (by unfold maxLen; omega)
  have hr2:=hr.belowW hb0 (Nat.le_refl _)
  clear hq hr
  go_enter Tryz.func53,Tryz.ntmps53
  go_wp2_with (at_builtin; refine appVl rfl (.tmp 5) (.tmp 6) 45 9 _ 16 rfl Tryz.underlying45 info_stI rfl w.heap.size _ 0 [] rfl ho w.heap.size _ n c (pc l) rfl hr2 (pcI_one _) (by unfold maxLen; omega) (by omega) (by simp) ?_; intro A' c' w' y1 y2 y3 y4 y5; simp only [Nat.zero_add,List.nil_append] at y1 y4 ⊢)
  go_ret
  exact ⟨A',c',rfl,y1,hb0.trans y2⟩
section
variable {w w' : World} {base g : Nat} {l : List PtA} {A : Option Addr} {c m : Nat} {d : Int} {vi : Value}
theorem Parts_calls (h : Pck w base g l A c m d vi) (hl : l.length ≤ 4096) : Calls Tryz.prog 23 #[.pointer (some ⟨g,0,none⟩)] w (RetPts w l):=by
 obtain ⟨k0,_⟩:=h.cells
 have HC:=Lib.hid (cloneP_calls A l c w (Rd.of_own h.parts) hl)
 go_enter Tryz.func23,Tryz.ntmps23
 go_wp2_with fail
 refine HC.out.mono ?_
 rintro e w1 ⟨A1,c1,rfl,ho,hb⟩
 go_wp2_with fail
 go_ret
 exact ⟨A1,c1,rfl,ho,hb⟩
theorem idsOnce (h : Pck w base g l A c m 0 (.slice none 0 0)) (hl : l.length ≤ 4096) (pl : Addr) (hp : w.cell? pl = some (.pointer (some ⟨g,0,none⟩))) (hpg : pl.block ≠ g) (hpw : pl.block < w.heap.size) :
  OnceRun 50 pl g 2 66 [.slice A l.length c,.map (some m),.int .u32 0,.int .i32 0,.int .u32 0,.slice none 0 0]
   (fun cs' w1 w2 => ∃ Ai ci,cs' = [.slice A l.length c,.map (some m),.int .u32 0,.int .i32 1,.int .u32 0,.slice Ai l.length ci] ∧ w2.ownsRow w1.heap.size 9 1 (.slice Ai l.length ci) l.length (pc (idsL (ptp l)))) w:=by
 intro w1 hB hg hs
 have hB : Blk w1 g 66 [.slice A l.length c,.map (some m),.int .u32 0,.int .i32 1,.int .u32 0,.slice none 0 0]:=hB
 have hm1 : MapL Tryz.prog 9 w1 m (ptm l):=h.map.grown hg (fun e => by
  injection e with e
  exact h.map.blk_ne h.blk e.symm)
 have hp1 : w1.cell? pl = some (.pointer (some ⟨g,0,none⟩)):=(World.cell?_of_block (hg.block pl.block hpw (fun e => hpg (by injection e)))).trans hp
 have hgl:=hB.lt
 have hml:=hm1.lt
 have k1 : w1.cell? ⟨g,1,none⟩ = some (.map (some m)):=by rw [hB.cell]; rfl
 have hplw : pl.block < w1.heap.size:=by omega
 have HK:=Lib.hid (fun mb W => keysP_calls mb W)
 have hsx : Calls Tryz.prog 51 #[.func (.func 88) #[] #[.pointer (some ⟨w1.heap.size,0,none⟩)]] (w1.alloc (.cells #[.map (some m)] 52)).drew (fun e w' => ∃ A c,e = .returned (.slice A (ptp l).length c) ∧ w'.ownsRow w1.heap.size 9 1 (.slice A (ptp l).length c) (ptp l).length (pc (idsL (ptp l))) ∧ Below w1.drew.heap.size w1.drew w'):=sortedP_calls (l:=l) (m:=m) w1.drew hm1.drew hl
 have HS:=Lib.hid hsx
 clear hsx hs
 go_enter Tryz.func50,Tryz.ntmps50
 have hpt : (ptp l).length = l.length:=by simp [ptp]
 rw [hpt] at HS
 go_upto_region 0 with (fail)
 refine wp_region_held_drew (S:=fun W => W.cell? pl = some (.pointer (some ⟨g,0,none⟩)) ∧ W.cell? ⟨g,1,none⟩ = some (.map (some m))) (by kernel_rfl) (⟨hp1,k1⟩) (fun hHeld => ?_)
 refine tk 0 (.pointer (some ⟨g,0,none⟩)) rfl (fun _ _ _ h => h) (Or.inl ⟨by rfl,fun w9 hS => ?_⟩) hHeld ?_
 ·obtain ⟨s0,s1⟩:=hS
  go_simp
 try simp only [Act.put,sA,sB,sC,sD,sF]
 refine tk 1 (.pointer (some ⟨g,0,none⟩)) rfl (fun _ _ _ h => h) (Or.inl ⟨by rfl,fun w9 hS => ?_⟩) hHeld ?_
 ·obtain ⟨s0,s1⟩:=hS
  go_simp
 try simp only [Act.put,sA,sB,sC,sD,sE,sF]
 refine tk 2 (.pointer (some ⟨g,0,none⟩)) rfl (fun _ _ _ h => h) (Or.inl ⟨by rfl,fun w9 hS => ?_⟩) hHeld ?_
 ·obtain ⟨s0,s1⟩:=hS
  go_simp
 try simp only [Act.put,sA,sB,sC,sD,sE,sF]
 refine tk 3 (.pointer (some ⟨g,1,none⟩)) rfl (fun _ _ _ h => h) (Or.inl ⟨by rfl,fun w9 hS => ?_⟩) hHeld ?_
 ·obtain ⟨s0,s1⟩:=hS
  go_simp
 try simp only [Act.put,sA,sB,sC,sD,sE,sF]
 refine tk 4 (.map (some m)) rfl (fun _ _ _ h => h) (Or.inl ⟨by rfl,fun w9 hS => ?_⟩) hHeld ?_
 ·obtain ⟨s0,s1⟩:=hS
  go_simp
 try simp only [Act.put,sA,sB,sC,sD,sE,sF]
 refine wpAnyH_ready (rs:=[5]) (by kernel_rfl) (by simp) (AllReadyH.cons (o:=_) rfl (fun K hK => ?_) AllReadyH.nil)
 go_simp
 refine (HK.out (some m) _).mono ?_
 rintro e w2 ⟨rfl,hw2⟩
 refine hK.out _ _ (by rw [hw2]; exact ⟨(World.cell?_alloc_lt _ _ _ hplw).trans hp1,(World.cell?_alloc_lt _ _ _ hgl).trans k1⟩) (fun hHeld => ?_)
 clear hK K
 try simp only [Act.put,sA,sB,sC,sD,sE,sF]
 subst hw2
 refine wpAnyH_ready (rs:=[6]) (by kernel_rfl) (by simp) (AllReadyH.cons (o:=_) rfl (fun K hK => ?_) AllReadyH.nil)
 go_simp
 refine (HS.out).mono ?_
 rintro e w3 ⟨Ai,ci,rfl,ho3,hb3⟩
 have hb3 : Below w1.heap.size w1 w3:=⟨hb3.os,hb3.tape,hb3.output,hb3.size,hb3.block⟩
 have ho3 : w3.ownsRow w1.heap.size 9 1 (.slice Ai l.length ci) l.length (pc (idsL (ptp l))):=ho3
 have hB3:=hB.below hb3 hgl
 have k5 : w3.cell? ⟨g,5,none⟩ = some (.slice none 0 0):=by rw [hB3.cell]; rfl
 have f5:=hB3.free 5
 refine hK.out _ _ ⟨(hb3.cell (p:=pl) hplw).trans hp1,by rw [hB3.cell]; rfl⟩ (fun hHeld => ?_)
 clear hK K
 try simp only [Act.put,sA,sB,sC,sD,sE,sF]
 refine tk 7 (.pointer (some ⟨g,0,none⟩)) rfl (fun _ _ _ h => h) (Or.inl ⟨by rfl,fun w9 hS => ?_⟩) hHeld ?_
 ·obtain ⟨s0,s1⟩:=hS
  go_simp
 try simp only [Act.put,sA,sB,sC,sD,sE,sF]
 refine tk 8 (.pointer (some ⟨g,5,none⟩)) rfl (fun _ _ _ h => h) (Or.inl ⟨by rfl,fun w9 hS => ?_⟩) hHeld ?_
 ·obtain ⟨s0,s1⟩:=hS
  go_simp
 try simp only [Act.put,sA,sB,sC,sD,sE,sF]
 have hB4:=hB3.set 5 (.slice Ai l.length ci)
 have s0 : (w3.setCell ⟨g,5,none⟩ (.slice Ai l.length ci)).cell? pl = some (.pointer (some ⟨g,0,none⟩)):=(World.cell?_setCell_other w3 ⟨g,5,none⟩ pl _ (fun e => hpg (by rw [← e]))).trans ((hb3.cell (p:=pl) hplw).trans hp1)
 have s1 : (w3.setCell ⟨g,5,none⟩ (.slice Ai l.length ci)).cell? ⟨g,1,none⟩ = some (.map (some m)):=by rw [hB4.cell]; rfl
 refine wpAnyH_ready (rs:=[9]) (by kernel_rfl) (by simp) (AllReadyH.cons (o:=_) rfl (fun K hK => ?_) AllReadyH.nil)
 go_simp
 refine hK.out _ _ ⟨s0,s1⟩ (fun hHeld => ?_)
 clear hK K
 try simp only [Act.put,sA,sB,sC,sD,sE,sF]
 refine wpAnyH_done (by kernel_rfl) ?_ _
 go_end0
 exact ⟨rfl,_,hB4,rfl,rfl,grown_setCell (grown_of_below hb3 (some g)) 5 _,Ai,ci,rfl,own_grown ho3 (grown_setCell (World.grownBy.refl _ _) 5 _) hgl⟩
theorem Pck.of_cells (h : Pck w base g l A c m d vi) (hg : w.grownBy w' (some g)) {d' : Int} {vi' : Value} (hB : Blk w' g 66 [.slice A l.length c,.map (some m),.int .u32 d',.int .i32 0,.int .u32 0,vi'])
  (hi : d' = 0 ∧ vi' = .slice none 0 0 ∨ d' = 1 ∧ ∃ Ai ci,vi' = .slice Ai l.length ci ∧ w'.ownsRow base 9 1 (.slice Ai l.length ci) l.length (pc (idsL (ptp l)))) : Pck w' base g l A c m d' vi' :=
 ⟨hB,h.gb,h.mb,own_other h.parts h.blk (by decide) hg,h.map.grown hg (fun e => by injection e with e; exact h.map.blk_ne h.blk e.symm),fun x hx => ⟨(h.raws x hx).1.grown hg (Other.blk h.blk (by decide) (Nat.zero_le _)),(h.raws x hx).2⟩,hi⟩
def RetIdsC (w : World) (base g : Nat) (l : List PtA) (A : Option Addr) (c m : Nat) (e : Ending) (w' : World) : Prop :=
 (∃ Ai ci,e = .returned (.slice Ai l.length ci) ∧ w'.ownsRow w.heap.size 9 1 (.slice Ai l.length ci) l.length (pc (idsL (ptp l)))) ∧ (∃ vi',Pck w' base g l A c m 1 vi') ∧ w.grownBy w' (some g)
theorem Ids_calls (h : Pck w base g l A c m d vi) (hl : l.length ≤ 4096) : Calls Tryz.prog 22 #[.pointer (some ⟨g,0,none⟩)] w (RetIdsC w base g l A c m):=by
 have hmf : ∀ (fn : Fn) (first cap : Array Value) (w : World),(Instr.makeFunc fn first cap).run Tryz.prog w = .ok (.func fn first cap) w:=fun _ _ _ _ => rfl
 obtain ⟨v1,hv1⟩ : ∃ v1,v1 = w.alloc (.cells #[.pointer (some ⟨g,0,none⟩)] 32):=⟨_,rfl⟩
 have hb1 : Below w.heap.size w v1:=by rw [hv1]; exact (Below.refl _ _).alloc (Nat.le_refl _) _
 have hP : Blk v1 w.heap.size 32 [.pointer (some ⟨g,0,none⟩)]:=by rw [hv1]; exact Blk.new w _ _
 have h1:=h.below hb1
 have hgl:=h.blk.lt
 have hp1 : v1.cell? ⟨w.heap.size,0,none⟩ = some (.pointer (some ⟨g,0,none⟩)):=by rw [hP.cell]; rfl
 have hs1 : v1.heap.size = w.heap.size + 1:=by rw [hv1]; simp
 have hIL : (idsL (ptp l)).length = l.length:=by rw [idsL_length]; simp [ptp]
 rcases h.ids with ⟨rfl,rfl⟩ | ⟨rfl,Ai,ci,rfl,hi⟩
 ·have HD:=Lib.hid (do_first g 2 66 _ ⟨w.heap.size,0,none⟩ _ v1 h1.blk rfl rfl (idsOnce h1 hl ⟨w.heap.size,0,none⟩ hp1 (by show w.heap.size ≠ g; omega) (by show w.heap.size < v1.heap.size; omega)))
  go_enter Tryz.func22,Tryz.ntmps22
  go_wp2_with fail
  rw [← hv1]
  refine HD.out.mono ?_
  rintro e w4 ⟨rfl,cs',u1,u2,⟨Ai,ci,rfl,ho⟩,hg1,hg2,hB2,hw4⟩
  have hg24 : u2.grownBy w4 (some g):=by rw [hw4]; exact grown_setCell (grown_setCell (grown_drew (World.grownBy.refl _ _)) 2 _) 3 _
  have hB4 : Blk w4 g 66 [.slice A l.length c,.map (some m),.int .u32 1,.int .i32 0,.int .u32 0,.slice Ai l.length ci]:=by rw [hw4]; exact (hB2.drew.set 2 _).set 3 _
  have hg4:=grown_step (grown_step hg1 hg2) hg24
  have hsu : v1.heap.size ≤ u1.heap.size:=hg1.size
  have ho4:=own_other ho hB2 (by decide) hg24
  have hp4 : w4.cell? ⟨w.heap.size,0,none⟩ = some (.pointer (some ⟨g,0,none⟩)):=(World.cell?_of_block (hg4.block w.heap.size (by omega) (fun e => by injection e; omega))).trans hp1
  have hgb:=h.gb
  have hPk : Pck w4 base g l A c m 1 (.slice Ai l.length ci):=h1.of_cells hg4 hB4 (.inr ⟨rfl,Ai,ci,rfl,ho4.base (by omega)⟩)
  have k5 : w4.cell? ⟨g,5,none⟩ = some (.slice Ai l.length ci):=by rw [hB4.cell]; rfl
  have HC:=Lib.hid (cloneI_calls Ai l.length (idsL (ptp l)) ci w4 hIL (Rd.of_own ho4) (by omega))
  have hg04 : w.grownBy w4 (some g):=grown_step (grown_of_below hb1 (some g)) hg4
  have hs04:=hg04.size
  clear hw4 hB2 hg24 hg1 hg2 HD
  go_wp2_with fail
  refine HC.out.mono ?_
  rintro e w5 ⟨A5,c5,rfl,ho5,hb5⟩
  go_wp2_with fail
  go_ret
  exact ⟨⟨A5,c5,rfl,ho5.base (by omega)⟩,⟨_,hPk.below hb5⟩,grown_below hg04 hb5⟩
 ·have k2 : v1.cell? ⟨g,2,none⟩ = some (.int .u32 1):=by rw [h1.blk.cell]; rfl
  have k5 : v1.cell? ⟨g,5,none⟩ = some (.slice Ai l.length ci):=by rw [h1.blk.cell]; rfl
  have HD:=Lib.hid (fun fv => do_done ⟨g,2,none⟩ fv v1 k2)
  have HC:=Lib.hid (cloneI_calls Ai l.length (idsL (ptp l)) ci v1 hIL (Rd.of_own (own_belowW hi hb1)) (by omega))
  go_enter Tryz.func22,Tryz.ntmps22
  go_wp2_with fail
  rw [← hv1]
  clear hv1
  refine (HD.out _).mono ?_
  rintro e w4 ⟨rfl,hw⟩
  obtain rfl:=hw.symm
  go_wp2_with fail
  refine HC.out.mono ?_
  rintro e w5 ⟨A5,c5,rfl,ho5,hb5⟩
  go_wp2_with fail
  go_ret
  exact ⟨⟨A5,c5,rfl,ho5.base (by omega)⟩,⟨_,h1.below hb5⟩,grown_of_below (hb1.next hb5) _⟩
end
end Go.Proofs.YtnaakfnbmeimaaaGreat
