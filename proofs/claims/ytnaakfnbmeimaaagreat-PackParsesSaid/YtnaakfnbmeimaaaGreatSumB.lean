/- The walks of the layer 'sum', its seventh part: digits. Conditions: bytes that are made fit 2^47. -/
import Derived.Test.YtnaakfnbmeimaaaGreatSumA
import Derived.Deep.RegionLaw
import Derived.Deep.QuietTactic
import Derived.BigQuiet
import Derived.Test.YtnaakfnbmeimaaaGreatWordsA
set_option maxRecDepth 100000
set_option maxHeartbeats 2000000
set_option linter.unusedVariables false
namespace Go.Dol
open Go.RowKit
end Go.Dol
namespace Go.Proofs.YtnaakfnbmeimaaaGreat
open Go.RowKit Go.Dol
theorem app8r {w : World} {ops : Array Oper} {o : Oper} {a : Act} {K : Act → World → Prop} {Q : Exit → Act → World → Prop} {E : Prop} (hgd : o.guard = none) (s x : Operand)
  (ho : o.op = .call { callee:=.builtin .append,args:=#[s,x],argTypes:=#[25,25] })
  (base : Nat) (v : Value) (n : Nat) (xs : List UInt8) (hs : a.eval s = v) (hown : w.ownsRow base 5 1 v n (bc xs))
  (B : Nat) (A : Option Addr) (m c : Nat) (news : List UInt8) (hx : a.eval x = .slice A m c) (hr : Rd w B 1 A m (bc news))
  (hlen : n + m ≤ 140737488355328) (hbase : base ≤ w.heap.size)
  (h : ∀ (l' : List UInt8) (A' : Option Addr) (c' : Nat) (w' : World),Hid (l' = xs ++ news) → w'.ownsRow base 5 1 (.slice A' l'.length c') l'.length (bc l') → Below base w w' → w.grownBy w' v.ownBlock →
   l'.length ≤ c' → c' ≤ maxLen → K (a.put o.dst (.slice A' l'.length c')) w') : if Region.wanted o (yielded ops a.tmps) = true then Oper.wp Tryz.prog o a w K Q else E:=by
 have hw : Region.wanted o (yielded ops a.tmps) = true:=by simp [Region.wanted,hgd]
 rw [if_pos hw]
 refine wp_append_rd w s x _ ho base _ _ 1 1 Tryz.underlying25 info_u8 rfl (by decide) v n (bc xs) hs hown B A m c (bc news) hx hr (bc_one _) (by unfold maxLen; omega) (by omega) hbase ?_
 intro A' c' w' h1 h2 h3 h4 h5
 have e1 : n = xs.length:=by have:=hown.1; rw [bc_length] at this; omega
 have e2 : m = news.length:=by have:=hr.len; rw [bc_length] at this; omega
 have e : n + m = (xs ++ news).length:=by rw [List.length_append]; omega
 rw [← bc_append,e] at h1
 rw [e] at h3 h4 ⊢
 exact h _ A' c' w' rfl h1 ((Below.refl _ _).grown h2 hbase (fun k hk => (hown.lt k hk).1)) h2 h4 h5
open Go.RowKit Go.Dol
end Go.Proofs.YtnaakfnbmeimaaaGreat
namespace Go.Dol
end Go.Dol
namespace Go.Proofs.YtnaakfnbmeimaaaGreat
open Go.RowKit Go.Dol
open Go.RowKit Go.Dol
open Go.RowKit Go.Dol
theorem turned_calls (x : Int) (k : Nat) (kk : Int) (w : World) (hk : kk = k) (hx0 : 0 ≤ x) (hx1 : x < 4294967296) (hk0 : 0 < k) (hk1 : k < 32) :
  Calls Tryz.prog 103 #[.int .u32 x,.int .i64 kk] w fun e w' => e = .returned (.int .u32 (rotl x k)) ∧ ∃ n,w' = w.drewN n:=by
 subst hk
 have f1 : IntKind.i64.wrap (32 - (k : Int)) = 32 - (k : Int):=IntWalk.i64_in _ (by omega)
 have f2 : (0 : Int) ≤ 32 - (k : Int):=by omega
 have f3 : (32 - (k : Int)).toNat = 32 - k:=by omega
 go_enter Tryz.func103,Tryz.ntmps103
 go_wp2_with fail
 go_quiet (fail)
 go_wp2_with fail
 go_ret
 exact ⟨rfl,nq,rfl⟩
open Go.RowKit Go.Dol
theorem info_u32 : (Tryz.prog.info? 56).map (fun i => (i.zero,i.size,i.bytes)) = some (some (.int .u32 0),1,4):=by kernel_rfl
def upW (l : List UInt8) (k : Nat) : List Int:=(List.range k).map (wordAt l)
theorem upW_succ (l : List UInt8) (k : Nat) : upW l (k + 1) = upW l k ++ [wordAt l k]:=by
 unfold upW
 rw [List.range_succ,List.map_append]
 rfl
theorem wordAt_four (l : List UInt8) (i : Nat) (h : 4 * i + 3 < l.length) : wordAt l i = ((l[4 * i]).toNat : Int) + 256 * ((l[4 * i + 1]).toNat : Int) + 65536 * ((l[4 * i + 2]).toNat : Int) + 16777216 * ((l[4 * i + 3]).toNat : Int):=by
 unfold wordAt
 rw [List.drop_eq_getElem_cons (by omega),List.drop_eq_getElem_cons (by omega),List.drop_eq_getElem_cons (by omega),List.drop_eq_getElem_cons h]
 have e1 : 4 * i + 1 + 1 = 4 * i + 2:=rfl
 simp only [List.take_succ_cons,List.take_zero,leN,List.foldr,e1]
 omega
def WRel (l : List UInt8) (w : World) (v i : Value) (wr : World) : Prop :=
 ∃ (k : Nat) (A : Option Addr) (c : Nat),v = .slice A k c ∧ i = .int .i64 k ∧ k ≤ 8 ∧ k ≤ c ∧ wr.ownsRow w.heap.size 56 1 (.slice A k c) k (wc (upW l k)) ∧ Below w.heap.size w wr
def OuterRelR (S W : List Int) (tail tw : List Value) (g gw : Nat) (T : TypeId) (w : World) (i : Value) (wr : World) : Prop :=
 ∃ r : Nat,i = .int .i64 r ∧ r ≤ 8 ∧ Blk wr g T (wc (rounds S W r) ++ tail) ∧ Blk wr gw T (wc W ++ tw) ∧ w.grownBy wr (some g)
def InnerRelR (S W : List Int) (r : Nat) (tail tw : List Value) (g gw : Nat) (T : TypeId) (w : World) (i : Value) (wr : World) : Prop :=
 ∃ k : Nat,i = .int .i64 k ∧ k ≤ 8 ∧ Blk wr g T (wc (inner S W r k) ++ tail) ∧ Blk wr gw T (wc W ++ tw) ∧ w.grownBy wr (some g)
theorem reftake_calls (g n8 : Nat) (S : List Int) (tail : List Value) (cs : Nat) (A : Option Addr) (l : List UInt8) (n c : Nat) (w : World) (hS : Words S) (hb : Blk w g 56 (wc S ++ tail)) (hcs : 8 ≤ cs) (hr : Rd w w.heap.size 1 A n (bc l)) (hn : n = 32) (hn8 : n8 = 8) :
  Calls Tryz.prog 67 #[.slice (some ⟨g,0,none⟩) n8 cs,.slice A n c] w fun e w' => e = .returned (.tuple #[]) ∧ Blk w' g 56 (wc (sumB S l) ++ tail) ∧ w.grownBy w' (some g):=by
 subst hn
 subst hn8
 have hl : l.length = 32:=by have:=hr.len; rw [bc_length] at this; omega
 have HL:=Lib.hid hl
 clear hl
 have hgw:=hb.lt
 obtain ⟨bb,off,rfl,hbb,hcells⟩:=hr.at_ (by omega)
 have HC:=Lib.hid hcells
 clear hcells
 go_enter Tryz.func67,Tryz.ntmps67
 go_wp2_with fail
 go_loopw [4,5] (fun v i wr => WRel l w v i wr) (fun _ i _ => 8 - (intOf i).toNat)
 case atStart => exact ⟨0,none,0,rfl,rfl,by omega,by omega,⟨by simp [wc,upW],.inl ⟨rfl,by simp⟩⟩,Below.refl _ _⟩
 case round =>
  obtain ⟨k,A1,c1,rfl,rfl,hk,hkc,ho,hbel⟩:=hrel
  have hs:=hbel.size
  by_cases hlt : k < 8
  ·have hl4 : 4 * k + 3 < l.length:=by rw [HL.out]; omega
   have hw4:=wordAt_four l k hl4
   have hwr:=wordAt_range l k
   obtain ⟨x0,hx0⟩ : ∃ x,x = (l[4 * k]).toNat:=⟨_,rfl⟩
   obtain ⟨x1,hx1⟩ : ∃ x,x = (l[4 * k + 1]).toNat:=⟨_,rfl⟩
   obtain ⟨x2,hx2⟩ : ∃ x,x = (l[4 * k + 2]).toNat:=⟨_,rfl⟩
   obtain ⟨x3,hx3⟩ : ∃ x,x = (l[4 * k + 3]).toNat:=⟨_,rfl⟩
   have b0 : x0 < 256:=by have:=(l[4 * k]).toNat_lt; omega
   have b1 : x1 < 256:=by have:=(l[4 * k + 1]).toNat_lt; omega
   have b2 : x2 < 256:=by have:=(l[4 * k + 2]).toNat_lt; omega
   have b3 : x3 < 256:=by have:=(l[4 * k + 3]).toNat_lt; omega
   have q0 : wr.cell? ⟨bb,off + 4 * k,none⟩ = some (.int .u8 x0):=by rw [hbel.cell (p:=⟨bb,_,none⟩) hbb,hx0]; exact HC.out (4 * k) _ (bc_get l _ (by omega))
   have q1 : wr.cell? ⟨bb,off + (4 * k + 1),none⟩ = some (.int .u8 x1):=by rw [hbel.cell (p:=⟨bb,_,none⟩) hbb,hx1]; exact HC.out (4 * k + 1) _ (bc_get l _ (by omega))
   have q2 : wr.cell? ⟨bb,off + (4 * k + 2),none⟩ = some (.int .u8 x2):=by rw [hbel.cell (p:=⟨bb,_,none⟩) hbb,hx2]; exact HC.out (4 * k + 2) _ (bc_get l _ (by omega))
   have q3 : wr.cell? ⟨bb,off + (4 * k + 3),none⟩ = some (.int .u8 x3):=by rw [hbel.cell (p:=⟨bb,_,none⟩) hbb,hx3]; exact HC.out (4 * k + 3) _ (bc_get l _ (by omega))
   rw [← hx0,← hx1,← hx2,← hx3] at hw4
   obtain ⟨v,hv⟩ : ∃ v : Nat,v = x0 + 256 * x1 + 65536 * x2 + 16777216 * x3:=⟨_,rfl⟩
   have hve : wordAt l k = (v : Int):=by omega
   have HVE:=Lib.hid hve
   have HV:=Lib.hid hv
   clear hw4 hx0 hx1 hx2 hx3 hl4 hwr hve hv
   have u0 : IntKind.u32.wrap (x0 : Int) = x0:=by rw [IntKind.wrap_u32]; omega
   have u1 : IntKind.u32.wrap (x1 : Int) = x1:=by rw [IntKind.wrap_u32]; omega
   have u2 : IntKind.u32.wrap (x2 : Int) = x2:=by rw [IntKind.wrap_u32]; omega
   have u3 : IntKind.u32.wrap (x3 : Int) = x3:=by rw [IntKind.wrap_u32]; omega
   have u4 : IntKind.u32.wrap (256 * (x1 : Int)) = 256 * (x1 : Int):=by rw [IntKind.wrap_u32]; omega
   have u5 : IntKind.u32.wrap (65536 * (x2 : Int)) = 65536 * (x2 : Int):=by rw [IntKind.wrap_u32]; omega
   have u6 : IntKind.u32.wrap (16777216 * (x3 : Int)) = 16777216 * (x3 : Int):=by rw [IntKind.wrap_u32]; omega
   have u7 : IntKind.u32.wrap ((x0 : Int) + 256 * (x1 : Int)) = (x0 : Int) + 256 * (x1 : Int):=by rw [IntKind.wrap_u32]; omega
   have u8 : IntKind.u32.wrap ((x0 : Int) + 256 * (x1 : Int) + 65536 * (x2 : Int)) = (x0 : Int) + 256 * (x1 : Int) + 65536 * (x2 : Int):=by rw [IntKind.wrap_u32]; omega
   have u9 : IntKind.u32.wrap ((x0 : Int) + 256 * (x1 : Int) + 65536 * (x2 : Int) + 16777216 * (x3 : Int)) = (v : Int):=by rw [IntKind.wrap_u32]; have:=HV.out; omega
   have e1 : IntKind.i64.wrap (4 * (k : Int)) = 4 * (k : Int):=IntWalk.i64_in _ (by omega)
   have e2 : IntKind.i64.wrap (4 * (k : Int) + 1) = 4 * (k : Int) + 1:=IntWalk.i64_in _ (by omega)
   have e3 : IntKind.i64.wrap (4 * (k : Int) + 2) = 4 * (k : Int) + 2:=IntWalk.i64_in _ (by omega)
   have e4 : IntKind.i64.wrap (4 * (k : Int) + 3) = 4 * (k : Int) + 3:=IntWalk.i64_in _ (by omega)
   have p1 : (4 * (k : Int)).toNat = 4 * k:=by omega
   have p2 : (4 * (k : Int) + 1).toNat = 4 * k + 1:=by omega
   have p3 : (4 * (k : Int) + 2).toNat = 4 * k + 2:=by omega
   have p4 : (4 * (k : Int) + 3).toNat = 4 * k + 3:=by omega
   have r1 : (0 : Int) ≤ 4 * (k : Int):=by omega
   have r2 : 4 * (k : Int) < 32:=by omega
   have r3 : 4 * (k : Int) + 1 < 32:=by omega
   have r4 : 4 * (k : Int) + 2 < 32:=by omega
   have r5 : 4 * (k : Int) + 3 < 32:=by omega
   have r6 : (0 : Int) ≤ 4 * (k : Int) + 1:=by omega
   have r7 : (0 : Int) ≤ 4 * (k : Int) + 2:=by omega
   have r8 : (0 : Int) ≤ 4 * (k : Int) + 3:=by omega
   go_wp2_with fail
   go_region_held3 (fun w' => w'.cell? ⟨bb,off + 4 * k,none⟩ = some (.int .u8 x0) ∧ w'.cell? ⟨bb,off + (4 * k + 1),none⟩ = some (.int .u8 x1) ∧ w'.cell? ⟨bb,off + (4 * k + 2),none⟩ = some (.int .u8 x2) ∧ w'.cell? ⟨bb,off + (4 * k + 3),none⟩ = some (.int .u8 x3)) (first | go_keep | (go_split_ands; refine ⟨?_,?_,?_,?_⟩ <;> (rw [z2.cell (p:=⟨bb,_,none⟩) hbb]; assumption)))
    ((refine appVr (by rfl) (.tmp 13) (.tmp 47) 131 56 _ 4 (by rfl) Tryz.underlying131 info_u32 rfl w.heap.size _ k (wc (upW l k)) (by rfl) (World.ownsRow.alloc (w:=World.drew wr) ho _) (wr.heap.size + 1) _ 1 1 [.int .u32 v] (by rfl) (Rd.new1 wr _ _).drew (by simp [Value.oneCell']) (by unfold maxLen; omega) (by omega) (by simp; omega) ?_; intro A' c' w' z1 z2 z3 z4 z5))
   go_wp2_with fail
   refine ⟨⟨k + 1,A',c',rfl,by go_num,hlt,z4,?_,hbel.trans (((Below.refl _ _).alloc hs _).drew.trans z2)⟩,by simp [intOf]; omega⟩
   rw [upW_succ,HVE.out]
   have : wc (upW l k ++ [(v : Int)]) = wc (upW l k) ++ [.int .u32 v]:=by simp [wc]
   rw [this]
   exact z1
  ·have hk8 : k = 8:=by omega
   rw [hk8] at ho
   have HK:=Lib.hid hk8
   obtain ⟨gw,tw,rfl,hgw2,hbk⟩:=blk_of_own ho (by omega)
   replace hbk : Blk wr gw 56 (wc (wordsOf l) ++ tw):=hbk
   clear hk8 ho
   have hW:=wordsOf_words l
   obtain ⟨W,hWe⟩ : ∃ W,W = wordsOf l:=⟨_,rfl⟩
   rw [← hWe] at hbk hW
   have HW:=Lib.hid hWe
   clear hWe
   have hbg : Blk wr g 56 (wc S ++ tail):=hb.below hbel hgw
   have hgr : w.grownBy wr (some g):=grown_of_below hbel _
   have hne : g ≠ gw:=by omega
   have hgd : ¬ ((k : Int) < 8):=by omega
   clear hbel hr hb hs hgw hgw2
   go_wp2_with fail
   go_loopw [6] (fun i wr => OuterRelR S W tail tw g gw 56 w i wr) (fun i _ => 8 - (intOf i).toNat)
   case atStart => exact ⟨0,rfl,by omega,hbg,hbk,hgr⟩
   case round =>
    clear hbg hbk hgr
    obtain ⟨r,rfl,hr8,hbg,hbk,hgr⟩:=hrel
    by_cases hlt2 : r < 8
    ·have hwo:=hS.rounds W r
     have hrd : decide ((r : Int) < 8) = true:=by simp; omega
     go_wp2_with fail
     go_loopw [7] (fun i wr => InnerRelR (rounds S W r) W r tail tw g gw 56 w i wr) (fun i _ => 8 - (intOf i).toNat)
     case atStart => exact ⟨0,rfl,by omega,hbg,hbk,hgr⟩
     case round =>
      clear hbg hbk hgr
      obtain ⟨j,rfl,hk8,hbg,hbk,hgr⟩:=hrel
      by_cases hlt3 : j < 8
      ·obtain ⟨S',hS'⟩ : ∃ S',S' = inner (rounds S W r) W r j:=⟨_,rfl⟩
       have hw' : Words S':=by rw [hS']; exact hwo.inner W r j
       rw [← hS'] at hbg
       obtain ⟨x1,hx1⟩ : ∃ x,x = getI S' j:=⟨_,rfl⟩
       obtain ⟨x2,hx2⟩ : ∃ x,x = getI W ((j + r) % 8):=⟨_,rfl⟩
       obtain ⟨x3,hx3⟩ : ∃ x,x = getI S' ((j + 1) % 8):=⟨_,rfl⟩
       have hc1 : wr.cell? ⟨g,j,none⟩ = some (.int .u32 x1):=by rw [hbg.cell,hx1]; exact wc_get hw' tail hlt3
       have hc2 : wr.cell? ⟨gw,(j + r) % 8,none⟩ = some (.int .u32 x2):=by rw [hbk.cell,hx2]; exact wc_get hW tw (Nat.mod_lt _ (by omega))
       have hc3 : wr.cell? ⟨g,(j + 1) % 8,none⟩ = some (.int .u32 x3):=by rw [hbg.cell,hx3]; exact wc_get hw' tail (Nat.mod_lt _ (by omega))
       have hfr:=hbg.free j
       have hrx:=bits_u32_range .xor x1 x2
       have HS':=Lib.hid hS'
       have HX1:=Lib.hid hx1
       have HX2:=Lib.hid hx2
       have HX3:=Lib.hid hx3
       clear hS' hx1 hx2 hx3
       have f0 : IntKind.i64.wrap ((j : Int) + 1) = (j : Int) + 1:=IntWalk.i64_in _ (by omega)
       have f1 : ((j : Int) + 1).tmod 8 = ((j : Int) + 1) % 8:=Int.tmod_eq_emod_of_nonneg (by omega)
       have f2 : (0 : Int) ≤ ((j : Int) + 1) % 8:=by omega
       have f3 : ((j : Int) + 1) % 8 < 8:=by omega
       have f4 : (((j : Int) + 1) % 8).toNat = (j + 1) % 8:=by omega
       have f5 : IntKind.i64.wrap ((j : Int) + (r : Int)) = (j : Int) + (r : Int):=IntWalk.i64_in _ (by omega)
       have f6 : IntKind.u32.wrap ((j : Int) + (r : Int)) = (j : Int) + (r : Int):=by rw [IntKind.wrap_u32]; omega
       have f7 : ((j : Int) + (r : Int)).tmod 8 = ((j : Int) + (r : Int)) % 8:=Int.tmod_eq_emod_of_nonneg (by omega)
       have f8 : (((j : Int) + (r : Int)) % 8).toNat = (j + r) % 8:=by omega
       have f9 : (0 : Int) ≤ ((j : Int) + (r : Int)) % 8:=by omega
       have f10 : ((j : Int) + (r : Int)) % 8 < 8:=by omega
       have f13 : ((j : Int) + (r : Int)) % 8 < (k : Int):=by have:=HK.out; omega
       have f11 : IntKind.i64.wrap (3 * (j : Int)) = 3 * (j : Int):=IntWalk.i64_in _ (by omega)
       have f12 : IntKind.i64.wrap (5 + 3 * (j : Int)) = 5 + 3 * (j : Int):=IntWalk.i64_in _ (by omega)
       go_wp2_with fail
       go_quiet ((go_at_call 103; exact Calls.quiet_of (turned_calls _ (5 + 3 * j) _ _ (by omega) hrx.1 hrx.2 (by omega) (by omega))))
       go_wp2_with fail
       have hmix : (rotl (bits .xor .u32 x1 x2) (5 + 3 * j) + x3 * 2246822507 + ((j : Int) + (r : Int))) % 4294967296 = mixAt S' W r j:=by
        rw [HX1.out,HX2.out,HX3.out]
        rfl
       have HM:=Lib.hid hmix
       clear hmix
       refine ⟨⟨j + 1,by go_num,by omega,?_,(hbk.drewN nq).far (p:=⟨g,j,none⟩) (fun e => hne e.symm) _,grown_setCell (grown_drewN hgr nq) _ _⟩,by simp [intOf]; omega⟩
       have h1:=(hbg.drewN nq).set j (.int .u32 (mixAt S' W r j))
       rw [wc_set S' tail (by rw [hw'.1]; exact hlt3)] at h1
       rw [HM.out]
       have h2 : inner (rounds S W r) W r (j + 1) = S'.set j (mixAt S' W r j):=by rw [HS'.out]; rfl
       rw [h2]
       exact h1
      ·have hk88 : j = 8:=by omega
       have HK8:=Lib.hid hk88
       have hjd : ¬ ((j : Int) < 8):=by omega
       clear hk88
       go_wp2_with fail
       refine ⟨⟨r + 1,by go_num,by omega,?_,hbk,hgr⟩,by simp [intOf]; omega⟩
       rw [HK8.out] at hbg
       exact hbg
    ·have hr88 : r = 8:=by omega
     have HR8:=Lib.hid hr88
     have hrd : ¬ ((r : Int) < 8):=by omega
     clear hr88
     go_wp2_with fail
     go_end0
     refine ⟨rfl,?_,hgr⟩
     rw [HW.out,HR8.out] at hbg
     exact hbg
open Go.RowKit Go.Dol
def RsPad (l : List UInt8) (B : Nat) (w : World) (b : Value) (wr : World) : Prop :=
 ∃ (k : Nat) (l1 : List UInt8) (A : Option Addr) (c : Nat),b = .slice A l1.length c ∧ Hid (l1 = l ++ 1 :: List.replicate k 0) ∧ Hid (l1.length = l.length + 1 + k) ∧ k ≤ padN l.length ∧ wr.ownsRow B 5 1 (.slice A l1.length c) l1.length (bc l1) ∧ Below B w wr
def RsLen (l0 : List UInt8) (n B : Nat) (w : World) (b x i : Value) (wr : World) : Prop :=
 ∃ (k m : Nat) (l1 : List UInt8) (A : Option Addr) (c : Nat),b = .slice A l1.length c ∧ x = .int .u64 m ∧ i = .int .i64 k ∧ k ≤ 8 ∧ m ≤ n ∧ Hid (l1 = l0 ++ leB k n) ∧ Hid (l1.length = l0.length + k) ∧ Hid (m = n / 256 ^ k) ∧ wr.ownsRow B 5 1 (.slice A l1.length c) l1.length (bc l1) ∧ Below B w wr
def RsZero (l0 : List UInt8) (B : Nat) (w : World) (b i : Value) (wr : World) : Prop :=
 ∃ (k : Nat) (l1 : List UInt8) (A : Option Addr) (c : Nat),b = .slice A l1.length c ∧ i = .int .i64 k ∧ k ≤ 32 ∧ Hid (l1 = l0 ++ List.replicate k 0) ∧ Hid (l1.length = l0.length + k) ∧ wr.ownsRow B 5 1 (.slice A l1.length c) l1.length (bc l1) ∧ Below B w wr
def RsFirst (w : World) (s i : Value) (wr : World) : Prop :=
 ∃ (k : Nat) (A : Option Addr) (c : Nat),s = .slice A k c ∧ i = .int .i64 k ∧ k ≤ 8 ∧ k ≤ c ∧ wr.ownsRow w.heap.size 56 1 (.slice A k c) k (wc (first.take k)) ∧ Below w.heap.size w wr
def RsTake (all : List UInt8) (tail : List Value) (g : Nat) (w : World) (i : Value) (wr : World) : Prop :=
 ∃ (k : Nat) (S : List Int),i = .int .i64 k ∧ k ≤ all.length ∧ k % 32 = 0 ∧ Words S ∧ Hid (absorb S (all.drop k) = absorb first all) ∧ Blk wr g 56 (wc S ++ tail) ∧ w.grownBy wr (some g)
def RsOut (S : List Int) (w : World) (out i : Value) (wr : World) : Prop :=
 ∃ (k : Nat) (l : List UInt8) (A : Option Addr) (c : Nat),out = .slice A l.length c ∧ i = .int .i64 k ∧ k ≤ 8 ∧ Hid (l = outOf (S.take k)) ∧ wr.ownsRow w.heap.size 5 1 (.slice A l.length c) l.length (bc l) ∧ Below w.heap.size w wr
theorem _root_.Go.Dol.Rd.newN (w : World) (T : TypeId) (cs : List Value) : Rd (w.alloc (.cells cs.toArray T)) (w.heap.size + 1) 1 (some ⟨w.heap.size,0,none⟩) cs.length cs:=by
 refine ⟨by simp,fun _ => ⟨w.heap.size,0,rfl,by omega,fun j u hu => ?_⟩⟩
 have hc:=(Blk.new w T cs).cell (0 + j)
 rw [hc,Nat.zero_add]
 exact hu
theorem leB_four (x : Nat) (h : x < 4294967296) : bc (leB 4 x) = [.int .u8 (x % 256 : Nat),.int .u8 (x / 256 % 256 : Nat),.int .u8 (x / 65536 % 256 : Nat),.int .u8 (x / 16777216 : Nat)]:=by
 simp only [leB,bc,List.map_cons,List.map_nil,UInt8.toNat_ofNat',Nat.div_div_eq_div_mul]
 have h1 : x / (256 * (256 * 256)) % 256 = x / 16777216:=by omega
 simp
 omega
theorem first_get (k : Nat) (hk : k < 8) : getI first k = ((k : Int) + 1) * 2654435769 % 4294967296:=by
 have h : ∀ i : Fin 8,getI first i.val = ((i.val : Int) + 1) * 2654435769 % 4294967296:=by decide
 exact h ⟨k,hk⟩
theorem first_take_succ (k : Nat) (hk : k < 8) : first.take (k + 1) = first.take k ++ [getI first k]:=by
 have hl : k < first.length:=by rw [first_words.1]; exact hk
 rw [List.take_succ_eq_append_getElem hl]
 simp [getI,List.getElem?_eq_getElem hl]
theorem refSum_calls (A : Option Addr) (l : List UInt8) (c : Nat) (w : World) (hr : Rd w w.heap.size 1 A l.length (bc l)) (hl : l.length ≤ 140737488355200) :
  Calls Tryz.prog 31 #[.slice A l.length c] w fun e w' => ∃ l',Hid (l' = sumOf l) ∧ e = .returned (.string ⟨l'.toArray⟩) ∧ Below w.heap.size w w':=by
 go_enter Tryz.func31,Tryz.ntmps31
 go_wp2_with (at_builtin; refine app8 rfl (.tmp 12) (.tmp 13) rfl w.heap.size _ 0 [] rfl ⟨by simp [bc],.inl ⟨rfl,rfl⟩⟩ w.heap.size A l.length c l rfl hr (by omega) (Nat.le_refl _) ?_)
 intro l1 A1 c1 w1 e1 ho1 hb1 _ _ i1 i2
 have h1l : l1.length = l.length:=by simp [e1.out]
 have H1:=Lib.hid h1l
 have hs1:=hb1.size
 go_wp2_with (at_builtin; refine push8 rfl (.tmp 15) (.tmp 16) rfl w.heap.size _ l1.length l1 rfl ho1 rfl (by decide) (by decide) (by omega) (by omega) ?_)
 intro d l2 A2 c2 w2 ed e2 ho2 hb2 _ _ i3 i4
 have e2' : Hid (l2 = l ++ 1 :: List.replicate 0 0):=by
  unfold Hid
  have:=e2.out
  have h1 : d = 1:=byte_of (n:=1) ed rfl
  rw [this,h1,e1.out]
  rfl
 have h2l : Hid (l2.length = l.length + 1 + 0):=by
  unfold Hid
  rw [e2'.out]
  simp
 have hb02 : Below w.heap.size w w2:=hb1.trans hb2
 clear h1l ho1 hb1 hb2 e1 e2 ed
 go_wp2_with fail
 go_loopw [3] (fun b wr => RsPad l w.heap.size w b wr) (fun b _ => l.length + 1 + padN l.length - lenV b)
 case atStart => exact ⟨0,l2,A2,c2,rfl,e2',h2l,Nat.zero_le _,ho2,hb02⟩
 case round =>
  clear ho2 hb02
  obtain ⟨k,l3,A3,c3,rfl,e3,h3l,hk,ho,hbl⟩:=hrel
  have hs:=hbl.size
  have hpn : Hid (padN l.length = (24 + 64 - (l.length % 32 + 1)) % 32):=rfl
  obtain ⟨q,hq⟩ : ∃ q,q = l3.length % 32:=⟨_,rfl⟩
  have hrem : (l3.length : Int) % 32 = (q : Int):=by omega
  have hrem2 : (l3.length : Int).tmod 32 = (q : Int):=by rw [Int.tmod_eq_emod_of_nonneg (by omega)]; exact hrem
  have h3b : l3.length ≤ 140737488355240:=by
   have:=h3l.out
   have:=hpn.out
   omega
  have HQ:=Lib.hid hq
  clear hq
  by_cases hq24 : q = 24
  ·have HQ24:=Lib.hid hq24
   have hb24 : ((q : Int) != 24) = false:=by rw [hq24]; rfl
   have hkl : Hid (k = padN l.length):=by
    unfold Hid
    have:=HQ.out
    have:=HQ24.out
    have:=hpn.out
    have:=h3l.out
    omega
   have hu64 : IntKind.u64.wrap (l.length : Int) = (l.length : Int):=by rw [IntKind.wrap_u64]; omega
   clear hq24
   go_wp2_with fail
   go_loopw [3,4,5] (fun b x i wr => RsLen l3 l.length w.heap.size w b x i wr) (fun _ _ i _ => 8 - (intOf i).toNat)
   case atStart => exact ⟨0,l.length,l3,A3,c3,rfl,rfl,rfl,by omega,Nat.le_refl _,by simp [Hid,leB],by simp [Hid],by simp [Hid],ho,hbl⟩
   case round =>
    clear ho hbl hs
    obtain ⟨k4,m,l4,A4,c4,rfl,rfl,rfl,hk4,hmn,e4,h4l,hm,ho,hbl⟩:=hrel
    have hs:=hbl.size
    have h4b : l4.length ≤ 140737488355248:=by
     have:=h4l.out
     omega
    by_cases hlt4 : k4 < 8
    ·have hki : (k4 : Int) < 8:=by omega
     have hmr : (m : Int) % 256 < 256:=by omega
     have hmq : IntKind.u64.wrap ((m : Int) / 256) = (m : Int) / 256:=by rw [IntKind.wrap_u64]; omega
     go_wp2_with (at_builtin; refine push8 rfl (.tmp 32) (.tmp 36) rfl w.heap.size _ l4.length l4 rfl ho rfl (by omega) (by omega) (by omega) (by omega) ?_)
     intro d l5 A5 c5 w5 ed e5 ho5 hb5 _ _ j3 j4
     go_wp2_with fail
     refine ⟨⟨k4 + 1,m / 256,l5,A5,c5,rfl,by go_num,by go_num,by omega,by omega,?_,?_,?_,ho5,hbl.trans hb5⟩,by simp [intOf]; omega⟩
     ·have hd':=byte_of (n:=m % 256) ed (by omega)
      unfold Hid
      rw [e5.out,e4.out,hd',hm.out,leB_snoc,List.append_assoc]
     ·unfold Hid
      rw [e5.out,List.length_append,h4l.out]
      rfl
     ·unfold Hid
      rw [hm.out,Nat.div_div_eq_div_mul,Nat.pow_succ]
    ·have hki : ¬ (k4 : Int) < 8:=by omega
     have hk48 : Hid (k4 = 8):=by unfold Hid; omega
     go_wp2_with fail
     go_loopw [3,6] (fun b i wr => RsZero l4 w.heap.size w b i wr) (fun _ i _ => 32 - (intOf i).toNat)
     case atStart => exact ⟨0,l4,A4,c4,rfl,rfl,by omega,by simp [Hid],by simp [Hid],ho,hbl⟩
     case round =>
      clear ho hbl hs
      obtain ⟨k6,l6,A6,c6,rfl,rfl,hk6,e6,h6l,ho,hbl⟩:=hrel
      have hs:=hbl.size
      have h6b : l6.length ≤ 140737488355288:=by
       have:=h6l.out
       omega
      by_cases hlt6 : k6 < 32
      ·have hki6 : (k6 : Int) < 32:=by omega
       go_wp2_with (at_builtin; refine push8 rfl (.tmp 44) (.tmp 45) rfl w.heap.size _ l6.length l6 rfl ho rfl (by decide) (by decide) (by omega) (by omega) ?_)
       intro d l7 A7 c7 w7 ed e7 ho7 hb7 _ _ j5 j6
       go_wp2_with fail
       refine ⟨⟨k6 + 1,l7,A7,c7,rfl,by go_num,by omega,?_,?_,ho7,hbl.trans hb7⟩,by simp [intOf]; omega⟩
       ·have hd0 : d = 0:=by
         have:=ed.out
         exact UInt8.toNat_inj.1 (by simpa using this)
        unfold Hid
        rw [e7.out,e6.out,hd0,List.append_assoc,List.replicate_succ']
       ·unfold Hid
        rw [e7.out,List.length_append,h6l.out]
        rfl
      ·have hki6 : ¬ (k6 : Int) < 32:=by omega
       have hk632 : k6 = 32:=by omega
       have hall : Hid (l6 = l ++ padding l.length l.length):=by
        unfold Hid padding
        rw [e6.out,e4.out,e3.out,hkl.out,hk48.out,hk632]
        simp
       have hmod : Hid (l6.length % 32 = 0):=by
        unfold Hid
        rw [hall.out,List.length_append]
        exact padding_length _ _
       have hrd:=Rd.of_own ho
       have hlc6 : l6.length ≤ c6:=by obtain ⟨_,_,h,hle,_⟩:=own_form ho; injection h with _ _ h; omega
       clear hk632 ho
       have hdone : ∀ out : List UInt8,out = outOf (absorb first l6).1 → Hid (out = sumOf l):=fun out h => by
        unfold Hid
        rw [h,sumOf_whole,hall.out]
       have HD:=Lib.hid hdone
       clear hdone hall
       go_wp2_with fail
       obtain ⟨w6,hw6⟩ : ∃ w6,w6 = wr:=⟨_,rfl⟩
       rw [← hw6] at hrd hbl hs
       rw [← hw6]
       clear hw6
       go_loopw [7,8] (fun s i wr => RsFirst w6 s i wr) (fun _ i _ => 8 - (intOf i).toNat)
       case atStart => exact ⟨0,none,0,rfl,rfl,by omega,by omega,⟨by simp [wc],.inl ⟨rfl,by simp⟩⟩,Below.refl _ _⟩
       case round =>
        obtain ⟨k8,A8,c8,rfl,rfl,hk8,hk8c,ho8,hb8⟩:=hrel
        have hs8:=hb8.size
        by_cases hlt8 : k8 < 8
        ·have hki8 : (k8 : Int) < 8:=by omega
         have hu1 : IntKind.u32.wrap ((k8 : Int) + 1) = (k8 : Int) + 1:=by rw [IntKind.wrap_u32]; omega
         go_wp2_with (at_builtin; refine appVl rfl (.tmp 51) (.tmp 56) 131 56 _ 4 rfl Tryz.underlying131 info_u32 rfl w6.heap.size _ k8 (wc (first.take k8)) rfl (ho8.alloc _) (wr.heap.size + 1) _ 1 1 [.int .u32 (getI first k8)] rfl (by rw [first_get k8 hlt8]; exact Rd.new1 wr _ _) (by simp [Value.oneCell']) (by unfold maxLen; omega) (by omega) (by simp; omega) ?_)
         intro A9 c9 w9 ho9 hb9 _ j7 j8
         go_wp2_with fail
         refine ⟨⟨k8 + 1,A9,c9,rfl,by go_num,by omega,j7,?_,hb8.trans (((Below.refl _ _).alloc hs8 _).trans hb9)⟩,by simp [intOf]; omega⟩
         rw [first_take_succ k8 hlt8]
         have : wc (first.take k8 ++ [getI first k8]) = wc (first.take k8) ++ [.int .u32 (getI first k8)]:=by simp [wc]
         rw [this]
         exact ho9
        ·have hki8 : ¬ (k8 : Int) < 8:=by omega
         have hk88 : k8 = 8:=by omega
         have HK8:=Lib.hid hk88
         have ho8' : wr.ownsRow w6.heap.size 56 1 (.slice A8 k8 c8) k8 (wc first):=by
          have e : first.take k8 = first:=List.take_of_length_le (by rw [hk88,first_words.1]; exact Nat.le_refl _)
          rwa [e] at ho8
         obtain ⟨g,tail,rfl,hg6,hbk⟩:=blk_of_own ho8' (by omega)
         obtain ⟨w8,hw8⟩ : ∃ w8,w8 = wr:=⟨_,rfl⟩
         rw [← hw8] at hbk hb8 hs8
         clear hk88 ho8 ho8'
         go_wp2_with fail
         rw [← hw8]
         clear hw8
         go_loopw [9] (fun i wr => RsTake l6 tail g w8 i wr) (fun i _ => l6.length - (intOf i).toNat)
         case atStart => exact ⟨0,first,rfl,Nat.zero_le _,rfl,first_words,by simp [Hid],hbk,World.grownBy.refl _ _⟩
         case round =>
          clear hbk
          obtain ⟨k9,S,rfl,hk9,hk932,hS,habs,hbk,hgr⟩:=hrel
          have hsz:=hgr.size
          by_cases hlt9 : k9 < l6.length
          ·have hm:=hmod.out
           have hk32 : k9 + 32 ≤ l6.length:=by omega
           have hbw : Below w6.heap.size w6 wr:=hb8.trans (below_of_grown hgr hg6 hs8)
           have hr6:=hrd.below hbw
           have hcut:=(hr6.more (B':=wr.heap.size) hbw.size).cut (lo:=k9) (hi:=k9 + 32) (cap:=c6) (by omega) hk32 (by omega)
           rw [if_neg (by omega),Nat.mul_one,Nat.mul_one,bc_drop,bc_take,Nat.add_sub_cancel_left] at hcut
           have hci : (k9 : Int) + 32 ≤ (c6 : Int):=by omega
           have hc60 : ¬ c6 = k9:=by omega
           have f1 : IntKind.i64.wrap ((k9 : Int) + 32) = (k9 : Int) + 32:=IntWalk.i64_in _ (by omega)
           have hki9 : (k9 : Int) < (l6.length : Int):=by omega
           have HM9:=Lib.hid hk932
           clear hm hk932
           go_wp2_with fail
           ((with_reducible refine (reftake_calls g k8 S tail c8 _ ((l6.drop k9).take 32) 32 _ wr hS hbk (by omega) hcut rfl HK8.out).mono ?_); rintro e w9 ⟨rfl,hb9,hg9⟩)
           go_wp2_with fail
           refine ⟨⟨k9 + 32,_,rfl,hk32,by have:=HM9.out; omega,hS.sumB _,?_,hb9,grown_step hgr hg9⟩,by simp [intOf]; omega⟩
           unfold Hid
           rw [← habs.out,absorb_ge (l:=l6.drop k9) (by rw [List.length_drop]; omega),List.drop_drop]
          ·have hki9 : ¬ (k9 : Int) < (l6.length : Int):=by omega
           have hfin : Hid (S = (absorb first l6).1):=by
            unfold Hid
            rw [← habs.out,List.drop_eq_nil_of_le (by omega),absorb_lt (by simp)]
           have hball : Below w.heap.size w wr:=hbl.trans ((hb8.trans (below_of_grown hgr hg6 hs8)).mono hs)
           clear hk932 habs hgr hb8
           go_wp2_with fail
           obtain ⟨w9,hw9⟩ : ∃ w9,w9 = wr:=⟨_,rfl⟩
           rw [← hw9] at hbk hball hsz
           rw [← hw9]
           clear hw9
           have hlg:=hbk.lt
           go_loopw [10,11] (fun out i wr => RsOut S w9 out i wr) (fun _ i _ => 8 - (intOf i).toNat)
           case atStart => exact ⟨0,[],none,0,rfl,rfl,by omega,rfl,⟨by simp [bc],.inl ⟨rfl,rfl⟩⟩,Below.refl _ _⟩
           case round =>
            obtain ⟨ka,la,Aa,ca,rfl,rfl,hka,ea,hoa,hba⟩:=hrel
            have hsa:=hba.size
            by_cases hlta : ka < 8
            ·have hkia : (ka : Int) < 8:=by omega
             have hcell : wr.cell? ⟨g,ka,none⟩ = some (.int .u32 (getI S ka)):=by rw [(hbk.below hba hlg).cell]; exact wc_get hS tail hlta
             have hrg:=hS.get hlta
             obtain ⟨x,hx⟩ : ∃ x : Nat,x = (getI S ka).toNat:=⟨_,rfl⟩
             have hxe : getI S ka = (x : Int):=by omega
             have hx32 : x < 4294967296:=by omega
             rw [hxe] at hcell
             have HX:=Lib.hid hx
             have hll : la.length = 4 * ka:=by rw [ea.out]; exact outOf_take_length hS.1 (by omega)
             have HLL:=Lib.hid hll
             have hlb : la.length ≤ 32:=by omega
             obtain ⟨v0,hv0⟩ : ∃ v : Nat,v = x % 256:=⟨_,rfl⟩
             obtain ⟨v1,hv1⟩ : ∃ v : Nat,v = x / 256 % 256:=⟨_,rfl⟩
             obtain ⟨v2,hv2⟩ : ∃ v : Nat,v = x / 65536 % 256:=⟨_,rfl⟩
             obtain ⟨v3,hv3⟩ : ∃ v : Nat,v = x / 16777216:=⟨_,rfl⟩
             have hbytes : Hid (bc (leB 4 x) = [.int .u8 v0,.int .u8 v1,.int .u8 v2,.int .u8 v3]):=by
              unfold Hid
              rw [leB_four x hx32,hv0,hv1,hv2,hv3]
             have f0 : (x : Int) % 256 = (v0 : Int):=by omega
             have f1 : (x : Int) / 256 % 256 = (v1 : Int):=by omega
             have f2 : (x : Int) / 65536 % 256 = (v2 : Int):=by omega
             have f3 : (x : Int) / 16777216 = (v3 : Int):=by omega
             have t0 : (x : Int).tmod 256 = (v0 : Int):=by rw [Int.tmod_eq_emod_of_nonneg (by omega)]; exact f0
             have t1 : ((x : Int) / 256).tmod 256 = (v1 : Int):=by rw [Int.tmod_eq_emod_of_nonneg (by omega)]; exact f1
             have t2 : ((x : Int) / 65536).tmod 256 = (v2 : Int):=by rw [Int.tmod_eq_emod_of_nonneg (by omega)]; exact f2
             have w1 : IntKind.u32.wrap ((x : Int) / 256) = (x : Int) / 256:=by rw [IntKind.wrap_u32]; omega
             have w2 : IntKind.u32.wrap ((x : Int) / 65536) = (x : Int) / 65536:=by rw [IntKind.wrap_u32]; omega
             have w3 : IntKind.u32.wrap (v3 : Int) = (v3 : Int):=by rw [IntKind.wrap_u32]; omega
             have hk8x : (ka : Int) < (k8 : Int):=by have:=HK8.out; omega
             have b0 : IntKind.u8.wrap (v0 : Int) = (v0 : Int):=by rw [IntKind.wrap_u8]; omega
             have b1 : IntKind.u8.wrap (v1 : Int) = (v1 : Int):=by rw [IntKind.wrap_u8]; omega
             have b2 : IntKind.u8.wrap (v2 : Int) = (v2 : Int):=by rw [IntKind.wrap_u8]; omega
             have b3 : IntKind.u8.wrap (v3 : Int) = (v3 : Int):=by rw [IntKind.wrap_u8]; omega
             clear hx hxe hll hv0 hv1 hv2 hv3 hrg
             go_wp2_with fail
             go_region_held3 (fun w' => w'.cell? ⟨g,ka,none⟩ = some (.int .u32 x)) (first | go_keep | (rw [z2.cell (p:=⟨g,_,none⟩) hlg]; assumption))
              ((refine app8r (by rfl) (.tmp 75) (.tmp 102) (by rfl) w9.heap.size _ la.length la (by rfl) (World.ownsRow.alloc (w:=World.drew wr) hoa _) (wr.heap.size + 1) _ 4 4 (leB 4 x) (by rfl) (by rw [hbytes.out]; exact (Rd.newN wr _ [.int .u8 v0,.int .u8 v1,.int .u8 v2,.int .u8 v3]).drew) (by omega) (by simp; omega) ?_; intro l' A' c' w' z1 z3 z2 z4 z5 z6))
             go_wp2_with fail
             refine ⟨⟨ka + 1,l',A',c',rfl,by go_num,by omega,?_,z3,hba.trans (((Below.refl _ _).alloc hsa _).drew.trans z2)⟩,by simp [intOf]; omega⟩
             unfold Hid
             rw [z1.out,ea.out,outOf_take_succ (by rw [hS.1]; exact hlta),← HX.out]
            ·have hkia : ¬ (ka : Int) < 8:=by omega
             have hka8 : ka = 8:=by omega
             have hout : Hid (la = sumOf l):=by
              refine HD.out la ?_
              rw [ea.out,hka8,List.take_of_length_le (by rw [hS.1]; exact Nat.le_refl _),hfin.out]
             have HKA:=Lib.hid hka8
             clear hka8
             go_wp2_with (refine conv8 rfl (.tmp 104) rfl wr.heap.size Aa la.length ca la rfl (Rd.of_own hoa) ?_)
             go_ret
             exact ⟨la,hout,rfl,hball.trans (hba.mono hball.size)⟩
  ·have hb24 : ((q : Int) != 24) = true:=by simp; omega
   have hkl : k < padN l.length:=by
    have:=HQ.out
    have:=hpn.out
    have:=h3l.out
    omega
   go_wp2_with (at_builtin; refine push8 rfl (.tmp 22) (.tmp 23) rfl w.heap.size _ l3.length l3 rfl ho rfl (by decide) (by decide) (by omega) (by omega) ?_)
   intro d l5 A5 c5 w5 ed e5 ho5 hb5 _ _ j3 j4
   go_wp2_with fail
   have h5l : l5.length = l.length + 1 + (k + 1):=by rw [e5.out,List.length_append,h3l.out]; rfl
   have hd0 : d = 0:=by
    have:=ed.out
    exact UInt8.toNat_inj.1 (by simpa using this)
   refine ⟨⟨k + 1,l5,A5,c5,rfl,?_,h5l,hkl,ho5,hbl.trans hb5⟩,?_⟩
   ·unfold Hid
    rw [e5.out,hd0,e3.out,List.replicate_succ']
    simp
   ·show l.length + 1 + padN l.length - l5.length < l.length + 1 + padN l.length - l3.length
    rw [h5l,h3l.out]
    omega
end Go.Proofs.YtnaakfnbmeimaaaGreat
