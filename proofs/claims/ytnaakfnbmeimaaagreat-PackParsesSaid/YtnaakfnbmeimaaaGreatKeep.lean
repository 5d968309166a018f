/- The walks of the layer 'pack': the part ahead goes on; how an object is kept behind it. Conditions: bytes of at most 2^21. -/
import Derived.Test.YtnaakfnbmeimaaaGreatPackSpec
import Derived.Test.YtnaakfnbmeimaaaGreatPressB
import Derived.Test.YtnaakfnbmeimaaaGreatDeltaB
import Derived.Deep.CutBlock
set_option maxRecDepth 100000
set_option maxHeartbeats 6400000
set_option linter.unusedVariables false
namespace Go.Proofs.YtnaakfnbmeimaaaGreat
open Go.RowKit Go.Dol
theorem goOn_calls (g o : Nat) (T : TypeId) (cs : List Value) (v : Value) (d kind : Nat) (A : Option Addr) (n c : Nat) (w : World) (hb : Blk w g T cs) (h0 : cs[o]? = some v) (h1 : cs[o + 1]? = some (.int .i64 d)) (hd : d ≤ 1000) :
  Calls Tryz.prog 61 #[.pointer (some ⟨g,o,none⟩),.int .i64 kind,.slice A n c] w fun e w' => e = .returned (.tuple #[]) ∧ Blk w' g T ((cs.set (o + 1) (.int .i64 (nextD d kind : Nat))).set o (.slice A n c)) ∧ w.grownBy w' (some g):=by
 have c1 : w.cell? ⟨g,o + 1,none⟩ = some (.int .i64 d):=by rw [hb.cell]; exact h1
 have c0 : w.cell? ⟨g,o,none⟩ = some v:=by rw [hb.cell]; exact h0
 have f0:=hb.free o
 have f1:=hb.free (o + 1)
 have hw : IntKind.i64.wrap ((d : Int) + 1) = (d : Int) + 1:=IntWalk.i64_in _ (by omega)
 clear h0 h1
 by_cases hk : kind = 2
 ·have hk2 : ((kind : Int) != 2) = false:=by simp; omega
  have hn : nextD d kind = d + 1:=by unfold nextD; rw [if_pos hk]
  have HN:=Lib.hid hn
  clear hn hk
  go_enter Tryz.func61,Tryz.ntmps61
  go_wp2_with fail
  go_end0
  rw [HN.out]
  exact ⟨rfl,(hb.set (o + 1) (.int .i64 ((d : Int) + 1))).set o (.slice A n c),grown_setCell (grown_setCell (World.grownBy.refl _ _) _ _) _ _⟩
 ·have hk2 : ((kind : Int) != 2) = true:=by simp; omega
  have hn : nextD d kind = 0:=by unfold nextD; rw [if_neg hk]
  have HN:=Lib.hid hn
  clear hn hk
  go_enter Tryz.func61,Tryz.ntmps61
  go_wp2_with fail
  go_end0
  rw [HN.out]
  have h:=((hb.set (o + 1) (.int .i64 ((d : Int) + 1))).set (o + 1) (.int .i64 0)).set o (.slice A n c)
  rw [List.set_set] at h
  exact ⟨rfl,h,grown_setCell (grown_setCell (grown_setCell (World.grownBy.refl _ _) _ _) _ _) _ _⟩
theorem _root_.Go.Dol.Rd.blkw {w w' : World} {B : Nat} {A : Option Addr} {l : List UInt8} {g : Nat} {T : TypeId} {cs : List Value} (h : Rd w B 1 A l.length (bc l)) (hb : Blk w g T cs) (hn : ∀ v ∈ cs,∀ k,v ≠ .int .u8 k) (hg : w.grownBy w' (some g)) : Rd w' B 1 A l.length (bc l):=by
 refine ⟨h.len,fun h0 => ?_⟩
 obtain ⟨b,off,hA,hB,hc⟩:=h.at_ h0
 have h1:=hc 0 _ (bc_get l 0 h0)
 have hbg : b ≠ g:=fun e => by
  subst e
  rw [hb.cell] at h1
  exact hn _ (List.mem_of_getElem? h1) _ rfl
 have hlt : b < w.heap.size:=by
  rcases Nat.lt_or_ge b w.heap.size with h2 | h2
  ·exact h2
  ·have : w.heap[b]? = none:=Array.getElem?_eq_none h2
   simp [World.cell?,this] at h1
 exact ⟨b,off,hA,hB,fun j u hu => (World.cell?_of_block (hg.block b hlt (fun e => hbg (by injection e)))).trans (hc j u hu)⟩
theorem chain_no8 (A : Option Addr) (n c : Nat) (d : Int) : ∀ v ∈ [Value.slice A n c,.int .i64 d],∀ k,v ≠ .int .u8 k:=by
 intro v hv k
 simp only [List.mem_cons,List.not_mem_nil,or_false] at hv
 rcases hv with rfl | rfl <;> simp
theorem idx0 (g off n c : Nat) (w' : World) (hn1 : 0 < n) : (Instr.indexAt 25 (.slice (some ⟨g,off,none⟩) n c) (.int .i64 0)).run Tryz.prog w' = .ok (.pointer (some ⟨g,off,none⟩)) w':=by
 have hn0 : (0 : Int) < (n : Int):=by omega
 go_simp
def RetKeep (w : World) (base g : Nat) (A : Option Addr) (raw : List UInt8) (c : Nat) (k : Nat × List UInt8) (d : Nat) (e : Ending) (w' : World) : Prop :=
 ∃ (b : List UInt8) (A' : Option Addr) (c' : Nat),Hid (b = k.2) ∧ e = .returned (.tuple #[.int .i64 (k.1 : Nat),.slice A' b.length c']) ∧ Rd w' w'.heap.size 1 A' b.length (bc b) ∧ b.length ≤ c' ∧ c' ≤ maxLen ∧ Blk w' g 81 [.slice A raw.length c,.int .i64 (nextD d k.1 : Nat)] ∧ w.grownBy w' (some g) ∧ (0 < b.length → ∀ j,segBlock A' = some j → j < base ∨ w.heap.size ≤ j)
theorem keep_calls (base g : Nat) (hbg : base ≤ g) (Ap : Option Addr) (prev : List UInt8) (cp d : Nat) (A : Option Addr) (raw : List UInt8) (c : Nat) (w : World) (hb : Blk w g 81 [.slice Ap prev.length cp,.int .i64 d]) (hp : Rd w g 1 Ap prev.length (bc prev)) (hcp : prev.length ≤ cp) (hcpm : cp ≤ maxLen)
  (hr : Rd w base 1 A raw.length (bc raw)) (hc : raw.length ≤ c) (hcm : c ≤ maxLen) (hpl : prev.length ≤ 2097152) (hrl : raw.length ≤ 2097152) (h0 : 0 < raw.length) (hd : d ≤ 7) :
  Calls Tryz.prog 27 #[.pointer (some ⟨g,0,none⟩),.slice A raw.length c] w (RetKeep w base g A raw c (keepL prev d raw) d):=by
 have hgl:=hb.lt
 have hPr:=Lib.hid (Press_own A raw c w (hr.more (by omega)) (by omega) hc)
 go_enter Tryz.func27,Tryz.ntmps27
 go_wp2_with fail
 refine hPr.out.mono ?_
 rintro e w1 ⟨p,A1,c1,hp1,rfl,ho1,hb1,i1,i2⟩
 have hr1:=Rd.of_own ho1
 have hn1:=new_own ho1 (Nat.le_refl _)
 have hs1:=hb1.size
 have hB1:=hb.below hb1 hgl
 have hrp:=hp.belowW hb1 (by omega)
 have hrr:=hr.belowW hb1 (by omega)
 obtain ⟨k1,b1,A2,c2,hk1,hb2,hb2l,hc2m,hn2,HI⟩ : ∃ (k1 : Nat) (b1 : List UInt8) (A2 : Option Addr) (c2 : Nat),Hid (keep1 raw = (k1,b1)) ∧ Rd w1 w1.heap.size 1 A2 b1.length (bc b1) ∧ b1.length ≤ c2 ∧ c2 ≤ maxLen ∧ Hid (0 < b1.length → ∀ j,segBlock A2 = some j → j < base ∨ w.heap.size ≤ j) ∧ Hid (if p.length < raw.length then k1 = 1 ∧ b1 = p ∧ A2 = A1 ∧ c2 = c1 else k1 = 0 ∧ b1 = raw ∧ A2 = A ∧ c2 = c):=by
  by_cases h : p.length < raw.length
  ·exact ⟨1,p,A1,c1,by unfold Hid keep1; rw [← hp1.out,if_pos h],hr1,i1,i2,Lib.hid (fun h0 j hj => .inr (hn1 h0 j hj)),by unfold Hid; rw [if_pos h]; exact ⟨rfl,rfl,rfl,rfl⟩⟩
  ·exact ⟨0,raw,A,c,by unfold Hid keep1; rw [← hp1.out,if_neg h],hrr.more (by omega),hc,hcm,Lib.hid (fun h0 j hj => .inl (by
    obtain ⟨b0,o0,e0,h1,_⟩:=hrr.at_ h0
    rw [e0] at hj
    injection hj with hj
    have e1 : b0 = j:=hj
    omega)),by unfold Hid; rw [if_neg h]; exact ⟨rfl,rfl,rfl,rfl⟩⟩
 have hc2:=hc2m
 clear hc2m ho1 hn1
 go_upto_if 17 with (fail)
 go_cut [6,7] (fun kv bv wx => kv = .int .i64 k1 ∧ bv = .slice A2 b1.length c2 ∧ wx = w1)
 case first =>
  have hi:=HI.out
  by_cases h : p.length < raw.length
  ·rw [if_pos h] at hi
   have d1 : decide ((p.length : Int) < (raw.length : Int)) = true:=decide_eq_true (by omega)
   obtain ⟨rfl,rfl,rfl,rfl⟩:=hi
   go_wp2_with fail
   go_meet
   exact ⟨rfl,rfl,rfl⟩
  ·rw [if_neg h] at hi
   have d1 : decide ((p.length : Int) < (raw.length : Int)) = false:=decide_eq_false (by omega)
   obtain ⟨rfl,rfl,rfl,rfl⟩:=hi
   go_wp2_with fail
   go_meet
   exact ⟨rfl,rfl,rfl⟩
 case rest =>
 obtain ⟨rfl,rfl,hwx⟩:=hcut
 subst hwx
 have c0 : wc.cell? ⟨g,0,none⟩ = some (.slice Ap prev.length cp):=by rw [hB1.cell]; rfl
 have cd : wc.cell? ⟨g,1,none⟩ = some (.int .i64 d):=by rw [hB1.cell]; rfl
 obtain ⟨rb,ro,rfl,hrbb,hrcell⟩:=hrr.at_ (by omega)
 have cr : wc.cell? ⟨rb,ro,none⟩ = some (.int .u8 (raw[0]).toNat):=hrcell 0 _ (bc_get raw 0 h0)
 have ix1 : ∀ w' : World,(Instr.indexAt 25 (.slice (some ⟨rb,ro,none⟩) raw.length c) (.int .i64 0)).run Tryz.prog w' = .ok (.pointer (some ⟨rb,ro,none⟩)) w':=fun w' => idx0 rb ro raw.length c w' h0
 obtain ⟨mt,hmt⟩ : ∃ mt,mt = mayTell prev d raw:=⟨_,rfl⟩
 have HMT:=Lib.hid hmt
 clear hmt hrcell
 go_upto_region 5 with (fail)
 go_cut [43] (fun v wx => v = .bool mt ∧ ∃ q,wx = wc.drewN q)
 case first =>
  by_cases hp0 : 0 < prev.length
  ·obtain ⟨pb,po,rfl,hpbb,hpcell⟩:=hrp.at_ hp0
   have cp0 : wc.cell? ⟨pb,po,none⟩ = some (.int .u8 (prev[0]).toNat):=hpcell 0 _ (bc_get prev 0 hp0)
   have ix2 : ∀ w' : World,(Instr.indexAt 25 (.slice (some ⟨pb,po,none⟩) prev.length cp) (.int .i64 0)).run Tryz.prog w' = .ok (.pointer (some ⟨pb,po,none⟩)) w':=fun w' => idx0 pb po prev.length cp w' hp0
   have d0 : decide ((0 : Int) < (prev.length : Int)) = true:=decide_eq_true (by omega)
   obtain ⟨x,hx⟩ : ∃ x,x = (prev[0]).toNat:=⟨_,rfl⟩
   obtain ⟨y,hy⟩ : ∃ y,y = (raw[0]).toNat:=⟨_,rfl⟩
   have hxy : Hid (prev.head? = raw.head? ↔ x = y):=by
    unfold Hid
    rw [List.head?_eq_getElem?,List.head?_eq_getElem?,List.getElem?_eq_getElem hp0,List.getElem?_eq_getElem h0,hx,hy]
    constructor
    ·intro h; injection h with h; rw [h]
    ·intro h; rw [UInt8.toNat_inj.1 h]
   rw [← hx] at cp0
   rw [← hy] at cr
   clear hx hy hpcell
   by_cases h3 : x = y
   ·have h4 : Hid (mt = decide (d < 7)):=by
     unfold Hid
     rw [HMT.out]
     unfold mayTell
     rw [decide_eq_true hp0,decide_eq_true (hxy.out.2 h3)]
     simp
    clear hxy
    subst h3
    cases h5 : decide (d < 7) with
    | true =>
     have h6 : decide ((d : Int) < 7) = true:=decide_eq_true (by have:=of_decide_eq_true h5; omega)
     rw [h5] at h4
     clear h5
     go_quiet (fail)
     go_wp2_with fail
     go_meet
     exact ⟨by rw [h4.out],nq,rfl⟩
    | false =>
     have h6 : decide ((d : Int) < 7) = false:=decide_eq_false (by have:=of_decide_eq_false h5; omega)
     rw [h5] at h4
     clear h5
     go_quiet (fail)
     go_wp2_with fail
     go_meet
     exact ⟨by rw [h4.out],nq,rfl⟩
   ·have h4 : Hid (mt = false):=by
     unfold Hid
     rw [HMT.out]
     unfold mayTell
     rw [decide_eq_false (p:=prev.head? = raw.head?) (fun h => h3 (hxy.out.1 h))]
     simp
    have h5 : ((x : Int) == (y : Int)) = false:=by simp; omega
    clear hxy h3
    go_quiet (fail)
    go_wp2_with fail
    go_meet
    exact ⟨by rw [h4.out],nq,rfl⟩
  ·have d0 : decide ((0 : Int) < (prev.length : Int)) = false:=decide_eq_false (by omega)
   have h4 : Hid (mt = false):=by
    unfold Hid
    rw [HMT.out]
    unfold mayTell
    rw [decide_eq_false hp0]
    simp
   go_quiet (fail)
   go_wp2_with fail
   go_meet
   exact ⟨by rw [h4.out],nq,rfl⟩
 case rest =>
 obtain ⟨rfl,q,rfl⟩:=hcut
 have hB2:=hB1.drewN q
 have hrp2:=hrp.drewN q
 have hrr2:=hrr.drewN q
 have hb22:=hb2.drewN q
 have hb12:=hb1.drewN' q
 have hs2 : (wc.drewN q).heap.size = wc.heap.size:=rfl
 rw [← hs2] at hb22
 obtain ⟨v0,hv0⟩ : ∃ v0,v0 = wc.drewN q:=⟨_,rfl⟩
 rw [← hv0] at hB2 hrp2 hrr2 hb22 hb12 ⊢
 clear hv0 hs2 c0 cd cr hB1 hrp hrr hb2 hb1 ix1 hr1 hs1 hPr
 have hs:=hb12.size
 have hgv:=hB2.lt
 have hfin : ∀ (k : Nat) (kI : Int) (b : List UInt8) (A' : Option Addr) (c' : Nat) (u w' : World),kI = (k : Nat) → Hid (keepL prev d raw = (k,b)) → Rd u u.heap.size 1 A' b.length (bc b) → b.length ≤ c' → c' ≤ maxLen → w.grownBy u (some g) → Blk u g 81 [.slice Ap prev.length cp,.int .i64 d] →
   (Blk w' g 81 [.slice (some ⟨rb,ro,none⟩) raw.length c,.int .i64 (nextD d k : Nat)] ∧ u.grownBy w' (some g)) → Hid (0 < b.length → ∀ j,segBlock A' = some j → j < base ∨ w.heap.size ≤ j) → RetKeep w base g (some ⟨rb,ro,none⟩) raw c (keepL prev d raw) d (.returned (.tuple #[.int .i64 kI,.slice A' b.length c'])) w':=by
  intro k kI b A' c' u w' hkI hk hrd j1 j2 hgu hbu ⟨hbw,hgw⟩ hnn
  rw [hk.out,hkI]
  exact ⟨b,A',c',rfl,rfl,(hrd.blkw hbu (chain_no8 _ _ _ _) hgw).more hgw.size,j1,j2,hbw,grown_step hgu hgw,hnn.out⟩
 have HFin:=Lib.hid hfin
 clear hfin
 have hgo : ∀ (k : Nat) (kI : Int) (u : World),kI = (k : Nat) → Blk u g 81 [.slice Ap prev.length cp,.int .i64 d] → Calls Tryz.prog 61 #[.pointer (some ⟨g,0,none⟩),.int .i64 kI,.slice (some ⟨rb,ro,none⟩) raw.length c] u fun e w' => e = .returned (.tuple #[]) ∧ Blk w' g 81 [.slice (some ⟨rb,ro,none⟩) raw.length c,.int .i64 (nextD d k : Nat)] ∧ u.grownBy w' (some g) :=
  fun k kI u hkI hu => by rw [hkI]; exact goOn_calls g 0 81 _ _ d k (some ⟨rb,ro,none⟩) raw.length c u hu rfl rfl (by omega)
 have HGo:=Lib.hid hgo
 clear hgo
 have hg0:=grown_of_below hb12 (some g)
 have hcost:=keep1_len raw
 have hb1l : b1.length ≤ raw.length:=by rw [hk1.out] at hcost; exact hcost
 clear hcost
 cases mt with
 | false =>
  have hk : Hid (keepL prev d raw = (k1,b1)):=by
   unfold Hid keepL
   rw [if_neg (fun h => by rw [← HMT.out] at h; exact absurd h.1 (by simp)),hk1.out]
  go_wp2_with fail
  refine (HGo.out k1 k1 v0 rfl hB2).mono ?_
  rintro e w3 ⟨rfl,hB3,hg3⟩
  go_wp2_with fail
  go_ret2
  exact HFin.out k1 k1 b1 A2 c2 v0 w3 rfl hk hb22 hb2l hc2 hg0 hB2 ⟨hB3,hg3⟩ hn2
 | true =>
  have c0 : v0.cell? ⟨g,0,none⟩ = some (.slice Ap prev.length cp):=by rw [hB2.cell]; rfl
  have hE:=Lib.hid (DEncode_new Ap prev cp (some ⟨rb,ro,none⟩) raw c v0 (hrp2.more (by omega)) (hrr2.more (by omega)) (by omega) (by omega) hcp hcpm hc hcm)
  go_wp2_with fail
  refine hE.out.mono ?_
  rintro e v1 ⟨l,A3,c3,hl,rfl,hr3,hb3,i3,i4,i5⟩
  have hn3 : Hid (0 < l.length → ∀ j,segBlock A3 = some j → j < base ∨ w.heap.size ≤ j):=fun h0 j hj => .inr (Nat.le_trans hs (i5 h0 j hj))
  clear i5
  have hB3:=hB2.below hb3 hgv
  have hg1:=grown_below hg0 hb3
  clear hE c0
  by_cases h : l.length < b1.length
  ·have d1 : decide ((l.length : Int) < (b1.length : Int)) = true:=decide_eq_true (by omega)
   have hk : Hid (keepL prev d raw = (2,l)):=by
    unfold Hid keepL
    rw [if_pos ⟨HMT.out.symm,by rw [hk1.out,← hl.out]; exact h⟩,hl.out]
   go_wp2_with fail
   refine (HGo.out 2 2 v1 rfl hB3).mono ?_
   rintro e w3 ⟨rfl,hB4,hg3⟩
   go_wp2_with fail
   go_ret2
   exact HFin.out 2 2 l A3 c3 v1 w3 rfl hk hr3 i3 i4 hg1 hB3 ⟨hB4,hg3⟩ hn3
  ·have d1 : decide ((l.length : Int) < (b1.length : Int)) = false:=decide_eq_false (by omega)
   have hk : Hid (keepL prev d raw = (k1,b1)):=by
    unfold Hid keepL
    rw [if_neg (fun h2 => h (by have:=h2.2; rw [hk1.out,← hl.out] at this; exact this)),hk1.out]
   have hb4:=hb22.belowW hb3 (Nat.le_refl _)
   go_wp2_with fail
   refine (HGo.out k1 k1 v1 rfl hB3).mono ?_
   rintro e w3 ⟨rfl,hB4,hg3⟩
   go_wp2_with fail
   go_ret2
   exact HFin.out k1 k1 b1 A2 c2 v1 w3 rfl hk (hb4.more hb3.size) hb2l hc2 hg1 hB3 ⟨hB4,hg3⟩ hn2
end Go.Proofs.YtnaakfnbmeimaaaGreat
