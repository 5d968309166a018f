/- The document's Press and the document's delta: what they hand back lies in new rows. Conditions: as each law names. -/
import Derived.Test.YtnaakfnbmeimaaaGreatPressA
import Derived.Test.YtnaakfnbmeimaaaGreatDeltaA
import Derived.BigQuiet
import Derived.Deep.RegionHeld3
set_option maxRecDepth 100000
set_option maxHeartbeats 4000000
set_option linter.unusedVariables false
namespace Go.Proofs.YtnaakfnbmeimaaaGreat
open Go.RowKit Go.Dol
def New (base : Nat) (A : Option Addr) (l : List UInt8) : Prop:=0 < l.length → ∀ k,segBlock A = some k → base ≤ k
theorem New.lower {base base' : Nat} {A : Option Addr} {l : List UInt8} (h : New base A l) (hb : base' ≤ base) : New base' A l:=fun hn k hk => Nat.le_trans hb (h hn k hk)
theorem New.own {w : World} {base : Nat} {A : Option Addr} {l : List UInt8} {c : Nat} (h : w.ownsRow base 5 1 (.slice A l.length c) l.length (bc l)) : New base A l:=fun hn k hk => by
 rcases h.2 with ⟨h1,h0⟩ | ⟨g,cap,cur,h1,h2,_⟩
 ·omega
 ·injection h1 with h1
  rw [h1] at hk
  injection hk with hk
  have e : g = k:=hk
  omega
def RetSN (base : Nat) (w : World) (l : List UInt8) (e : Ending) (w' : World) : Prop :=
 ∃ (l' : List UInt8) (A : Option Addr) (c : Nat),Hid (l' = l) ∧ e = .returned (.slice A l'.length c) ∧ Rd w' w'.heap.size 1 A l'.length (bc l') ∧ Below w.heap.size w w' ∧ l'.length ≤ c ∧ c ≤ maxLen ∧ New base A l'
theorem refrun_new (A : Option Addr) (out : List UInt8) (c : Nat) (A2 : Option Addr) (l : List UInt8) (n c2 : Nat) (w : World) (hn : n = l.length) (hr : Rd w w.heap.size 1 A out.length (bc out)) (hc : out.length ≤ c) (hc2 : c ≤ maxLen) (hr2 : Rd w w.heap.size 1 A2 n (bc l))
  (hl : out.length + 9 + n ≤ 140737488355328) (base : Nat) (hN : New base A out) (hbase : base ≤ w.heap.size) :
  Calls Tryz.prog 69 #[.slice A out.length c,.slice A2 n c2] w (RetSN base w (out ++ runB l)):=by
 by_cases h0 : l = []
 ·subst h0
  subst hn
  go_enter Tryz.func69,Tryz.ntmps69
  go_wp2_with fail
  go_ret
  exact ⟨out,A,c,by simp [Hid,runB],rfl,hr,Below.refl _ _,hc,hc2,hN⟩
 ·have hp : 0 < l.length:=List.length_pos_iff.2 h0
  have HN:=Lib.hid hn
  have hp2 : 0 < n:=by omega
  have hz : ((n : Int) == 0) = false:=by simp; omega
  have f1 : IntKind.i64.wrap ((n : Int) - 1) = (n : Int) - 1:=IntWalk.i64_in _ (by omega)
  have hcl : Hid (clampN (2 * ((n : Int) - 1)) = 2 * (l.length - 1)):=by unfold Hid clampN; omega
  clear hn hp
  go_enter Tryz.func69,Tryz.ntmps69
  go_wp2_with fail
  refine (RefPutNum_calls A out c _ w hr (by omega)).mono ?_
  rintro e w1 ⟨l1,A1,c1,e1,rfl,ho1,hb1,i1,i2⟩
  have hl1 : l1.length ≤ out.length + 9:=by
   rw [e1.out,List.length_append]
   have:=num_length_le 8 (clampN (2 * ((n : Int) - 1))) (by have:=clampN_le (2 * ((n : Int) - 1)); unfold mostNum at this; omega)
   omega
  have hr2':=(hr2.belowW hb1 (Nat.le_refl _)).more hb1.size
  go_wp2_with (at_builtin; refine app8 rfl (.tmp 14) (.tmp 15) rfl w.heap.size _ l1.length l1 rfl ho1 w1.heap.size A2 n c2 l rfl hr2' (by omega) hb1.size ?_)
  intro l2 A3 c3 w2 e2 ho2 hb2 _ _ i3 i4
  go_wp2_with fail
  go_ret
  refine ⟨l2,A3,c3,?_,rfl,Rd.of_own ho2,hb1.trans hb2,i3,i4,(New.own ho2).lower hbase⟩
  unfold Hid runB
  rw [e2.out,e1.out,hcl.out,if_neg h0,List.append_assoc]
def PressRelN (b : List UInt8) (w : World) (out frm i : Value) (wr : World) : Prop :=
 ∃ (k f : Nat) (l : List UInt8) (A : Option Addr) (c : Nat),out = .slice A l.length c ∧ frm = .int .i64 f ∧ i = .int .i64 k ∧ f ≤ k ∧ k ≤ b.length ∧ Hid (pressL b = l ++ press b k f) ∧
  Rd wr wr.heap.size 1 A l.length (bc l) ∧ Below w.heap.size w wr ∧ l.length ≤ c ∧ c ≤ maxLen ∧ New w.heap.size A l
theorem refPress_new (A : Option Addr) (b : List UInt8) (c : Nat) (w : World) (hr : Rd w w.heap.size 1 A b.length (bc b)) (hb : b.length ≤ 16777216) (hc : b.length ≤ c) :
  Calls Tryz.prog 34 #[.slice A b.length c] w (RetSN w.heap.size w (pressL b)):=by
 go_enter Tryz.func34,Tryz.ntmps34
 go_wp2_with fail
 refine (RefPutNum_calls none [] 0 _ w Rd.nil (by decide)).mono ?_
 rintro e w1 ⟨l1,A1,c1,e1,rfl,ho1,hb1,i1,i2⟩
 have hstart : Hid (pressL b = l1 ++ press b 0 0):=by
  unfold Hid pressL
  rw [e1.out,List.nil_append,clampN_of (by omega)]
 clear e1
 go_wp2_with fail
 go_loopw [3,4,5] (fun out f i wr => PressRelN b w out f i wr) (fun _ _ i _ => b.length - (intOf i).toNat)
 case atStart => exact ⟨0,0,l1,A1,c1,rfl,rfl,rfl,Nat.le_refl _,Nat.zero_le _,hstart,Rd.of_own ho1,hb1,i1,i2,New.own ho1⟩
 case round =>
  clear ho1 hb1 hstart i1 i2
  obtain ⟨k,f,l,A1,c1,rfl,rfl,rfl,hfk,hk,heq,hro,hbel,i1,i2,hN⟩:=hrel
  have hlb:=pressL_long hb heq.out
  have hs:=hbel.size
  have hrb:=(hr.belowW hbel (Nat.le_refl _)).more hs
  by_cases hlt : k < b.length
  ·have hki : (k : Int) < (b.length : Int):=by omega
   go_wp2_with fail
   refine (reflongest_calls A b c k wr _ hrb (by omega) (by omega)).mono ?_
   rintro e w2 ⟨rfl,q,hw2⟩
   have hro2 : Rd w2 w2.heap.size 1 A1 l.length (bc l):=by rw [hw2]; exact hro.drewN q
   have hrb2 : Rd w2 w2.heap.size 1 A b.length (bc b):=by rw [hw2]; exact hrb.drewN q
   have hbel2 : Below w.heap.size w w2:=by rw [hw2]; exact hbel.drewN' q
   clear hw2 hro hrb hbel hs
   have hs:=hbel2.size
   have hll:=longest_le b k
   have hsp:=longest_spec (b:=b) (i:=k)
   obtain ⟨n,hn⟩ : ∃ n,n = (longest b k).1:=⟨_,rfl⟩
   obtain ⟨d,hd⟩ : ∃ d,d = (longest b k).2:=⟨_,rfl⟩
   rw [← hn,← hd] at hsp ⊢
   rw [← hn] at hll
   by_cases h4 : n < 4
   ·have h4i : (n : Int) < 4:=by omega
    have heq' : Hid (pressL b = l ++ press b (k + 1) f):=by unfold Hid; rw [heq.out,press_next hlt (by rw [← hn]; exact h4)]
    have HN:=Lib.hid hn
    have HD:=Lib.hid hd
    clear hn hd hsp
    go_wp2_with fail
    exact ⟨⟨k + 1,f,l,A1,c1,rfl,rfl,by go_num,by omega,by omega,heq',hro2,hbel2,i1,i2,hN⟩,by simp [intOf]; omega⟩
   ·have hsp:=hsp (by omega)
    have h4i : ¬ ((n : Int) < 4):=by omega
    have heq' : Hid (pressL b = l ++ (runB ((b.drop f).take (k - f)) ++ (num (2 * (n - 4) + 1) ++ (num d ++ press b (k + n) (k + n))))):=by unfold Hid; rw [heq.out,press_copy hlt (by rw [← hn]; omega),← hn,← hd]
    have hcut:=hrb2.cut (lo:=f) (hi:=k) (cap:=c) hfk hk hc
    rw [if_neg (by omega),Nat.mul_one,Nat.mul_one,bc_drop,bc_take] at hcut
    have hd1:=hsp.1
    have hd2:=hsp.2.2.1
    have hn2:=hsp.2.2.2.1
    have hn3:=hsp.2.2.2.2.1
    have HN:=Lib.hid hn
    have HD:=Lib.hid hd
    clear hn hd hsp heq
    have hfi : (f : Int) ≤ (k : Int):=by omega
    have hkc : (k : Int) ≤ (c : Int):=by omega
    have hcf : ¬ (c = f):=by omega
    go_wp2_with fail
    refine (refrun_new (base:=w.heap.size) (hN:=hN) (hbase:=hs) A1 l c1 _ ((b.drop f).take (k - f)) (k - f) _ w2 (by rw [List.length_take,List.length_drop]; omega) hro2 i1 i2 hcut (by omega)).mono ?_
    rintro e w3 ⟨l3,A3,c3,e3,rfl,hr3,hb3,j1,j2,hN3⟩
    go_wp2_with fail
    have hl3 : l3.length ≤ 37748800:=by
     have:=(runB_cost4 ((b.drop f).take (k - f)) (by rw [List.length_take,List.length_drop]; omega)).2.2.2
     rw [List.length_take,List.length_drop] at this
     rw [e3.out,List.length_append]
     omega
    have hcl1 : Hid (clampN (2 * ((n : Int) - 4) + 1) = 2 * (n - 4) + 1):=by unfold Hid clampN; omega
    have hcl2 : Hid (clampN (d : Int) = d):=clampN_of (by omega)
    refine (RefPutNum_calls A3 l3 c3 _ w3 hr3 (by omega)).mono ?_
    rintro e w4 ⟨l4,A4,c4,e4,rfl,ho4,hb4,j3,j4⟩
    have hl4 : l4.length ≤ 37748809:=by
     have:=num_length_le 8 (2 * (n - 4) + 1) (by omega)
     rw [e4.out,hcl1.out,List.length_append]
     omega
    go_wp2_with fail
    refine (RefPutNum_calls A4 l4 c4 _ w4 (Rd.of_own ho4) (by omega)).mono ?_
    rintro e w5 ⟨l5,A5,c5,e5,rfl,ho5,hb5,j5,j6⟩
    have hfin : Hid (pressL b = l5 ++ press b (k + n) (k + n)):=by
     unfold Hid
     rw [e5.out,e4.out,e3.out,hcl1.out,hcl2.out,heq'.out]
     simp only [List.append_assoc]
    have hbel5:=((hbel2.trans (hb3.mono hs)).trans (hb4.mono (Nat.le_trans hs hb3.size))).trans (hb5.mono (Nat.le_trans (Nat.le_trans hs hb3.size) hb4.size))
    go_wp2_with fail
    exact ⟨⟨k + n,k + n,l5,A5,c5,rfl,by go_num,by go_num,Nat.le_refl _,hn3,hfin,Rd.of_own ho5,hbel5,j5,j6,(New.own ho5).lower (Nat.le_trans (Nat.le_trans hs hb3.size) hb4.size)⟩,by simp [intOf]; omega⟩
  ·have hki : ¬ ((k : Int) < (b.length : Int)):=by omega
   have htail:=hrb.tail (k:=f) (cap:=c) (by omega) hc
   have hfin : Hid (pressL b = l ++ runB (b.drop f)):=by unfold Hid; rw [heq.out,press_end (by omega)]
   have hfi : (f : Int) ≤ (b.length : Int):=by omega
   by_cases hcf : c = f
   ·rw [if_pos hcf] at htail
    have HC:=Lib.hid hcf
    go_wp2_with fail
    refine (refrun_new (base:=w.heap.size) (hN:=hN) (hbase:=hs) A1 l c1 _ (b.drop f) (b.length - f) _ wr (by rw [List.length_drop]) hro i1 i2 htail (by omega)).mono ?_
    rintro e w3 ⟨l3,A3,c3,e3,rfl,hr3,hb3,j1,j2,hN3⟩
    go_wp2_with fail
    go_ret
    exact ⟨l3,A3,c3,by unfold Hid; rw [e3.out,hfin.out],rfl,hr3,hbel.trans (hb3.mono hs),j1,j2,hN3⟩
   ·rw [if_neg hcf] at htail
    have HC:=Lib.hid hcf
    go_wp2_with fail
    refine (refrun_new (base:=w.heap.size) (hN:=hN) (hbase:=hs) A1 l c1 _ (b.drop f) (b.length - f) _ wr (by rw [List.length_drop]) hro i1 i2 htail (by omega)).mono ?_
    rintro e w3 ⟨l3,A3,c3,e3,rfl,hr3,hb3,j1,j2,hN3⟩
    go_wp2_with fail
    go_ret
    exact ⟨l3,A3,c3,by unfold Hid; rw [e3.out,hfin.out],rfl,hr3,hbel.trans (hb3.mono hs),j1,j2,hN3⟩
theorem refinsert_new (A : Option Addr) (out : List UInt8) (c : Nat) (A2 : Option Addr) (l : List UInt8) (n c2 : Nat) (w : World) (hn : n = l.length) (hr : Rd w w.heap.size 1 A out.length (bc out)) (hc : out.length ≤ c) (hc2 : c ≤ maxLen) (hr2 : Rd w w.heap.size 1 A2 n (bc l))
  (hl : out.length + 9 + n ≤ 140737488355328) (base : Nat) (hN : New base A out) (hbase : base ≤ w.heap.size) :
  Calls Tryz.prog 74 #[.slice A out.length c,.slice A2 n c2] w (RetSN base w (out ++ runB l)):=by
 by_cases h0 : l = []
 ·subst h0
  subst hn
  go_enter Tryz.func74,Tryz.ntmps74
  go_wp2_with fail
  go_ret
  exact ⟨out,A,c,by simp [Hid,runB],rfl,hr,Below.refl _ _,hc,hc2,hN⟩
 ·have hp : 0 < l.length:=List.length_pos_iff.2 h0
  have HN:=Lib.hid hn
  have hp2 : 0 < n:=by omega
  have hz : ((n : Int) == 0) = false:=by simp; omega
  have f1 : IntKind.i64.wrap ((n : Int) - 1) = (n : Int) - 1:=IntWalk.i64_in _ (by omega)
  have hcl : Hid (clampN (2 * ((n : Int) - 1)) = 2 * (l.length - 1)):=by unfold Hid clampN; omega
  clear hn hp
  go_enter Tryz.func74,Tryz.ntmps74
  go_wp2_with fail
  refine (RefPutNum_calls A out c _ w hr (by omega)).mono ?_
  rintro e w1 ⟨l1,A1,c1,e1,rfl,ho1,hb1,i1,i2⟩
  have hl1 : l1.length ≤ out.length + 9:=by
   rw [e1.out,List.length_append]
   have:=num_length_le 8 (clampN (2 * ((n : Int) - 1))) (by have:=clampN_le (2 * ((n : Int) - 1)); unfold mostNum at this; omega)
   omega
  have hr2':=(hr2.belowW hb1 (Nat.le_refl _)).more hb1.size
  go_wp2_with (at_builtin; refine app8 rfl (.tmp 14) (.tmp 15) rfl w.heap.size _ l1.length l1 rfl ho1 w1.heap.size A2 n c2 l rfl hr2' (by omega) hb1.size ?_)
  intro l2 A3 c3 w2 e2 ho2 hb2 _ _ i3 i4
  go_wp2_with fail
  go_ret
  refine ⟨l2,A3,c3,?_,rfl,Rd.of_own ho2,hb1.trans hb2,i3,i4,(New.own ho2).lower hbase⟩
  unfold Hid runB
  rw [e2.out,e1.out,hcl.out,if_neg h0,List.append_assoc]
theorem refcopyOf_new (A : Option Addr) (out : List UInt8) (c n k : Nat) (w : World) (hr : Rd w w.heap.size 1 A out.length (bc out)) (hc : out.length ≤ c) (hc2 : c ≤ maxLen) (hn : n ≤ 1099511627776) (hk : k ≤ 1099511627776) (hl : out.length + 18 ≤ 140737488355328) (base : Nat) (hN : New base A out) (hbase : base ≤ w.heap.size) :
  Calls Tryz.prog 72 #[.slice A out.length c,.int .i64 n,.int .i64 k] w (RetSN base w (out ++ copyOf n k)):=by
 by_cases h0 : n = 0
 ·subst h0
  go_enter Tryz.func72,Tryz.ntmps72
  go_wp2_with fail
  go_ret
  exact ⟨out,A,c,by simp [Hid,copyOf],rfl,hr,Below.refl _ _,hc,hc2,hN⟩
 ·have hz : ((n : Int) == 0) = false:=by simp; omega
  have f1 : IntKind.i64.wrap ((n : Int) - 1) = (n : Int) - 1:=IntWalk.i64_in _ (by omega)
  have f2 : IntKind.i64.wrap (2 * ((n : Int) - 1)) = 2 * ((n : Int) - 1):=IntWalk.i64_in _ (by omega)
  have f3 : IntKind.i64.wrap (2 * ((n : Int) - 1) + 1) = 2 * ((n : Int) - 1) + 1:=IntWalk.i64_in _ (by omega)
  have hcl : Hid (clampN (2 * ((n : Int) - 1) + 1) = 2 * (n - 1) + 1):=by unfold Hid clampN; omega
  have hcl2 : Hid (clampN (k : Int) = k):=by unfold Hid clampN; omega
  have H0:=Lib.hid h0
  clear h0
  go_enter Tryz.func72,Tryz.ntmps72
  go_wp2_with fail
  refine (RefPutNum_calls A out c _ w hr (by omega)).mono ?_
  rintro e w1 ⟨l1,A1,c1,e1,rfl,ho1,hb1,i1,i2⟩
  have hl1 : l1.length ≤ out.length + 9:=by
   rw [e1.out,List.length_append]
   have:=num_length_le 8 (clampN (2 * ((n : Int) - 1) + 1)) (by have:=clampN_le (2 * ((n : Int) - 1) + 1); unfold mostNum at this; omega)
   omega
  go_wp2_with fail
  refine (RefPutNum_calls A1 l1 c1 _ w1 (Rd.of_own ho1) (by omega)).mono ?_
  rintro e w2 ⟨l2,A2,c2,e2,rfl,ho2,hb2,i3,i4⟩
  go_wp2_with fail
  go_ret
  refine ⟨l2,A2,c2,?_,rfl,Rd.of_own ho2,hb1.next hb2,i3,i4,(New.own ho2).lower (Nat.le_trans hbase hb1.size)⟩
  unfold Hid copyOf
  rw [e2.out,e1.out,hcl.out,hcl2.out,if_neg H0.out,List.append_assoc]
def EncRelN (T tail base m : List UInt8) (w : World) (out frm i : Value) (wr : World) : Prop :=
 ∃ (k f : Nat) (l : List UInt8) (A1 : Option Addr) (c1 : Nat),out = .slice A1 l.length c1 ∧ frm = .int .i64 f ∧ i = .int .i64 k ∧ f ≤ k ∧ k ≤ m.length ∧ Hid (T = l ++ (midG base m k f ++ tail)) ∧
  Rd wr wr.heap.size 1 A1 l.length (bc l) ∧ Below w.heap.size w wr ∧ l.length ≤ c1 ∧ c1 ≤ maxLen ∧ New w.heap.size A1 l
theorem refDEncode_new (A : Option Addr) (b : List UInt8) (c : Nat) (A2 : Option Addr) (t : List UInt8) (c2 : Nat) (w : World) (hr : Rd w w.heap.size 1 A b.length (bc b)) (hr2 : Rd w w.heap.size 1 A2 t.length (bc t))
  (hb : b.length ≤ 16777216) (ht : t.length ≤ 16777216) (hc : b.length ≤ c) (hcm : c ≤ maxLen) (hc2 : t.length ≤ c2) (hcm2 : c2 ≤ maxLen) :
  Calls Tryz.prog 35 #[.slice A b.length c,.slice A2 t.length c2] w (RetSN w.heap.size w (encL b t)):=by
 have hcb : Hid (clampN (b.length : Int) = b.length):=clampN_ofD (by omega)
 have hct : Hid (clampN (t.length : Int) = t.length):=clampN_ofD (by omega)
 have hcost : Hid ((encL b t).length ≤ 16777241):=by unfold Hid; have:=enc_cost4 (base:=b) (target:=t) hb ht; omega
 obtain ⟨T,hT⟩ : ∃ T,T = encL b t:=⟨_,rfl⟩
 rw [← hT] at hcost ⊢
 have HT:=Lib.hid hT
 clear hT
 go_enter Tryz.func35,Tryz.ntmps35
 go_wp2_with fail
 refine (RefPutNum_calls none [] 0 _ w Rd.nil (by decide)).mono ?_
 rintro e w1 ⟨l1,A1,c1,e1,rfl,ho1,hb1,i1,i2⟩
 have hl1 : l1.length ≤ 9:=by
  rw [e1.out,hcb.out,List.nil_append]
  exact num_length_le 8 _ (by omega)
 go_wp2_with fail
 refine (RefPutNum_calls A1 l1 c1 _ w1 (Rd.of_own ho1) (by omega)).mono ?_
 rintro e w2 ⟨l2,A2',c2',e2,rfl,ho2,hb2,i3,i4⟩
 have hl2 : Hid (l2 = num b.length ++ num t.length):=by unfold Hid; rw [e2.out,e1.out,hcb.out,hct.out,List.nil_append]
 have hb12:=hb1.next hb2
 have hrx:=hr.aliveD hb12
 have hrx2:=hr2.aliveD hb12
 have hro:=Rd.of_own ho2
 have hN2:=(New.own ho2).lower hb1.size
 clear e2 e1 hcb hct ho1 ho2 hb1 hb2
 go_wp2_with fail
 refine (refbegins_calls A b c A2 t c2 w2 _ _ hrx hrx2 (by omega) (by omega)).mono ?_
 rintro e w3 ⟨rfl,q3,hw3⟩
 have hple:=begins_le b t
 obtain ⟨p,hp⟩ : ∃ p,p = begins b t:=⟨_,rfl⟩
 rw [← hp] at hple ⊢
 have HP:=Lib.hid hp
 clear hp
 have hb3 : Below w.heap.size w w3:=by rw [hw3]; exact hb12.drewN' q3
 have hrx3:=hr.aliveD hb3
 have hrx3t:=hr2.aliveD hb3
 have hro3 : Rd w3 w3.heap.size 1 A2' l2.length (bc l2):=by rw [hw3]; exact hro.drewN q3
 clear hw3 hrx hrx2 hro hb12
 obtain ⟨x1,B1,d1,ex1,jx1,jx1',⟨rx1,kx1,kx1'⟩,_,_,_,sx1⟩:=sl_from (k:=p) (p : Int) rfl hrx3 hple.1 hc hcm
 obtain ⟨x2,B2,d2,ex2,jx2,jx2',⟨rx2,kx2,kx2'⟩,_,_,_,sx2⟩:=sl_from (k:=p) (p : Int) rfl hrx3t hple.2 hc2 hcm2
 go_wp2_with fail
 go_quiet ((go_at_call 71; exact Calls.quiet_of (refends_calls B1 x1 d1 B2 x2 d2 _ w3.heap.size w3.heap.size (rx1.drewN _) (rx2.drewN _) (by omega) (by omega))))
 have hele:=ends_le x1 x2
 obtain ⟨e,he⟩ : ∃ e,e = ends x1 x2:=⟨_,rfl⟩
 rw [← he] at hele ⊢
 have HE : Hid (e = ends (b.drop p) (t.drop p)):=by unfold Hid; rw [he,ex1.out,ex2.out]
 clear he
 obtain ⟨w4,hw4⟩ : ∃ v,v = w3.drewN nq:=⟨_,rfl⟩
 rw [← hw4]
 have hb4 : Below w.heap.size w w4:=by rw [hw4]; exact hb3.drewN' nq
 have hro4 : Rd w4 w4.heap.size 1 A2' l2.length (bc l2):=by rw [hw4]; exact hro3.drewN nq
 clear hw4 sx1 sx2 rx1 rx2 hro3 hrx3 hrx3t hb3 ex1 ex2
 go_wp2_with fail
 refine (refcopyOf_new (base:=w.heap.size) (hN:=hN2) (hbase:=hb4.size) A2' l2 c2' p 0 w4 hro4 i3 i4 (by omega) (by omega) (by have:=num_length_le 8 b.length (by omega); have:=num_length_le 8 t.length (by omega); rw [hl2.out,List.length_append]; omega)).mono ?_
 rintro e' w5 ⟨l3,A3,c3,e3,rfl,hr3,hb5',i5,i6,hN3⟩
 have hb5:=hb4.trans (hb5'.mono hb4.size)
 clear hb5' hb4 hro4
 obtain ⟨m,Am,cm,em,jm,jm',⟨rm,km,km'⟩,_,_,_,sm⟩:=sl_mid (lo:=p) (hi:=t.length - e) (p : Int) ((t.length : Int) - (e : Int)) rfl (by omega) hr2 (by omega) (by omega) hc2 hcm2
 have hTm : Hid (T = l3 ++ (midG b m 0 0 ++ copyOf e (b.length - e))):=by
  unfold Hid
  rw [HT.out,enc_parts b t HP.out HE.out,e3.out,hl2.out,em.out,show t.length - e - p = t.length - p - e by omega]
  simp only [List.append_assoc]
 go_wp2_with fail
 clear sm em e3 hl2 HP HE HT
 go_loopw [5,9,10] (fun out frm i wr => EncRelN T (copyOf e (b.length - e)) b m w out frm i wr) (fun _ _ i _ => m.length - (intOf i).toNat)
 case atStart => exact ⟨0,0,l3,A3,c3,rfl,rfl,rfl,Nat.le_refl _,Nat.zero_le _,hTm,hr3,hb5,i5,i6,hN3⟩
 case round =>
  clear hr3 hb5 hTm i5 i6
  obtain ⟨k,f,l,A1,c1,rfl,rfl,rfl,hfk,hkm,hT,hrl,hbel,i5,i6,hN⟩:=hrel
  have hll : l.length ≤ 16777241:=by have:=hcost.out; have h:=congrArg List.length hT.out; rw [List.length_append] at h; omega
  have hrb:=hr.aliveD hbel
  have hrm:=rm.aliveD hbel
  by_cases hkl : k < m.length
  ·have d1 : decide ((k : Int) < (m.length : Int)) = true:=by simp; omega
   have d1' : (k : Int) < (m.length : Int):=by omega
   obtain ⟨x,Ax,cx,ex,jx,jx',⟨rx,kx,kx'⟩,_,_,_,sx⟩:=sl_from (k:=k) (k : Int) rfl hrm hkm km km'
   go_wp2_with fail
   refine (refblock_calls A b c Ax x cx wr _ _ hrb rx hc (by omega) (by omega)).mono ?_
   rintro e' w6 ⟨rfl,q6,hw6⟩
   have hrl6 : Rd w6 w6.heap.size 1 A1 l.length (bc l):=by rw [hw6]; exact hrl.drewN q6
   have hrb6 : Rd w6 w6.heap.size 1 A b.length (bc b):=by rw [hw6]; exact hrb.drewN q6
   have hrm6 : Rd w6 w6.heap.size 1 Am m.length (bc m):=by rw [hw6]; exact hrm.drewN q6
   have rx6 : Rd w6 w6.heap.size 1 Ax x.length (bc x):=by rw [hw6]; exact rx.drewN q6
   have hbel6 : Below w.heap.size w w6:=by rw [hw6]; exact hbel.drewN' q6
   clear hw6 hrl hrb hrm rx hbel
   rcases hk : blockAt b x with _ | kk
   ·have hT' : Hid (T = l ++ (midG b m (k + 1) f ++ copyOf e (b.length - e))):=by unfold Hid; rw [hT.out,midG_next hkl (by rw [← ex.out]; exact hk)]
    clear hk
    simp only [blockI]
    go_wp2_with fail
    exact ⟨⟨k + 1,f,l,A1,c1,rfl,rfl,by go_num,by omega,by omega,hT',hrl6,hbel6,i5,i6,hN⟩,by simp [intOf]; omega⟩
   ·have hsp:=blockAt_spec hk
    have hT' : Hid (T = l ++ (runB ((m.drop f).take (k - f)) ++ (copyOf (begins (b.drop kk) x) kk ++ midG b m (k + begins (b.drop kk) x) (k + begins (b.drop kk) x)) ++ copyOf e (b.length - e))):=by
     unfold Hid; rw [hT.out,midG_copy hkl (by rw [← ex.out]; exact hk),← ex.out]
    clear hk
    simp only [blockI]
    obtain ⟨y,Ay,cy,ey,jy,jy',⟨ry,ky,ky'⟩,_,_,_,sy⟩:=sl_from (k:=kk) (kk : Int) rfl hrb6 (by omega) hc hcm
    have d2 : decide ((kk : Int) < 0) = false:=by simp
    go_wp2_with fail
    go_quiet ((go_at_call 70; exact Calls.quiet_of (refbegins_calls Ay y cy Ax x cx _ w6.heap.size w6.heap.size (ry.drewN _) (rx6.drewN _) (by omega) (by omega))))
    have hgl:=begins_le y x
    rw [← ey.out] at hT' hsp
    obtain ⟨g,hg⟩ : ∃ g,g = begins y x:=⟨_,rfl⟩
    rw [← hg] at hgl hT' hsp ⊢
    obtain ⟨w7,hw7⟩ : ∃ v,v = w6.drewN nq:=⟨_,rfl⟩
    rw [← hw7]
    have hrl7 : Rd w7 w7.heap.size 1 A1 l.length (bc l):=by rw [hw7]; exact hrl6.drewN nq
    have hrm7 : Rd w7 w7.heap.size 1 Am m.length (bc m):=by rw [hw7]; exact hrm6.drewN nq
    have hbel7 : Below w.heap.size w w7:=by rw [hw7]; exact hbel6.drewN' nq
    clear hw7 hrl6 hrb6 hrm6 hbel6 sx sy ry rx6 hg ex ey
    obtain ⟨z,Az,cz,ez,jz,jz',⟨rz,kz,kz'⟩,_,_,_,sz⟩:=sl_mid (lo:=f) (hi:=k) (f : Int) (k : Int) rfl rfl hrm7 hfk hkm km km'
    rw [← ez.out] at hT'
    go_wp2_with fail
    refine (refinsert_new (base:=w.heap.size) (hN:=hN) (hbase:=hbel7.size) A1 l c1 Az z z.length cz w7 rfl hrl7 i5 i6 rz (by omega)).mono ?_
    rintro e' w8 ⟨l8,A8,c8,e8,rfl,hr8,hb8,i7,i8,hN8⟩
    have hl8 : l8.length ≤ 16777241:=by
     have h:=congrArg List.length hT'.out
     have h8:=congrArg List.length e8.out
     have:=hcost.out
     simp only [List.length_append] at h h8
     omega
    clear sz hrm7 hrl7 rz ez
    go_wp2_with fail
    refine (refcopyOf_new (base:=w.heap.size) (hN:=hN8) (hbase:=(Nat.le_trans hbel7.size hb8.size)) A8 l8 c8 g kk w8 hr8 i7 i8 (by omega) (by omega) (by omega)).mono ?_
    rintro e' w9 ⟨l9,A9,c9,e9,rfl,hr9,hb9,i9,i10,hN9⟩
    have hb79:=hb8.next hb9
    go_wp2_with fail
    refine ⟨⟨k + g,k + g,l9,A9,c9,rfl,by go_num,by go_num,Nat.le_refl _,by omega,?_,hr9,hbel7.trans (hb79.mono hbel7.size),i9,i10,hN9⟩,by simp [intOf]; omega⟩
    unfold Hid
    rw [hT'.out,e9.out,e8.out]
    simp only [List.append_assoc]
  ·have d1 : decide ((k : Int) < (m.length : Int)) = false:=by simp; omega
   have d1' : ¬ (k : Int) < (m.length : Int):=by omega
   obtain ⟨x,Ax,cx,ex,jx,jx',⟨rx,kx,kx'⟩,_,_,_,sx⟩:=sl_from (k:=f) (f : Int) rfl hrm (by omega) km km'
   have hT' : Hid (T = l ++ (runB x ++ copyOf e (b.length - e))):=by unfold Hid; rw [hT.out,midG_end (by omega),ex.out]
   clear hT ex
   go_wp2_with fail
   refine (refinsert_new (base:=w.heap.size) (hN:=hN) (hbase:=hbel.size) A1 l c1 Ax x x.length cx wr rfl hrl i5 i6 rx (by omega)).mono ?_
   rintro e' w8 ⟨l8,A8,c8,e8,rfl,hr8,hb8,i7,i8,hN8⟩
   have hl8 : l8.length ≤ 16777241:=by
    have h:=congrArg List.length hT'.out
    have h8:=congrArg List.length e8.out
    have:=hcost.out
    simp only [List.length_append] at h h8
    omega
   have f1 : (b.length : Int) - (e : Int) = ((b.length - e : Nat) : Int):=by omega
   have hx:=refcopyOf_new (base:=w.heap.size) (hN:=hN8) (hbase:=(Nat.le_trans hbel.size hb8.size)) A8 l8 c8 e (b.length - e) w8 hr8 i7 i8 (by omega) (by omega) (by omega)
   rw [← f1] at hx
   clear f1 sx hrm hrl rx
   go_wp2_with fail
   refine hx.mono ?_
   rintro e' w9 ⟨l9,A9,c9,e9,rfl,hr9,hb9,i9,i10,hN9⟩
   clear hx
   go_wp2_with fail
   go_ret
   refine ⟨l9,A9,c9,?_,rfl,hr9,hbel.trans ((hb8.next hb9).mono hbel.size),i9,i10,hN9⟩
   unfold Hid
   rw [hT'.out,e9.out,e8.out,List.append_assoc]
end Go.Proofs.YtnaakfnbmeimaaaGreat
