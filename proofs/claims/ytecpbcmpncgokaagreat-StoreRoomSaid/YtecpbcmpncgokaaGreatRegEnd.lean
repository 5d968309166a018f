/- The walk of a pack's chain: the bytes of an object that is kept. Conditions: bytes of at most 2^47. The walks of the layer 'pack': the part ahead goes on; how an object is kept behind it. Conditions: bytes of at most 2^21. A region that draws, whose last operation waits for all others, be it through another one: it is set aside. Conditions: none. -/
import Derived.Test.YtecpbcmpncgokaaGreatStoSpec
import Derived.Test.YtecpbcmpncgokaaGreatPressB
import Derived.Test.YtecpbcmpncgokaaGreatDeltaB
import Derived.Test.YtecpbcmpncgokaaGreatShort
import Derived.Test.YtecpbcmpncgokaaGreatDisk2
import Derived.Deep.CutBlock
import Derived.Test.YtecpbcmpncgokaaGreatWordsA
set_option linter.unusedVariables false
namespace Go.Proofs.YtecpbcmpncgokaaGreat
open Go.RowKit Go.Dol
def Zcg (base:Nat) (w:World) (r:Option (LU)) (e:Ending) (w':World):Prop:=
 Below w.heap.size w w'∧match r with
 | none=>e= .returned (.tuple #[.slice none 0 0,.int .i64 2])
 | some q=> ∃(q':LU) (A:OA) (c:Nat),Hid (q'=q)∧e= .returned (.tuple #[.slice A q'.length c,.int .i64 0])∧B8 w' base A q'∧q'.length≤c∧c≤maxLen
theorem RetOpenN.toB {base:Nat} {w w':World} {r:Option (LU)} {e:Ending} (h:RetOpenN w r e w') (hb:base≤w.heap.size):Zcg base w r e w':=by
 cases r with
 | none=>exact ⟨h.2,h.1⟩
 | some q=>obtain ⟨q',A,c,h1,h2,h3,h4,h5,h6⟩:=h;exact ⟨h4,q',A,c,h1,h2,(B8.own h3).lower hb,h5,h6⟩
set_option maxRecDepth 100000 in
set_option maxHeartbeats 1600000 in
theorem ZdL (g o:Nat) (T:TypeId) (cs:List Value) (Ap:OA) (prev:LU) (cp d k base:Nat) (A:OA) (b:LU) (c:Nat) (w:World) (hb:Blk w g T cs) (h0:cs[o]?=some (.slice Ap prev.length cp)) (h1:cs[o+1]?=some (.int .i64 d)) (hp:Rd w w.heap.size 1 Ap prev.length (bc prev)) (hpl:prev.length≤2097152) (hcp:prev.length≤cp) (hcpm:cp≤maxLen)
  (ho:B8 w base A b) (hbase:base≤w.heap.size) (hc:b.length≤c) (hcm:c≤maxLen) (hl:b.length≤140737488351232):
  Calls Tryz.prog 256 #[.pointer (some ⟨g,o,none⟩),.int .i64 k,.slice A b.length c] w (Zcg base w (Z11 prev d k b)):=by
 have c0:w.cell? ⟨g,o,none⟩=some (.slice Ap prev.length cp):=by rw [hb.cell];exact h0
 have c1:w.cell? ⟨g,o+1,none⟩=some (.int .i64 d):=by rw [hb.cell];exact h1
 clear h0 h1
 by_cases k0:k=0
 ·have d0:((k:Int)==0)=true:=by simp;omega
  have e0:Z11 prev d k b=some b:=by unfold Z11;rw [if_pos k0]
  rw [e0];clear e0 k0;go_in;go_wp2_with fail;go_ret2;exact ⟨bR _ _,b,A,c,rfl,rfl,ho,hc,hcm⟩
 have d0:((k:Int)==0)=false:=by simp;omega
 by_cases k1:k=1
 ·have d1:((k:Int)==1)=true:=by simp;omega
  have e0:Z11 prev d k b=Z2o b 2097152:=by unfold Z11;rw [if_neg k0,if_pos k1]
  rw [e0];have HO:=qI (Zcs A b c 2097152 w ho.rd (by omega) hc (fun _ _ _ _=>by omega));clear e0 k0 k1;go_in;go_wp2_with fail;refine HO.out.mono ?_;intro e w1 hr;have hB:=hr.toB hbase
  cases hq:Z2o b 2097152 with
  | none=>
   rw [hq] at hB;obtain ⟨hb1,rfl⟩:=hB;go_wp2_with fail;go_ret2;rw [hq];exact ⟨hb1,rfl⟩
  | some q=>
   rw [hq] at hB;obtain ⟨hb1,q',A1,c1,hq1,rfl,ho1,i1,i2⟩:=hB;go_wp2_with fail;go_ret2;rw [hq];exact ⟨hb1,q',A1,c1,hq1,rfl,ho1,i1,i2⟩
 have d1:((k:Int)==1)=false:=by simp;omega
 by_cases k2:k=2
 ·have d2:((k:Int)==2)=true:=by simp;omega
  have e0:Z11 prev d k b=if 0<prev.length∧d<7 then Z1T prev b 2097152 else none:=by unfold Z11;rw [if_neg k0,if_neg k1,if_pos k2]
  rw [e0];clear e0 k0 k1 k2
  by_cases hp0:0<prev.length
  ·have p0:decide ((0:Int)<(prev.length:Int))=true:=dT (by omega)
   by_cases h7:d<7
   ·have p1:decide ((d:Int)<7)=true:=dT (by omega)
    rw [if_pos ⟨hp0,h7⟩];have HO:=qI (Zf8 Ap prev cp A b c 2097152 w hp (by omega) hcp hcpm ho.rd (by omega) hc (fun _ _ _ _ _ _=>by omega));go_in;go_wp2_with fail;refine HO.out.mono ?_;intro e w1 hr;have hB:=hr.toB hbase
    cases hq:Z1T prev b 2097152 with
    | none=>
     rw [hq] at hB;obtain ⟨hb1,rfl⟩:=hB;go_wp2_with fail;go_ret2;rw [hq];exact ⟨hb1,rfl⟩
    | some q=>
     rw [hq] at hB;obtain ⟨hb1,q',A1,c1,hq1,rfl,ho1,i1,i2⟩:=hB;go_wp2_with fail;go_ret2;rw [hq];exact ⟨hb1,q',A1,c1,hq1,rfl,ho1,i1,i2⟩
   ·have p1:decide ((d:Int)<7)=false:=qF (by omega)
    rw [if_neg (fun h=>h7 h.2)];go_in;go_wp2_with fail;go_ret2;exact ⟨bR _ _,rfl⟩
  ·have p0:decide ((0:Int)<(prev.length:Int))=false:=qF (by omega)
   rw [if_neg (fun h=>hp0 h.1)];go_in;go_wp2_with fail;go_ret2;exact ⟨bR _ _,rfl⟩
 have d2:((k:Int)==2)=false:=by simp;omega
 have e0:Z11 prev d k b=none:=by unfold Z11;rw [if_neg k0,if_neg k1,if_neg k2]
 rw [e0];clear e0 k0 k1 k2;go_in;go_wp2_with fail;go_ret2;exact ⟨bR _ _,rfl⟩
end Go.Proofs.YtecpbcmpncgokaaGreat
set_option maxRecDepth 100000
set_option maxHeartbeats 6400000
set_option linter.unusedVariables false
namespace Go.Proofs.YtecpbcmpncgokaaGreat
open Go.RowKit Go.Dol
theorem Z7D (g o:Nat) (T:TypeId) (cs:List Value) (v:Value) (d kind:Nat) (A:OA) (n c:Nat) (w:World) (hb:Blk w g T cs) (h0:cs[o]?=some v) (h1:cs[o+1]?=some (.int .i64 d)) (hd:d≤1000):
  Calls Tryz.prog 257 #[.pointer (some ⟨g,o,none⟩),.int .i64 kind,.slice A n c] w fun e w'=>e= .returned (.tuple #[])∧Blk w' g T ((cs.set (o+1) (.int .i64 (Z0g d kind:Nat))).set o (.slice A n c))∧w.grownBy w' (some g):=by
 have c1:w.cell? ⟨g,o+1,none⟩=some (.int .i64 d):=by rw [hb.cell];exact h1
 have c0:w.cell? ⟨g,o,none⟩=some v:=by rw [hb.cell];exact h0
 have f0:=hb.free o;have f1:=hb.free (o+1);have hw:IntKind.i64.wrap ((d:Int)+1)=(d:Int)+1:=qJ _ (by omega);clear h0 h1
 by_cases hk:kind=2
 ·have hk2:((kind:Int)!=2)=false:=by simp;omega
  have hn:Z0g d kind=d+1:=by unfold Z0g;rw [if_pos hk]
  have HN:=qI hn;clear hn hk;go_in;go_wp2_with fail;go_end0;rw [HN.out];exact ⟨rfl,(hb.set (o+1) (.int .i64 ((d:Int)+1))).set o (.slice A n c),Z0 (Z0 (gR _ _) _ _) _ _⟩
 ·have hk2:((kind:Int)!=2)=true:=by simp;omega
  have hn:Z0g d kind=0:=by unfold Z0g;rw [if_neg hk]
  have HN:=qI hn;clear hn hk;go_in;go_wp2_with fail;go_end0;rw [HN.out];have h:=((hb.set (o+1) (.int .i64 ((d:Int)+1))).set (o+1) (.int .i64 0)).set o (.slice A n c);rw [List.set_set] at h;exact ⟨rfl,h,Z0 (Z0 (Z0 (gR _ _) _ _) _ _) _ _⟩
theorem _root_.Go.Dol.Rd.blkw {w w':World} {B:Nat} {A:OA} {l:LU} {g:Nat} {T:TypeId} {cs:List Value} (h:Rd w B 1 A l.length (bc l)) (hb:Blk w g T cs) (hn: ∀v∈cs,∀k,v≠ .int .u8 k) (hg:w.grownBy w' (some g)):Rd w' B 1 A l.length (bc l):=by
 refine ⟨h.len,fun h0=> ?_⟩;obtain ⟨b,off,hA,hB,hc⟩:=h.at_ h0;have h1:=hc 0 _ (Z0s l 0 h0);have hbg:b≠g:=fun e=>by
  subst e;rw [hb.cell] at h1;exact hn _ (List.mem_of_getElem? h1) _ rfl
 have hlt:b<w.heap.size:=by
  rcases Nat.lt_or_ge b w.heap.size with h2 | h2
  ·exact h2
  ·have:w.heap[b]?=none:=Array.getElem?_eq_none h2
   simp [World.cell?,this] at h1
 exact ⟨b,off,hA,hB,fun j u hu=>(World.cell?_of_block (hg.block b hlt (fun e=>hbg (by injection e)))).trans (hc j u hu)⟩
theorem Zfe (A:OA) (n c:Nat) (d:Int): ∀v∈[Value.slice A n c,.int .i64 d],∀k,v≠ .int .u8 k:=by
 intro v hv k;simp only [List.mem_cons,List.not_mem_nil,or_false] at hv;rcases hv with rfl | rfl<;>simp
theorem idx0 (g off n c:Nat) (w':World) (hn1:0<n):(Instr.indexAt 36 (.slice (some ⟨g,off,none⟩) n c) (.int .i64 0)).run Tryz.prog w'= .ok (.pointer (some ⟨g,off,none⟩)) w':=by
 have hn0:(0:Int)<(n:Int):=by omega
 go_simp
def Zen (w:World) (base g:Nat) (A:OA) (raw:LU) (c:Nat) (k:Nat×LU) (d:Nat) (e:Ending) (w':World):Prop:=
 ∃(b:LU) (A':OA) (c':Nat),Hid (b=k.2)∧e= .returned (.tuple #[.int .i64 (k.1:Nat),.slice A' b.length c'])∧Rd w' w'.heap.size 1 A' b.length (bc b)∧b.length≤c'∧c'≤maxLen∧Blk w' g 274 [.slice A raw.length c,.int .i64 (Z0g d k.1:Nat)]∧w.grownBy w' (some g)∧(0<b.length→ ∀j,Z9 A'=some j→j<base∨w.heap.size≤j)
theorem Zdm (base g:Nat) (hbg:base≤g) (Ap:OA) (prev:LU) (cp d:Nat) (A:OA) (raw:LU) (c:Nat) (w:World) (hb:Blk w g 274 [.slice Ap prev.length cp,.int .i64 d]) (hp:Rd w g 1 Ap prev.length (bc prev)) (hcp:prev.length≤cp) (hcpm:cp≤maxLen)
  (hr:Rd w base 1 A raw.length (bc raw)) (hc:raw.length≤c) (hcm:c≤maxLen) (hpl:prev.length≤2097152) (hrl:raw.length≤2097152) (h0:0<raw.length) (hd:d≤7):
  Calls Tryz.prog 252 #[.pointer (some ⟨g,0,none⟩),.slice A raw.length c] w (Zen w base g A raw c (Z01 prev d raw) d):=by
 have hgl:=hb.lt;have hPr:=qI (Z9R A raw c w (hr.more (by omega)) (by omega) hc);go_in;go_wp2_with fail;refine hPr.out.mono ?_;rintro e w1 ⟨p,A1,c1,hp1,rfl,ho1,hb1,i1,i2⟩;have hr1:=Rd.of_own ho1;have hn1:=Z78 ho1 (lR _);have hs1:=hb1.size;have hB1:=hb.below hb1 hgl;have hrp:=hp.belowW hb1 (by omega);have hrr:=hr.belowW hb1 (by omega);obtain ⟨k1,b1,A2,c2,hk1,hb2,hb2l,hc2m,hn2,HI⟩: ∃(k1:Nat) (b1:LU) (A2:OA) (c2:Nat),Hid (Z3y raw=(k1,b1))∧Rd w1 w1.heap.size 1 A2 b1.length (bc b1)∧b1.length≤c2∧c2≤maxLen∧Hid (0<b1.length→ ∀j,Z9 A2=some j→j<base∨w.heap.size≤j)∧Hid (if p.length<raw.length then k1=1∧b1=p∧A2=A1∧c2=c1 else k1=0∧b1=raw∧A2=A∧c2=c):=by
  by_cases h:p.length<raw.length
  ·exact ⟨1,p,A1,c1,by unfold Hid Z3y;rw [←hp1.out,if_pos h],hr1,i1,i2,qI (fun h0 j hj=> .inr (hn1 h0 j hj)),by unfold Hid;rw [if_pos h];exact ⟨rfl,rfl,rfl,rfl⟩⟩
  ·exact ⟨0,raw,A,c,by unfold Hid Z3y;rw [←hp1.out,if_neg h],hrr.more (by omega),hc,hcm,qI (fun h0 j hj=> .inl (by
    obtain ⟨b0,o0,e0,h1,_⟩:=hrr.at_ h0;rw [e0] at hj;injection hj with hj
    have e1:b0=j:=hj
    omega)),by unfold Hid;rw [if_neg h];exact ⟨rfl,rfl,rfl,rfl⟩⟩
 have hc2:=hc2m;clear hc2m ho1 hn1;go_upto_if 17 with (fail)
 go_cut [6,7] (fun kv bv wx=>kv= .int .i64 k1∧bv= .slice A2 b1.length c2∧wx=w1)
 case first=>
  have hi:=HI.out
  by_cases h:p.length<raw.length
  ·rw [if_pos h] at hi
   have d1:decide ((p.length:Int)<(raw.length:Int))=true:=dT (by omega);obtain ⟨rfl,rfl,rfl,rfl⟩:=hi;go_wp2_with fail;go_meet;exact ⟨rfl,rfl,rfl⟩
  ·rw [if_neg h] at hi
   have d1:decide ((p.length:Int)<(raw.length:Int))=false:=qF (by omega);obtain ⟨rfl,rfl,rfl,rfl⟩:=hi;go_wp2_with fail;go_meet;exact ⟨rfl,rfl,rfl⟩
 case rest=>
 obtain ⟨rfl,rfl,hwx⟩:=hcut;subst hwx;have c0:wc.cell? ⟨g,0,none⟩=some (.slice Ap prev.length cp):=by rw [hB1.cell];rfl
 have cd:wc.cell? ⟨g,1,none⟩=some (.int .i64 d):=by rw [hB1.cell];rfl
 obtain ⟨rb,ro,rfl,hrbb,hrcell⟩:=hrr.at_ (by omega);have cr:wc.cell? ⟨rb,ro,none⟩=some (.int .u8 (raw[0]).toNat):=hrcell 0 _ (Z0s raw 0 h0);have ix1: ∀w':World,(Instr.indexAt 36 (.slice (some ⟨rb,ro,none⟩) raw.length c) (.int .i64 0)).run Tryz.prog w'= .ok (.pointer (some ⟨rb,ro,none⟩)) w':=fun w'=>idx0 rb ro raw.length c w' h0;obtain ⟨mt,hmt⟩: ∃mt,mt=Z3k prev d raw:=⟨_,rfl⟩;have HMT:=qI hmt;clear hmt hrcell;go_upto_region 5 with (fail)
 go_cut [43] (fun v wx=>v= .bool mt∧ ∃q,wx=wc.drewN q)
 case first=>
  by_cases hp0:0<prev.length
  ·obtain ⟨pb,po,rfl,hpbb,hpcell⟩:=hrp.at_ hp0
   have cp0:wc.cell? ⟨pb,po,none⟩=some (.int .u8 (prev[0]).toNat):=hpcell 0 _ (Z0s prev 0 hp0);have ix2: ∀w':World,(Instr.indexAt 36 (.slice (some ⟨pb,po,none⟩) prev.length cp) (.int .i64 0)).run Tryz.prog w'= .ok (.pointer (some ⟨pb,po,none⟩)) w':=fun w'=>idx0 pb po prev.length cp w' hp0;have d0:decide ((0:Int)<(prev.length:Int))=true:=dT (by omega);obtain ⟨x,hx⟩: ∃x,x=(prev[0]).toNat:=⟨_,rfl⟩;obtain ⟨y,hy⟩: ∃y,y=(raw[0]).toNat:=⟨_,rfl⟩;have hxy:Hid (prev.head?=raw.head?↔x=y):=by
    unfold Hid;rw [List.head?_eq_getElem?,List.head?_eq_getElem?,gE hp0,gE h0,hx,hy];constructor
    ·intro h;injection h with h;rw [h]
    ·intro h;rw [UInt8.toNat_inj.1 h]
   rw [←hx] at cp0;rw [←hy] at cr;clear hx hy hpcell
   by_cases h3:x=y
   ·have h4:Hid (mt=decide (d<7)):=by
     unfold Hid;rw [HMT.out];unfold Z3k;rw [dT hp0,dT (hxy.out.2 h3)];simp
    clear hxy;subst h3
    cases h5:decide (d<7) with
    | true=>
     have h6:decide ((d:Int)<7)=true:=dT (by have:=of_decide_eq_true h5;omega);rw [h5] at h4;clear h5;go_quiet (fail);go_wp2_with fail;go_meet;exact ⟨by rw [h4.out],nq,rfl⟩
    | false=>
     have h6:decide ((d:Int)<7)=false:=qF (by have:=of_decide_eq_false h5;omega);rw [h5] at h4;clear h5;go_quiet (fail);go_wp2_with fail;go_meet;exact ⟨by rw [h4.out],nq,rfl⟩
   ·have h4:Hid (mt=false):=by
     unfold Hid;rw [HMT.out];unfold Z3k;rw [qF (p:=prev.head?=raw.head?) (fun h=>h3 (hxy.out.1 h))];simp
    have h5:((x:Int)==(y:Int))=false:=by simp;omega
    clear hxy h3;go_quiet (fail);go_wp2_with fail;go_meet;exact ⟨by rw [h4.out],nq,rfl⟩
  ·have d0:decide ((0:Int)<(prev.length:Int))=false:=qF (by omega)
   have h4:Hid (mt=false):=by
    unfold Hid;rw [HMT.out];unfold Z3k;rw [qF hp0];simp
   go_quiet (fail);go_wp2_with fail;go_meet;exact ⟨by rw [h4.out],nq,rfl⟩
 case rest=>
 obtain ⟨rfl,q,rfl⟩:=hcut;have hB2:=hB1.drewN q;have hrp2:=hrp.drewN q;have hrr2:=hrr.drewN q;have hb22:=hb2.drewN q;have hb12:=hb1.drewN' q;have hs2:(wc.drewN q).heap.size=wc.heap.size:=rfl;rw [←hs2] at hb22;obtain ⟨v0,hv0⟩: ∃v0,v0=wc.drewN q:=⟨_,rfl⟩;rw [←hv0] at hB2 hrp2 hrr2 hb22 hb12 ⊢;clear hv0 hs2 c0 cd cr hB1 hrp hrr hb2 hb1 ix1 hr1 hs1 hPr;have hs:=hb12.size;have hgv:=hB2.lt;have hfin: ∀(k:Nat) (kI:Int) (b:LU) (A':OA) (c':Nat) (u w':World),kI=(k:Nat)→Hid (Z01 prev d raw=(k,b))→Rd u u.heap.size 1 A' b.length (bc b)→b.length≤c'→c'≤maxLen→w.grownBy u (some g)→Blk u g 274 [.slice Ap prev.length cp,.int .i64 d]→
   (Blk w' g 274 [.slice (some ⟨rb,ro,none⟩) raw.length c,.int .i64 (Z0g d k:Nat)]∧u.grownBy w' (some g))→Hid (0<b.length→ ∀j,Z9 A'=some j→j<base∨w.heap.size≤j)→Zen w base g (some ⟨rb,ro,none⟩) raw c (Z01 prev d raw) d (.returned (.tuple #[.int .i64 kI,.slice A' b.length c'])) w':=by
  intro k kI b A' c' u w' hkI hk hrd j1 j2 hgu hbu ⟨hbw,hgw⟩ hnn;rw [hk.out,hkI];exact ⟨b,A',c',rfl,rfl,(hrd.blkw hbu (Zfe _ _ _ _) hgw).more hgw.size,j1,j2,hbw,Za hgu hgw,hnn.out⟩
 have HFin:=qI hfin;clear hfin;have hgo: ∀(k:Nat) (kI:Int) (u:World),kI=(k:Nat)→Blk u g 274 [.slice Ap prev.length cp,.int .i64 d]→Calls Tryz.prog 257 #[.pointer (some ⟨g,0,none⟩),.int .i64 kI,.slice (some ⟨rb,ro,none⟩) raw.length c] u fun e w'=>e= .returned (.tuple #[])∧Blk w' g 274 [.slice (some ⟨rb,ro,none⟩) raw.length c,.int .i64 (Z0g d k:Nat)]∧u.grownBy w' (some g):=
  fun k kI u hkI hu=>by rw [hkI];exact Z7D g 0 274 _ _ d k (some ⟨rb,ro,none⟩) raw.length c u hu rfl rfl (by omega)
 have HGo:=qI hgo;clear hgo;have hg0:=Z8 hb12 (some g);have hcost:=Z9M raw;have hb1l:b1.length≤raw.length:=by rw [hk1.out] at hcost;exact hcost
 clear hcost
 cases mt with
 | false=>
  have hk:Hid (Z01 prev d raw=(k1,b1)):=by
   unfold Hid Z01;rw [if_neg (fun h=>by rw [←HMT.out] at h;exact absurd h.1 (by simp)),hk1.out]
  go_wp2_with fail;refine (HGo.out k1 k1 v0 rfl hB2).mono ?_;rintro e w3 ⟨rfl,hB3,hg3⟩;go_wp2_with fail;go_ret2;exact HFin.out k1 k1 b1 A2 c2 v0 w3 rfl hk hb22 hb2l hc2 hg0 hB2 ⟨hB3,hg3⟩ hn2
 | true=>
  have c0:v0.cell? ⟨g,0,none⟩=some (.slice Ap prev.length cp):=by rw [hB2.cell];rfl
  have hE:=qI (Zbq Ap prev cp (some ⟨rb,ro,none⟩) raw c v0 (hrp2.more (by omega)) (hrr2.more (by omega)) (by omega) (by omega) hcp hcpm hc hcm);go_wp2_with fail;refine hE.out.mono ?_;rintro e v1 ⟨l,A3,c3,hl,rfl,hr3,hb3,i3,i4,i5⟩;have hn3:Hid (0<l.length→ ∀j,Z9 A3=some j→j<base∨w.heap.size≤j):=fun h0 j hj=> .inr (lT hs (i5 h0 j hj));clear i5;have hB3:=hB2.below hb3 hgv;have hg1:=Z4f hg0 hb3;clear hE c0
  by_cases h:l.length<b1.length
  ·have d1:decide ((l.length:Int)<(b1.length:Int))=true:=dT (by omega)
   have hk:Hid (Z01 prev d raw=(2,l)):=by
    unfold Hid Z01;rw [if_pos ⟨HMT.out.symm,by rw [hk1.out,←hl.out];exact h⟩,hl.out]
   go_wp2_with fail;refine (HGo.out 2 2 v1 rfl hB3).mono ?_;rintro e w3 ⟨rfl,hB4,hg3⟩;go_wp2_with fail;go_ret2;exact HFin.out 2 2 l A3 c3 v1 w3 rfl hk hr3 i3 i4 hg1 hB3 ⟨hB4,hg3⟩ hn3
  ·have d1:decide ((l.length:Int)<(b1.length:Int))=false:=qF (by omega)
   have hk:Hid (Z01 prev d raw=(k1,b1)):=by
    unfold Hid Z01;rw [if_neg (fun h2=>h (by have:=h2.2;rw [hk1.out,←hl.out] at this;exact this)),hk1.out]
   have hb4:=hb22.belowW hb3 (lR _);go_wp2_with fail;refine (HGo.out k1 k1 v1 rfl hB3).mono ?_;rintro e w3 ⟨rfl,hB4,hg3⟩;go_wp2_with fail;go_ret2;exact HFin.out k1 k1 b1 A2 c2 v1 w3 rfl hk (hb4.more hb3.size) hb2l hc2 hg1 hB3 ⟨hB4,hg3⟩ hn2
end Go.Proofs.YtecpbcmpncgokaaGreat
set_option linter.unusedVariables false
namespace Go.Dol
open Go
def Z8b (md:Region.Mode) (ops:Array Oper) (L:Nat):Bool:=
 decide (L<ops.size)&&(List.range ops.size).all (fun i=>(match ops[i]? with | none=>true | some o=>o.after.all fun e=>decide (e.on<i))&&
  (i==L||(match ops[L]? with | none=>false | some o=>o.after.any fun e=>Region.binds md e&&(e.on==i||(match ops[e.on]? with | none=>false | some o'=>o'.after.any fun e'=>Region.binds md e'&&e'.on==i)))))
def Closed (md:Region.Mode) (ops:Array Oper) (listed:Array Bool):Prop:=∀ (i:Nat) (o:Oper),ops[i]?=some o→listed.getD i false=true→ ∀e∈o.after,Region.binds md e=true→listed.getD e.on false=true
section
variable {P:Program} {ops:Array Oper} {Q:Exit→Act→World→Prop} {md:Region.Mode} {L:Nat} {last:Oper}
theorem Z9S {listed:Array Bool} {i j:Nat} (h:listed.getD j false=true):(listed.setIfInBounds i true).getD j false=true:=by
 rw [Array.getD_eq_getD_getElem?,Array.getElem?_setIfInBounds];split
 ·split
  ·rfl
  ·rename_i h1 h2
   subst h1;rw [Array.getD_eq_getD_getElem?,Array.getElem?_eq_none (by omega)] at h;cases h
 ·rw [←Array.getD_eq_getD_getElem?];exact h
theorem Closed.set {listed:Array Bool} (h:Closed md ops listed) {i:Nat} (hi:i∈Region.ready md ops listed):Closed md ops (listed.setIfInBounds i true):=by
 intro j o ho hj e he hb;obtain ⟨_,o',ho',ha⟩:=mem_ready.1 hi
 by_cases hji:j=i
 ·subst hji
  rw [ho'] at ho;injection ho with ho
  subst ho;exact Z9S (ha e he hb)
 ·refine Z9S (h j o ho ?_ e he hb)
  rw [Array.getD_eq_getD_getElem?,Array.getElem?_setIfInBounds,if_neg (Ne.symm hji),←Array.getD_eq_getD_getElem?] at hj;exact hj
theorem Z6G (h:Z8b md ops L=true):L<ops.size∧(∀(i:Nat) (o:Oper),ops[i]?=some o→ ∀e∈o.after,e.on<i)∧ ∀(i:Nat),i<ops.size→i≠L→ ∀o,ops[L]?=some o→(∃e∈o.after,Region.binds md e=true∧e.on=i)∨ ∃e∈o.after,Region.binds md e=true∧ ∃o',ops[e.on]?=some o'∧ ∃e'∈o'.after,Region.binds md e'=true∧e'.on=i:=by
 unfold Z8b at h;rw [Bool.and_eq_true,decide_eq_true_eq,List.all_eq_true] at h;refine ⟨h.1,fun i o ho e he=> ?_,fun i hi hne o ho=> ?_⟩
 ·have h1:=h.2 i (List.mem_range.2 (Array.getElem?_eq_some_iff.1 ho).1)
  rw [Bool.and_eq_true,ho] at h1;have h2:=Array.all_eq_true_iff_forall_mem.1 h1.1 e he;exact of_decide_eq_true h2
 ·have h1:=h.2 i (List.mem_range.2 hi)
  rw [Bool.and_eq_true,Bool.or_eq_true,ho] at h1;rcases h1.2 with h2 | h2
  ·exact absurd (by simpa using h2) hne
  ·obtain ⟨e,he,hb⟩:=Array.any_eq_true'.1 h2
   rw [Bool.and_eq_true,Bool.or_eq_true] at hb;rcases hb.2 with h3 | h3
   ·exact .inl ⟨e,he,hb.1,by simpa using h3⟩
   ·cases ho':ops[e.on]? with
    | none=>rw [ho'] at h3;cases h3
    | some o'=>
     rw [ho'] at h3;obtain ⟨e',he',hb'⟩:=Array.any_eq_true'.1 h3;rw [Bool.and_eq_true] at hb';exact .inr ⟨e,he,hb.1,o',ho',e',he',hb'.1,by simpa using hb'.2⟩
theorem Zcx (h:Z8b md ops L=true) (listed:Array Bool) (hs:listed.size=ops.size): ∀n,n≤L→listed.getD n true=false→Region.ready md ops listed≠[]:=by
 obtain ⟨hL,hb,_⟩:=Z6G h;intro n
 induction n using Nat.strongRecOn with
 | _ n ih=>
  intro hn hun he;have hno: ¬ ∃j,j<n∧listed.getD j true=false:=fun ⟨j,hj,hu⟩=>ih j hj (by omega) hu he;have hm:n∈Region.ready md ops listed:=by
   rw [mem_ready];refine ⟨hun,ops[n]'(by omega),Array.getElem?_eq_getElem (by omega),fun e hee _=> ?_⟩;have hlt:=hb n _ (Array.getElem?_eq_getElem (by omega)) e hee
   cases hx:listed.getD e.on false with
   | true=>rfl
   | false=>
    refine absurd ⟨e.on,hlt,?_⟩ hno;rw [Array.getD_eq_getD_getElem?,Array.getElem?_eq_getElem (by omega)] at hx ⊢;exact hx
  rw [he] at hm;cases hm
theorem ZfL (hends:Z8b md ops L=true) (hL:ops[L]?=some last) (hd:last.dst=none) (hg:last.guard=none):
  ∀(fuel:Nat) (listed:Array Bool) (a:Act) (w:World),listed.size=ops.size→Closed md ops listed→listed.getD L true=false→
   wpAny P md (ops.setIfInBounds L (idle last)) (Z1s P last Q) fuel listed a w→wpAny P md ops Q fuel listed a w:=by
 intro fuel
 induction fuel with
 | zero=>
  intro listed a w hs hc hu h;rw [wpAny,Z1A hL] at h;exact absurd h.1 (Zcx hends listed hs L (lR _) hu)
 | succ fuel ih=>
  intro listed a w hs hc hu h;rw [wpAny,Z1A hL] at h;refine ⟨fun h0=>absurd h0 (Zcx hends listed hs L (lR _) hu),fun i hi=> ?_⟩;have h1:=h.2 i hi
  by_cases hiL:i=L
  ·subst hiL
   have hall: ∀j,j<ops.size→(listed.setIfInBounds i true).getD j true=true:=by
    intro j hj
    by_cases hji:j=i
    ·subst hji
     rw [Array.getD_eq_getD_getElem?,Array.getElem?_setIfInBounds,if_pos rfl,if_pos (by omega)]
     rfl
    ·obtain ⟨_,o,ho,ha⟩:=mem_ready.1 hi
     have h2:listed.getD j false=true:=by
      rcases (Z6G hends).2.2 j hj hji o ho with ⟨e,he,hb,he2⟩ | ⟨e,he,hb,o',ho',e',he',hb',he2⟩
      ·have h2:=ha e he hb
       rw [he2] at h2;exact h2
      ·have h3:=hc e.on o' ho' (ha e he hb) e' he' hb'
       rw [he2] at h3;exact h3
     rw [getD_set_ne true (Ne.symm hji)];rw [Array.getD_eq_getD_getElem?,Array.getElem?_eq_getElem (by omega)] at h2 ⊢;exact h2
   have hnone:Region.ready md ops (listed.setIfInBounds i true)=[]:=by
    unfold Region.ready;rw [List.filter_eq_nil_iff];intro j hj;rw [hall j (List.mem_range.1 hj)];simp
   unfold wpOp at h1 ⊢;rw [Z4C hL] at h1;rw [hL];simp only at h1 ⊢;have hw1:Region.wanted (idle last) (yielded (ops.setIfInBounds i (idle last)) a.tmps)=true:=by
    show (match last.guard with | none=>true | some (j,want)=>_)=true
    rw [hg]
   have hw2:Region.wanted last (yielded ops a.tmps)=true:=by
    unfold Region.wanted;rw [hg]
   rw [if_pos hw1] at h1;rw [if_pos hw2];have hfin: ∀a' w',wpAny P md (ops.setIfInBounds i (idle last)) (Z1s P last Q) fuel (listed.setIfInBounds i true) a' w'→Z1s P last Q .normal a' w':=by
    intro a' w' h3
    cases fuel with
    | zero=>exact h3.2
    | succ f=>exact h3.1 (by rw [Z1A hL];exact hnone)
   have hput:a.put (idle last).dst undef=a:=by
    show a.put last.dst undef=a
    rw [hd]
    rfl
   rcases h1 with h1 | h1
   ·have h2:wpAny P md (ops.setIfInBounds i (idle last)) (Z1s P last Q) fuel (listed.setIfInBounds i true) (a.put (idle last).dst undef) w:=h1
    rw [hput] at h2;refine .inl (Oper.wp_mono (fun a' w' h3=>wpAny_done hnone h3 fuel) (hfin _ _ h2))
   ·exfalso
    have h3:=h1.1.1
    revert h3
    simp [execOp,idle,noRoomEvent];exact fun h=>by
     have h4:({ loc:=Loc.mark Mark.noRoom,write:=false,sync:=true }:Event)∈(#[]:Array Event):=h;simp at h4
  ·unfold wpOp at h1 ⊢
   rw [Z7i hiL,Z5T hL] at h1
   cases ho:ops[i]? with
   | none=>
    rw [ho] at h1;simp only at h1 ⊢;exact ih _ _ _ (by simpa using hs) (hc.set hi) (by rw [getD_set_ne true hiL];exact hu) h1
   | some o=>
    rw [ho] at h1;simp only at h1 ⊢;have hK: ∀a' w',wpAny P md (ops.setIfInBounds L (idle last)) (Z1s P last Q) fuel (listed.setIfInBounds i true) a' w'→wpAny P md ops Q fuel (listed.setIfInBounds i true) a' w':=
     fun a' w' h3=>ih _ _ _ (by simpa using hs) (hc.set hi) (by rw [getD_set_ne true hiL];exact hu) h3
    split
    ·rename_i hw
     rw [if_pos hw] at h1;rcases h1 with h1 | h1
     ·exact .inl (Za7 hK h1)
     ·exact .inr ⟨h1.1,by obtain ⟨a',w',h2⟩:=h1.2;exact ⟨a',w',h2⟩⟩
    ·rename_i hw
     rw [if_neg hw] at h1;exact hK _ _ h1
theorem Z2G {id:Nat} {a:Act} {w:World} {S:World→Prop} (L:Nat) (last:Oper) (hm:P.follows .mixedOrders=true) (hL:ops[L]?=some last) (hends:Z8b .any ops L=true) (hd:last.dst=none) (hg:last.guard=none)
  (hS:S w.drew) (h:S w.drew→wpAnyH P .any (ops.setIfInBounds L (idle last)) (Z1s P last Q) S ops.size (Array.replicate ops.size false) a w.drew):(Code.region id ops true).wp P Q a w:=by
 refine wp_region_any hm (ZfL hends hL hd hg _ _ _ _ (by simp) ?_ ?_ (wpAny_of_held _ _ _ _ (h hS)))
 ·intro i o _ hi
  have h0:(Array.replicate ops.size false).getD i false=false:=by
   rw [Array.getD_eq_getD_getElem?,Array.getElem?_replicate];split<;>rfl
  rw [h0] at hi;cases hi
 ·have:=(Array.getElem?_eq_some_iff.1 hL).1
  simp [this]
end
end Go.Dol
