/- The walks of the layer 'delta', its sixth part: how many bytes two rows begin with alike; a row the other way round. Conditions: lengths below 2^47, the target's length below 2^46. -/
import Derived.Test.YtecpbcmpncgokaaGreatShelfA
import Derived.RegionTactic
import Derived.Test.YtecpbcmpncgokaaGreatWordsA
import Derived.Deep.RegionWith
import Derived.Deep.DeepCutAuto
import Derived.Deep.LoopGhost
import Derived.Test.YtecpbcmpncgokaaGreatShort
set_option maxRecDepth 100000
set_option maxHeartbeats 4000000
set_option linter.unusedVariables false
namespace Go.Dol
open Go.RowKit
def RevTo (l r:LU) (k:Nat):Prop:=r.length=l.length∧ ∀j,j<l.length→r[j]?=if j<k∨l.length-k≤j then l[l.length-1-j]? else l[j]?
theorem RevTo.zero (l:LU):RevTo l l 0:=⟨rfl,fun j hj=>by rw [if_neg (by omega)]⟩
theorem RevTo.step {l r:LU} {k:Nat} {x y:UInt8} (h:RevTo l r k) (hk:k+1<l.length-k) (hx:r[k]?=some x) (hy:r[l.length-1-k]?=some y):RevTo l ((r.set k y).set (l.length-1-k) x) (k+1):=by
 obtain ⟨h1,h2⟩:=h;refine ⟨by simpa using h1,fun j hj=> ?_⟩;have ex:=h2 k (by omega);rw [if_neg (by omega),hx] at ex;have ey:=h2 (l.length-1-k) (by omega);rw [if_neg (by omega),hy] at ey;rw [List.getElem?_set,List.getElem?_set]
 by_cases c1:l.length-1-k=j
 ·rw [if_pos c1,if_pos (by simp;omega),if_pos (by omega),←c1,show l.length-1-(l.length-1-k)=k by omega]
  exact ex
 ·rw [if_neg c1]
  by_cases c2:k=j
  ·rw [if_pos c2,if_pos (by omega),if_pos (by omega),←c2]
   exact ey
  ·rw [if_neg c2,h2 j hj]
   by_cases c3:j<k∨l.length-k≤j
   ·rw [if_pos c3,if_pos (by omega)]
   ·rw [if_neg c3,if_neg (by omega)]
theorem RevTo.end {l r:LU} {k:Nat} (h:RevTo l r k) (hk:l.length≤2*k+1):r=l.reverse:=by
 obtain ⟨h1,h2⟩:=h;apply List.ext_getElem?;intro j;rcases Nat.lt_or_ge j l.length with hj | hj
 ·rw [h2 j hj,List.getElem?_reverse hj]
  split
  ·rfl
  ·congr 1
   omega
 ·rw [List.getElem?_eq_none (by omega),List.getElem?_eq_none (by rw [List.length_reverse];omega)]
theorem Zi1 {w:World} {base:Nat} {e:TypeId} {A:OA} {c n:Nat} {xs:List Value} (h:w.ownsRow base e 1 (.slice A n c) n xs) (hn:0<n):
  ∃g tail,A=some ⟨g,0,none⟩∧Blk w g e (xs++tail)∧base≤g∧(xs++tail).length=c∧n≤c∧c≤maxLen:=by
 rcases h.2 with ⟨h2,_⟩ | ⟨g,cap,cur,h2,h3,h4,h5,h6,h7,h8⟩
 ·injection h2 with h2 h2' h2''
  omega
 ·injection h2 with h2 _ h2'
  subst h2';have e1:xs++cur.toList.drop (n*1)=cur.toList:=by rw [←h8,List.take_append_drop]
  refine ⟨g,cur.toList.drop (n*1),h2,?_,h3,?_,h5,h6⟩
  ·rw [e1]
   exact h4
  ·rw [e1,Array.length_toList,h7,Nat.mul_one]
theorem Zd7 {w:World} {base:Nat} {e:TypeId} {g c n:Nat} {xs tail:List Value} (h:Blk w g e (xs++tail)) (hb:base≤g) (hl:(xs++tail).length=c) (hn:xs.length=n) (hc:c≤maxLen):w.ownsRow base e 1 (.slice (some ⟨g,0,none⟩) n c) n xs:=by
 refine ⟨by omega,.inr ⟨g,c,(xs++tail).toArray,rfl,hb,h,?_,hc,by simpa using hl,?_⟩⟩
 ·rw [←hl,List.length_append];omega
 ·rw [Nat.mul_one,←hn];simp
end Go.Dol
namespace Go.Proofs.YtecpbcmpncgokaaGreat
open Go.RowKit Go.Dol
theorem Z30 (A:OA) (a:LU) (c:Nat) (A2:OA) (b:LU) (c2:Nat) (w:World) (B B2:Nat) (hr:Rd w B 1 A a.length (bc a)) (hr2:Rd w B2 1 A2 b.length (bc b)) (ha:a.length≤140737488355328) (hb:b.length≤140737488355328):
  Calls Tryz.prog 284 #[.slice A a.length c,.slice A2 b.length c2] w fun e w'=>e= .returned (.int .i64 (begins a b:Nat))∧ ∃n,w'=w.drewN n:=by
 go_in;go_wp2_with fail;go_loopw [5] (fun n wr=>Zf4 a b w n wr) (fun n _=>a.length-(intOf n).toNat)
 case atStart=>exact ⟨0,0,rfl,by omega,by omega,fun j hj=>by omega,rfl⟩
 case round=>
  obtain ⟨m,q,rfl,hm,hm2,hs,hwr⟩:=hrel;have hrw:Rd wr B 1 A a.length (bc a):=by rw [hwr.out];exact hr.drewN q
  have hrw2:Rd wr B2 1 A2 b.length (bc b):=by rw [hwr.out];exact hr2.drewN q
  have hm0:(0:Int)≤(m:Int):=by omega
  have f1:IntKind.i64.wrap ((m:Int)+1)=(m:Int)+1:=qJ _ (by omega)
  by_cases h1:m<a.length
  ·have d1:decide ((m:Int)<(a.length:Int))=true:=by simp;omega
   have d1':(m:Int)<(a.length:Int):=by omega
   by_cases h2:m<b.length
   ·have d2:decide ((m:Int)<(b.length:Int))=true:=by simp;omega
    have d2':(m:Int)<(b.length:Int):=by omega
    obtain ⟨bb,off,rfl,hbb,hcell⟩:=hrw.at_ (by omega);obtain ⟨bb2,off2,rfl,hbb2,hcell2⟩:=hrw2.at_ (by omega);have c1:=hcell m _ (Z0s a m h1);have c2:=hcell2 m _ (Z0s b m h2);have g1:a[m]?=some a[m]:=gE h1;have g2:b[m]?=some b[m]:=gE h2;obtain ⟨x,hx⟩: ∃x,x=(a[m]).toNat:=⟨_,rfl⟩;obtain ⟨y,hy⟩: ∃y,y=(b[m]).toNat:=⟨_,rfl⟩;rw [←hx] at c1;rw [←hy] at c2;have hxy:Hid (a[m]?=b[m]?↔x=y):=by
     unfold Hid;rw [g1,g2,hx,hy];constructor
     ·intro h;injection h with h;rw [h]
     ·intro h;rw [UInt8.toNat_inj.1 h]
    clear hx hy g1 g2 hcell hcell2
    by_cases h3:x=y
    ·have hq:=hxy.out.2 h3
     have HQ:=qI hq;clear hq hxy;subst h3;go_wp2_with fail;go_quiet (fail);go_wp2_with fail;refine ⟨⟨m+1,q+nq,by go_num,by omega,by omega,?_,?_⟩,by simp [intOf];omega⟩
     ·intro j hj
      by_cases hjm:j=m
      ·rw [hjm];exact HQ.out
      ·exact hs.out j (by omega)
     ·unfold Hid;rw [hwr.out,World.drewN_drewN]
    ·have hq: ¬(a[m]?=b[m]?):=fun h=>h3 (hxy.out.1 h)
     have HQ:=qI hq;have d3:((x:Int)==(y:Int))=false:=by simp;omega
     have hst:=Z3C (a:=a) (b:=b) (n:=m) (by omega) (by omega) hs.out (.inr (.inr HQ.out));have HA:=qI hst;clear hq hxy hst;go_wp2_with fail;go_quiet (fail);go_wp2_with fail;go_ret;exact ⟨by rw [HA.out];rfl,q+nq,by rw [hwr.out,World.drewN_drewN]⟩
   ·have d2:decide ((m:Int)<(b.length:Int))=false:=by simp;omega
    have d2': ¬((m:Int)<(b.length:Int)):=by omega
    have hst:=Z3C (a:=a) (b:=b) (n:=m) (by omega) (by omega) hs.out (.inr (.inl (by omega)));have HA:=qI hst;clear hst;go_wp2_with fail;go_quiet (fail);go_wp2_with fail;go_ret;exact ⟨by rw [HA.out];rfl,q+nq,by rw [hwr.out,World.drewN_drewN]⟩
  ·have d1:decide ((m:Int)<(a.length:Int))=false:=by simp;omega
   have d1': ¬((m:Int)<(a.length:Int)):=by omega
   have hst:=Z3C (a:=a) (b:=b) (n:=m) (by omega) (by omega) hs.out (.inl (by omega));have HA:=qI hst;clear hst;go_wp2_with fail;go_quiet (fail);go_wp2_with fail;go_ret;exact ⟨by rw [HA.out];rfl,q+nq,by rw [hwr.out,World.drewN_drewN]⟩
def ZiQ (l:LU) (tail:List Value) (g:Nat) (w:World) (i j:Value) (wr:World):Prop:=
 ∃(k:Nat) (r:LU),i= .int .i64 (k:Nat)∧j= .int .i64 ((l.length:Int)-1-(k:Int))∧2*k≤l.length∧Hid (RevTo l r k)∧Blk wr g 5 (bc r++tail)∧w.grownBy wr (some g)
theorem Z8J (g:Nat) (l:LU) (tail:List Value) (c:Nat) (w:World) (hb:Blk w g 5 (bc l++tail)) (hl:0<l.length) (hl2:l.length≤140737488355328):
  Calls Tryz.prog 298 #[.slice (some ⟨g,0,none⟩) l.length c] w fun e w'=>e= .returned (.tuple #[])∧Blk w' g 5 (bc l.reverse++tail)∧w.grownBy w' (some g):=by
 go_in;go_wp2_with fail;go_loopw [2,3] (fun i j wr=>ZiQ l tail g w i j wr) (fun i _ _=>l.length-(intOf i).toNat)
 case atStart=>exact ⟨0,l,rfl,by go_num,by omega,RevTo.zero l,hb,gR w _⟩
 case round=>
  clear hb;obtain ⟨k,r,rfl,rfl,hk,hrev,hblk,hgr⟩:=hrel;have hrl:r.length=l.length:=hrev.out.1;have f1:IntKind.i64.wrap ((k:Int)+1)=(k:Int)+1:=qJ _ (by omega);have f2:IntKind.i64.wrap ((l.length:Int)-1-(k:Int)-1)=(l.length:Int)-1-(k:Int)-1:=qJ _ (by omega)
  by_cases h1:k+1<l.length-k
  ·have d1:decide ((k:Int)<(l.length:Int)-1-(k:Int))=true:=by simp;omega
   have d1':(k:Int)<(l.length:Int)-1-(k:Int):=by omega
   obtain ⟨x,hx⟩: ∃x,r[k]?=some x:=⟨_,gE (by omega)⟩;obtain ⟨q,hq⟩: ∃q,q=l.length-1-k:=⟨_,rfl⟩;obtain ⟨y,hy⟩: ∃y,r[q]?=some y:=⟨_,gE (by omega)⟩;have hst:=hrev.out.step h1 hx (by rw [←hq];exact hy);rw [←hq] at hst;have HST:=qI hst;have c1:wr.cell? ⟨g,k,none⟩=some (.int .u8 x.toNat):=by rw [hblk.cell,List.getElem?_append_left (by simp [bc];omega)];simp [bc,hx]
   have c2:wr.cell? ⟨g,q,none⟩=some (.int .u8 y.toNat):=by rw [hblk.cell,List.getElem?_append_left (by simp [bc];omega)];simp [bc,hy]
   have z1:=hblk.free k;have z2:=hblk.free q;have hkq:k≠q:=by omega
   have p1:((l.length:Int)-1-(k:Int)).toNat=q:=by omega
   have p2:(0:Int)≤(l.length:Int)-1-(k:Int):=by omega
   have p3:(l.length:Int)-1-(k:Int)<(l.length:Int):=by omega
   have p4:(k:Int)<(l.length:Int):=by omega
   have HQ:=qI hq;have HRL:=qI hrl;clear hst hx hy hq hrl;go_wp2_with fail;go_region;go_wp2_with fail;refine ⟨⟨k+1,(r.set k y).set q x,by go_num,congrArg (Value.int IntKind.i64) (by omega),by omega,HST,?_,Z07 (Z0 (Z0 hgr k _) q _)⟩,by simp [intOf];omega⟩;have hb1:=((hblk.set k (.int .u8 y.toNat)).set q (.int .u8 x.toNat)).drew;have e1:(((bc r++tail).set k (.int .u8 y.toNat)).set q (.int .u8 x.toNat))=bc ((r.set k y).set q x)++tail:=by
    have:=HRL.out;rw [List.set_append_left _ _ (by simp [bc];omega),List.set_append_left _ _ (by simp [bc];omega)];simp [bc,List.map_set]
   rw [←e1];exact hb1
  ·have d1:decide ((k:Int)<(l.length:Int)-1-(k:Int))=false:=by simp;omega
   have d1': ¬(k:Int)<(l.length:Int)-1-(k:Int):=by omega
   have hend:=hrev.out.end (by omega);have HE:=qI hend;clear hend hrl;go_wp2_with fail;go_end0;rw [←HE.out];exact ⟨rfl,hblk,hgr⟩
theorem Zah (A:OA) (c:Nat) (w:World):Calls Tryz.prog 298 #[.slice A 0 c] w fun e w'=>e= .returned (.tuple #[])∧w=w':=by
 go_in;go_wp2_with fail;refine wp_loop_rounds 1 ?_;rw [rounds_succ];go_wp2_with fail;go_end0;exact ⟨rfl,rfl⟩
theorem Z8K (A:OA) (l:LU) (c:Nat) (w:World) (hr:Rd w w.heap.size 1 A l.length (bc l)) (hl:l.length≤140737488355328):
  Calls Tryz.prog 285 #[.slice A l.length c] w (RetB 5 w l.reverse):=by
 go_in;go_wp2_with fail;refine (Z1H A l c w hr hl).mono ?_;rintro e w1 ⟨l1,A1,c1,e1,rfl,ho1,hb1,i1,i2⟩;have hl1:l1.length≤140737488355328:=by rw [e1.out];exact hl
 rcases Nat.eq_zero_or_pos l1.length with h0 | h0
 ·have hnil:l1=[]:=nZ h0
  subst hnil;have hln:Hid (l=[]):=e1.out.symm;clear h0 e1;go_wp2_with fail;refine (Zah A1 c1 w1).mono ?_;rintro e w2 ⟨rfl,rfl⟩;go_wp2_with fail;go_ret;exact ⟨[],A1,c1,by rw [hln.out];rfl,rfl,ho1,hb1,i1,i2⟩
 ·obtain ⟨g,tail,rfl,hblk,hg,htl,i3,i4⟩:=Zi1 ho1 h0
  have HTL:=qI htl;clear htl ho1;go_wp2_with fail;refine (Z8J g l1 tail c1 w1 hblk h0 hl1).mono ?_;rintro e w2 ⟨rfl,hblk2,hg2⟩;go_wp2_with fail;go_ret;refine ⟨l1.reverse,some ⟨g,0,none⟩,c1,by rw [e1.out];rfl,by rw [List.length_reverse];rfl,?_,hb1.trans (Z2 hg2 hg hb1.size),by rw [List.length_reverse];exact i3,i4⟩;refine Zd7 hblk2 hg ?_ (Zo _) i4;have:=HTL.out;simp [bc] at this ⊢;exact this
end Go.Proofs.YtecpbcmpncgokaaGreat
namespace Go.Proofs.YtecpbcmpncgokaaGreat
open Go.RowKit Go.Dol
theorem Z5V:Go.Maps.Keyed Tryz.prog 344:=
 Go.Maps.Keyed.of_law (deep_law_laid (m:=2) (by kernel_rfl) (by decide) (of_decide_eq_true (by kernel_rfl)) (by kernel_rfl) (by rw [Tryz.underlying344]))
theorem Z9k (K:LU) (hK:K.length=16): ∃kl,keyOf Tryz.prog 344 (kvB K)=some kl:=
 Z6X (n:=16) Tryz.underlying344 (by kernel_rfl) (by kernel_rfl) Tryz.underlying5 (by kernel_rfl) ⟨Tryz.prog.types.size-1,by kernel_rfl⟩ K hK
theorem Z9l (w:World):(zeroValue 3).run Tryz.prog w= .ok (.int .i64 0) w:=by kernel_rfl
theorem _root_.Go.Dol.rd_of_blk {w:World} {g:Nat} {T:TypeId} {cs:List Value} {n:Nat} (h:Blk w g T cs) (hn:cs.length=n):Rd w (g+1) 1 (some ⟨g,0,none⟩) n cs:=
 ⟨by omega,fun _=>⟨g,0,rfl,by omega,fun j u hu=>by rw [Nat.zero_add,h.cell];exact hu⟩⟩
def Zgb (b:LU) (w:World) (e:Ending) (w':World):Prop:=
 ∃n al,e= .returned (.map (some w.heap.size))∧MapL Tryz.prog 344 w' w.heap.size al∧Hid (Idx b n al∧16*n≤b.length∧b.length<16*n+16)∧Below w.heap.size w w'
def Zgc (b:LU) (w:World) (k:Value) (wr:World):Prop:=
 ∃(n i:Nat) (al:List (Value×Value)),k= .int .i64 (i:Nat)∧Hid (i=16*n)∧i≤b.length∧MapL Tryz.prog 344 wr w.heap.size al∧Hid (Idx b n al)∧Below w.heap.size w wr
theorem Zbp (A:OA) (b:LU) (c:Nat) (w:World) (hr:Rd w w.heap.size 1 A b.length (bc b)) (hb:b.length≤1099511627776) (hc:b.length≤c) (hcm:c≤maxLen):
  Calls Tryz.prog 299 #[.slice A b.length c] w (Zgb b w):=by
 go_in;have hmm:=@run_makeMap Tryz.prog;go_wp2_with fail;clear hmm;have hm0:MapL Tryz.prog 344 (w.alloc (.map #[] 0)) w.heap.size []:=MapL.new w;have hb0:Below w.heap.size w (w.alloc (.map #[] 0)):=(bR _ w).alloc (lR _) _;obtain ⟨v0,hv0⟩: ∃v,v=w.alloc (.map #[] 0):=⟨_,rfl⟩;rw [←hv0] at hm0 hb0 ⊢;clear hv0;go_loopw [4] (fun k wr=>Zgc b w k wr) (fun k _=>b.length+1-(intOf k).toNat)
 case atStart=>exact ⟨0,0,[],rfl,rfl,zL _,hm0,Idx.nil b,hb0⟩
 case round=>
  clear hm0 hb0;obtain ⟨n,i,al,rfl,hin,hib,hmap,hidx,hbel⟩:=hrel;have f1:IntKind.i64.wrap ((i:Int)+16)=(i:Int)+16:=qJ _ (by omega)
  by_cases h1:i+16≤b.length
  ·have d1:decide ((i:Int)+16≤(b.length:Int))=true:=by simp;omega
   have d1':(i:Int)+16≤(b.length:Int):=by omega
   have hrw:=hr.below hbel;obtain ⟨m,Am,cm,em,jm,jm',⟨rm,km,km'⟩,_,_,_,sm⟩:=Z8D (lo:=i) (hi:=i+16) (i:Int) ((i:Int)+16) rfl (by omega) hrw (by omega) h1 hc hcm;have hm16:m.length=16:=by omega
   have harr:(Instr.arrayAt 344 (.slice Am m.length cm)).run Tryz.prog wr= .ok (.pointer Am) wr:=run_arrayAt wr _ _ 16 _ _ _ Tryz.underlying344 (by omega);have em':Hid (m=(b.drop (16*n)).take 16):=by unfold Hid;rw [em.out,hin.out,show 16*n+16-16*n=16 by omega]
   have HM:=qI hm16;clear hm16 em;have hbm:(bc m).length=16:=by rw [Zo];exact HM.out
   have HBM:=qI hbm;clear hbm;have hz:=Blk.new wr 344 (bc (List.replicate 16 (0:UInt8)));have hbz:Below wr.heap.size wr (wr.alloc (.cells (bc (List.replicate 16 (0:UInt8))).toArray 344)):=(bR _ _).alloc (lR _) _;go_wp2_with (first | (refine Z0S rfl 344 _ rfl Am rfl _ m.length (bc m) _ rm (by have:=HM.out;omega) Tryz.underlying344 rfl (by rw [HM.out];kernel_rfl) ?_) | (refine Z7 rfl 344 _ _ rfl wr.heap.size (bc m) rfl rfl 344 (bc (List.replicate 16 (0:UInt8))) hz (by rw [HBM.out];kernel_rfl) (by rw [HBM.out];rfl) (Z5h _) ?_));intro w5 hB5 hg5;have hb5:Below wr.heap.size wr w5:=hbz.trans (Z2 hg5 (lR _) (by simp));have hmap5:=hmap.belowW hb5;have hbel5:=hbel.trans (hb5.mono hbel.size);have r5:Rd w5 (wr.heap.size+1) 1 (some ⟨wr.heap.size,0,none⟩) 16 (bc m):=rd_of_blk hB5 HBM.out;obtain ⟨kl,hkl⟩:=Z9k m HM.out;clear hz hbz hg5 hb5 sm harr rm hrw f1;rcases hmap5.look Z5V Tryz.underlying341 (Z9l w5) hkl true with ⟨hmiss,hlk⟩ | ⟨v,hhit,hlk⟩
   ·have hlk':(Instr.lookup 341 (.map (some w.heap.size)) (.agg (bc m).toArray) true).run Tryz.prog w5= .ok (.tuple #[.int .i64 0,.bool false]) w5:=hlk
    obtain ⟨al',w6,hup,hmap6,hput,hg6⟩:=hmap5.update Z5V Tryz.underlying341 hkl (.int .i64 (i:Nat));have hup':(Instr.mapUpdate 341 (.map (some w.heap.size)) (.agg (bc m).toArray) (.int .i64 (i:Nat))).run Tryz.prog w5= .ok () w6:=hup;have hidx':Hid (Idx b (n+1) al'):=by
     unfold Hid;have:=hidx.out.put (al':=al') (by rw [←em'.out];exact hmiss) (by rw [←em'.out,←hin.out];exact hput);exact this
    have hbel6:=hbel5.trans (Z2 hg6 (lR _) hbel5.size);clear hlk hup hmiss hput hmap5 hg6;go_wp2_with (refine Z0S rfl 344 _ rfl _ rfl _ 16 (bc m) _ r5 (by decide) Tryz.underlying344 rfl (by kernel_rfl) ?_);exact ⟨⟨n+1,i+16,al',by go_num,by unfold Hid;rw [hin.out];omega,h1,hmap6,hidx',hbel6⟩,by simp [intOf];omega⟩
   ·have hlk':(Instr.lookup 341 (.map (some w.heap.size)) (.agg (bc m).toArray) true).run Tryz.prog w5= .ok (.tuple #[v,.bool true]) w5:=hlk
    have hidx':Hid (Idx b (n+1) al):=hidx.out.met (v:=v) (by rw [←em'.out];exact hhit);clear hlk hhit;go_wp2_with (refine Z0S rfl 344 _ rfl _ rfl _ 16 (bc m) _ r5 (by decide) Tryz.underlying344 rfl (by kernel_rfl) ?_);exact ⟨⟨n+1,i+16,al,by go_num,by unfold Hid;rw [hin.out];omega,h1,hmap5,hidx',hbel5⟩,by simp [intOf];omega⟩
  ·have d1:decide ((i:Int)+16≤(b.length:Int))=false:=by simp;omega
   have d1': ¬(i:Int)+16≤(b.length:Int):=by omega
   go_wp2_with fail;go_ret;exact ⟨n,al,rfl,hmap,⟨hidx.out,by have:=hin.out;omega,by have:=hin.out;omega⟩,hbel⟩
end Go.Proofs.YtecpbcmpncgokaaGreat
namespace Go.Proofs.YtecpbcmpncgokaaGreat
open Go.RowKit Go.Dol
def Wr (w:World) (base g:Nat) (l:LU):Prop:=
 ∃A c,Blk w g 328 [.slice A l.length c]∧Rd w w.heap.size 1 A l.length (bc l)∧base≤g∧l.length≤c∧c≤maxLen∧(0<l.length→ ∀k,Z9 A=some k→base≤k)
theorem Z78 {w:World} {base b:Nat} {e:TypeId} {size:Nat} {A:OA} {n c:Nat} {xs:List Value} (h:w.ownsRow b e size (.slice A n c) n xs) (hb:base≤b):0<n→ ∀k,Z9 A=some k→base≤k:=by
 intro hn k hk;rcases h.2 with ⟨h1,h0⟩ | ⟨g,cap,cur,h1,h2,_⟩
 ·omega
 ·injection h1 with h1
  rw [h1] at hk;injection hk with hk
  have e:g=k:=hk;omega
def RetW (w:World) (base g:Nat) (l:LU) (e:Ending) (w':World):Prop:=
 e= .returned (.tuple #[])∧(∃l',Hid (l'=l)∧Wr w' base g l')∧w.grownBy w' (some g)
theorem Wr.belowW {w w':World} {base g:Nat} {l:LU} (h:Wr w base g l) (hb:Below w.heap.size w w'):Wr w' base g l:=by
 obtain ⟨A,c,h1,h2,h3,h4⟩:=h;exact ⟨A,c,h1.below hb h1.lt,h2.aliveD hb,h3,h4⟩
theorem Z31 (base g n k:Nat) (l:LU) (w:World) (h:Wr w base g l) (hn:n≤1099511627776) (hk:k≤1099511627776) (hl:l.length+18≤140737488355328):
  Calls Tryz.prog 286 #[.pointer (some ⟨g,0,none⟩),.int .i64 n,.int .i64 k] w (RetW w base g (l++Z0d n k)):=by
 by_cases h0:n=0
 ·subst h0
  go_in;go_wp2_with fail;go_end0;exact ⟨rfl,⟨l,by simp [Hid,Z0d],h⟩,gR w _⟩
 ·obtain ⟨A,c,hB,hr,hg,hc,hc2,_⟩:=h
  have c0:w.cell? ⟨g,0,none⟩=some (.slice A l.length c):=by rw [hB.cell];rfl
  have hgl:=hB.lt;have d1:decide (0<(n:Int))=true:=by simp;omega
  have d1':(0:Int)<(n:Int):=by omega
  have d1n:0<n:=by omega
  have f1:IntKind.i64.wrap ((n:Int)-1)=(n:Int)-1:=qJ _ (by omega);have f2:IntKind.i64.wrap (2*((n:Int)-1))=2*((n:Int)-1):=qJ _ (by omega);have f3:IntKind.i64.wrap (2*((n:Int)-1)+1)=2*((n:Int)-1)+1:=qJ _ (by omega);have hcl:Hid (Zm (2*((n:Int)-1)+1)=2*(n-1)+1):=by unfold Hid Zm;omega
  have hcl2:Hid (Zm (k:Int)=k):=by unfold Hid Zm;omega
  have H0:=qI h0;clear h0;go_in;go_wp2_with fail;refine (Zz A l c _ w hr (by omega)).mono ?_;rintro e w1 ⟨l1,A1,c1,e1,rfl,ho1,hb1,i1,i2⟩;have hl1:l1.length≤l.length+9:=by
   rw [e1.out,List.length_append];have:=Z5 8 (Zm (2*((n:Int)-1)+1)) (by have:=Z1c (2*((n:Int)-1)+1);unfold Zb at this;omega);omega
  go_wp2_with fail;refine (Zz A1 l1 c1 _ w1 (Rd.of_own ho1) (by omega)).mono ?_;rintro e w2 ⟨l2,A2,c2,e2,rfl,ho2,hb2,i3,i4⟩;have hb12:=hb1.next hb2;have hB2:=hB.below hb12 hgl;have c2':w2.cell? ⟨g,0,none⟩=some (.slice A l.length c):=by rw [hB2.cell];rfl
  have z2:=hB2.free 0;have hs1:=hb1.size;clear c0;go_wp2_with fail;go_end0;refine ⟨rfl,⟨l2,?_,A2,c2,hB2.set 0 _,?_,hg,i3,i4,Z78 ho2 (by omega)⟩,Z0 (Z8 hb12 _) 0 _⟩
  ·unfold Hid Z0d
   rw [e2.out,e1.out,hcl.out,hcl2.out,if_neg H0.out,List.append_assoc]
  ·exact Rd.of_own (Z1k ho2 (Z0 (gR w2 _) 0 _) (by omega))
theorem Z5m (base g:Nat) (l:LU) (A2:OA) (x:LU) (c2:Nat) (w:World) (h:Wr w base g l) (hr2:Rd w w.heap.size 1 A2 x.length (bc x)) (hl:l.length+9+x.length≤140737488355328):
  Calls Tryz.prog 300 #[.pointer (some ⟨g,0,none⟩),.slice A2 x.length c2] w (RetW w base g (l++runB x)):=by
 rcases Nat.eq_zero_or_pos x.length with h0 | h0
 ·have hx:x=[]:=nZ h0
  subst hx;clear h0;go_in;go_wp2_with fail;go_end0;exact ⟨rfl,⟨l,by simp [Hid,runB],h⟩,gR w _⟩
 ·obtain ⟨A,c,hB,hr,hg,hc,hcm,_⟩:=h
  have c0:w.cell? ⟨g,0,none⟩=some (.slice A l.length c):=by rw [hB.cell];rfl
  have hgl:=hB.lt;have d1:decide (0<(x.length:Int))=true:=by simp;omega
  have d1':(0:Int)<(x.length:Int):=by omega
  have hxne:Hid (x≠[]):=fun e=>by rw [e] at h0;simp at h0
  have f1:IntKind.i64.wrap ((x.length:Int)-1)=(x.length:Int)-1:=qJ _ (by omega);have f2:IntKind.i64.wrap (2*((x.length:Int)-1))=2*((x.length:Int)-1):=qJ _ (by omega);have hcl:Hid (Zm (2*((x.length:Int)-1))=2*(x.length-1)):=by unfold Hid Zm;omega
  go_in;go_wp2_with fail;refine (Zz A l c _ w hr (by omega)).mono ?_;rintro e w1 ⟨l1,A1,c1,e1,rfl,ho1,hb1,i1,i2⟩;have hl1:l1.length≤l.length+9:=by
   rw [e1.out,List.length_append];have:=Z5 8 (Zm (2*((x.length:Int)-1))) (by have:=Z1c (2*((x.length:Int)-1));unfold Zb at this;omega);omega
  have hr2':=hr2.aliveD hb1;go_wp2_with (at_builtin;refine app8 rfl (.tmp 16) (.tmp 17) rfl w.heap.size _ l1.length l1 rfl ho1 w1.heap.size A2 x.length c2 x rfl hr2' (by omega) hb1.size ?_);intro l2 A3 c3 w2 e2 ho2 hb2 _ _ i3 i4;have hb12:=hb1.trans hb2;have hB2:=hB.below hb12 hgl;have c2':w2.cell? ⟨g,0,none⟩=some (.slice A l.length c):=by rw [hB2.cell];rfl
  have z2:=hB2.free 0;have hs1:=hb1.size;clear c0;go_wp2_with fail;go_end0;refine ⟨rfl,⟨l2,?_,A3,c3,hB2.set 0 _,?_,hg,i3,i4,Z78 ho2 (by omega)⟩,Z0 (Z8 hb12 _) 0 _⟩
  ·unfold Hid runB
   rw [e2.out,e1.out,hcl.out,if_neg hxne.out,List.append_assoc]
  ·exact Rd.of_own (Z1k ho2 (Z0 (gR w2 _) 0 _) (by omega))
end Go.Proofs.YtecpbcmpncgokaaGreat
namespace Go.Proofs.YtecpbcmpncgokaaGreat
open Go.RowKit Go.Dol
def ZiR (T b m:LU) (base g:Nat) (w:World) (frm i:Value) (wr:World):Prop:=
 ∃(k f:Nat) (l:LU),frm= .int .i64 f∧i= .int .i64 k∧f≤k∧k≤m.length∧Hid (T=l++midG b m k f)∧Wr wr base g l∧w.grownBy wr (some g)
theorem Zai (base g:Nat) (l:LU) (A:OA) (b:LU) (c:Nat) (A2:OA) (m:LU) (c2:Nat) (w:World) (h:Wr w base g l) (hr:Rd w base 1 A b.length (bc b)) (hr2:Rd w base 1 A2 m.length (bc m))
  (hb:b.length≤16777216) (hm:m.length≤16777216) (hl:l.length≤16777241) (hc:b.length≤c) (hcm:c≤maxLen) (hc2:m.length≤c2) (hcm2:c2≤maxLen):
  Calls Tryz.prog 287 #[.pointer (some ⟨g,0,none⟩),.slice A b.length c,.slice A2 m.length c2] w (RetW w base g (l++midL b m)):=by
 have hcost:Hid ((midL b m).length≤16777220):=by unfold Hid midL;have:=Z9i hb hm m.length 0 0 (lR _) (zL _);omega
 obtain ⟨T,hT⟩: ∃T,T=l++midL b m:=⟨_,rfl⟩;have hTl:Hid (T.length≤33554461):=by unfold Hid;rw [hT,List.length_append];have:=hcost.out;omega
 rw [←hT];have HT:Hid (T=l++midG b m 0 0):=by unfold Hid;rw [hT,Zei]
 clear hT hcost;have hgl:base≤g∧g<w.heap.size:=by obtain ⟨_,_,h1,_,h2,_⟩:=h;exact ⟨h2,h1.lt⟩
 go_in;go_wp2_with fail;refine (Zbp A b c w (hr.more (by omega)) (by omega) hc hcm).mono ?_;rintro e w1 ⟨nb,al,rfl,hmap,hidx,hb1⟩;have hs1:=hb1.size;have h1:=h.belowW hb1;have hr1:=hr.below (hb1.mono (by omega));have hr21:=hr2.below (hb1.mono (by omega));have hgr1:=Z8 hb1 (some g);clear h hb1 hr hr2;obtain ⟨B,hB⟩: ∃B,B=w.heap.size:=⟨_,rfl⟩;rw [←hB] at hmap ⊢;have hBg:some B≠some g:=by intro e;injection e;omega
 have HB:=qI hB;clear hB;go_wp2_with fail;go_loopw [7,8] (fun frm i wr=>ZiR T b m base g w1 frm i wr) (fun _ i _=>m.length-(intOf i).toNat)
 case atStart=>exact ⟨0,0,l,rfl,rfl,lR _,zL _,HT,h1,gR w1 _⟩
 case round=>
  clear h1 HT hl;obtain ⟨k,f,l,rfl,rfl,hfk,hkm,hT,hw,hgr⟩:=hrel;have hll:l.length≤33554461:=by have:=hTl.out;have h:=congrArg List.length hT.out;rw [List.length_append] at h;omega
  have hs:=hgr.size;have hrb:Rd wr base 1 A b.length (bc b):=hr1.grown hgr (by omega) (fun q hq=>by injection hq;omega);have hrm:Rd wr base 1 A2 m.length (bc m):=hr21.grown hgr (by omega) (fun q hq=>by injection hq;omega);have hmp:=hmap.grown hgr hBg;have f1:IntKind.i64.wrap ((k:Int)+16)=(k:Int)+16:=qJ _ (by omega)
  by_cases hk16:k+16≤m.length
  ·have d1:decide ((k:Int)+16≤(m.length:Int))=true:=by simp;omega
   have d1':(k:Int)+16≤(m.length:Int):=by omega
   obtain ⟨x,Ax,cx,ex,jx,jx',⟨rx,kx,kx'⟩,_,_,_,sx⟩:=Z8D (lo:=k) (hi:=k+16) (k:Int) ((k:Int)+16) rfl (by omega) hrm (by omega) hk16 hc2 hcm2;have hx16:x.length=16:=by omega
   have harr:(Instr.arrayAt 344 (.slice Ax x.length cx)).run Tryz.prog wr= .ok (.pointer Ax) wr:=run_arrayAt wr _ _ 16 _ _ _ Tryz.underlying344 (by omega);have ex':Hid (x=(m.drop k).take 16):=by unfold Hid;rw [ex.out,show k+16-k=16 by omega]
   have HX:=qI hx16;obtain ⟨kl,hkl⟩:=Z9k x hx16;clear hx16 ex;rcases hmp.look Z5V Tryz.underlying341 (Z9l wr) hkl true with ⟨hmiss,hlk⟩ | ⟨v,hhit,hlk⟩
   ·have hlk':(Instr.lookup 341 (.map (some B)) (.agg (bc x).toArray) true).run Tryz.prog wr= .ok (.tuple #[.int .i64 0,.bool false]) wr:=hlk
    have hT':Hid (T=l++midG b m (k+1) f):=by
     unfold Hid;rw [hT.out,Z9j (by omega) (hidx.out.1.miss hidx.out.2.2 (by rw [←ex'.out];exact hmiss))]
    clear hlk hmiss;go_wp2_with (refine Z0S rfl 344 _ rfl Ax rfl _ x.length (bc x) _ rx (by have:=HX.out;omega) Tryz.underlying344 rfl (by rw [HX.out];kernel_rfl) ?_);exact ⟨⟨k+1,f,l,rfl,by go_num,by omega,by omega,hT',hw,hgr⟩,by simp [intOf];omega⟩
   ·obtain ⟨kk,hv,hat⟩: ∃kk:Nat,v= .int .i64 (kk:Nat)∧Z0C b (m.drop k)=some kk:=hidx.out.1.hit hidx.out.2.1 (by rw [List.length_drop];omega) (by rw [←ex'.out];exact hhit)
    subst hv;have hlk':(Instr.lookup 341 (.map (some B)) (.agg (bc x).toArray) true).run Tryz.prog wr= .ok (.tuple #[.int .i64 (kk:Nat),.bool true]) wr:=hlk;have hsp:=Z1l hat;have hT':Hid (T=l++(runB ((m.drop f).take (k-f))++(Z0d (begins (b.drop kk) (m.drop k)) kk++midG b m (k+begins (b.drop kk) (m.drop k)) (k+begins (b.drop kk) (m.drop k))))):=by
     unfold Hid;rw [hT.out,Zf6 (by omega) hat]
    clear hlk hhit hat;obtain ⟨y,Ay,cy,ey,jy,jy',⟨ry,ky,ky'⟩,_,_,_,sy⟩:=Z0b (k:=kk) (kk:Int) rfl hrb (by omega) hc hcm;obtain ⟨z,Az,cz,ez,jz,jz',⟨rz,kz,kz'⟩,_,_,_,sz⟩:=Z0b (k:=k) (k:Int) rfl hrm hkm hc2 hcm2;rw [←ey.out,←ez.out] at hT' hsp;go_wp2_with (refine Z0S rfl 344 _ rfl Ax rfl _ x.length (bc x) _ rx (by have:=HX.out;omega) Tryz.underlying344 rfl (by rw [HX.out];kernel_rfl) ?_);go_quiet ((go_at_call 284;exact Calls.quiet_of (Z30 Ay y cy Az z cz _ base base (ry.drewN _) (rz.drewN _) (by omega) (by omega))));have hgl2:=Z1d y z;obtain ⟨n,hn⟩: ∃n,n=begins y z:=⟨_,rfl⟩;rw [←hn] at hgl2 hT' hsp ⊢;obtain ⟨w7,hw7⟩: ∃v,v=wr.drewN nq:=⟨_,rfl⟩;rw [←hw7];have hw7':Wr w7 base g l:=by rw [hw7];exact hw.belowW ((bR _ _).drewN' nq)
    have hgr7:w1.grownBy w7 (some g):=by rw [hw7];exact Z0R hgr nq
    have hrm7:Rd w7 base 1 A2 m.length (bc m):=by rw [hw7];exact hrm.drewN nq
    have hs7:=hgr7.size;clear hw7 hw hgr hs hrm hrb sx sy sz harr rx ry rz hn ey ez hmp;obtain ⟨q,Aq,cq,eq,jq,jq',⟨rq,kq,kq'⟩,_,_,_,sq⟩:=Z8D (lo:=f) (hi:=k) (f:Int) (k:Int) rfl rfl hrm7 hfk hkm hc2 hcm2;rw [←eq.out] at hT';go_wp2_with fail;refine (Z5m base g l Aq q cq w7 hw7' (rq.more (by omega)) (by omega)).mono ?_;rintro e w8 ⟨rfl,⟨l8,e8,hw8⟩,hg8⟩;have hl8:l8.length≤33554461:=by
     have h:=congrArg List.length hT'.out;have h8:=congrArg List.length e8.out;have:=hTl.out;simp only [List.length_append] at h h8;omega
    clear sq rq eq hw7' hrm7;go_wp2_with fail;refine (Z31 base g n kk l8 w8 hw8 (by omega) (by omega) (by omega)).mono ?_;rintro e w9 ⟨rfl,⟨l9,e9,hw9⟩,hg9⟩;go_wp2_with fail;refine ⟨⟨k+n,k+n,l9,by go_num,by go_num,lR _,by omega,?_,hw9,Za hgr7 (Za hg8 hg9)⟩,by simp [intOf];omega⟩;unfold Hid;rw [hT'.out,e9.out,e8.out];simp only [List.append_assoc]
  ·have d1:decide ((k:Int)+16≤(m.length:Int))=false:=by simp;omega
   have d1': ¬(k:Int)+16≤(m.length:Int):=by omega
   obtain ⟨x,Ax,cx,ex,jx,jx',⟨rx,kx,kx'⟩,_,_,_,sx⟩:=Z0b (k:=f) (f:Int) rfl hrm (by omega) hc2 hcm2;have hT':Hid (T=l++runB x):=by unfold Hid;rw [hT.out,Zd6 _ _ _ (lR _) (by omega),ex.out]
   clear hT ex;go_wp2_with fail;refine (Z5m base g l Ax x cx wr hw (rx.more (by omega)) (by omega)).mono ?_;rintro e w8 ⟨rfl,⟨l8,e8,hw8⟩,hg8⟩;go_wp2_with fail;go_end0;exact ⟨rfl,⟨l8,by unfold Hid;rw [hT'.out];exact e8.out,hw8⟩,Za hgr1 (Za hgr hg8)⟩
end Go.Proofs.YtecpbcmpncgokaaGreat
namespace Go.Proofs.YtecpbcmpncgokaaGreat
open Go.RowKit Go.Dol
def RetT (w3 w:World) (l:LU) (e:Ending) (w':World):Prop:=
 ∃(l':LU) (A:OA) (c:Nat),Hid (l'=l)∧e= .returned (.slice A l'.length c)∧Rd w' w'.heap.size 1 A l'.length (bc l')∧Below w3.heap.size w3 w'∧Below w.heap.size w w'
theorem Z9m (A:OA) (l:LU) (c:Nat) (w3 w:World) (hr:Rd w3 w3.heap.size 1 A l.length (bc l)) (hb:Below w3.heap.size w3 w) (hl:l.length≤140737488355328):
  Calls Tryz.prog 285 #[.slice A l.length c] w (RetT w3 w l.reverse):=by
 refine (Z8K A l c w (hr.aliveD hb) hl).mono ?_;rintro e w1 ⟨l1,A1,c1,e1,rfl,ho1,hb1,i1,i2⟩;exact ⟨l1,A1,c1,e1,rfl,Rd.of_own ho1,hb.trans (hb1.mono hb.size),hb1⟩
def ZiS (w:World) (l:LU) (e:Ending) (w':World):Prop:=
 ∃(l':LU) (A:OA) (c:Nat),Hid (l'=l)∧e= .returned (.slice A l'.length c)∧Rd w' w'.heap.size 1 A l'.length (bc l')∧Below w.heap.size w w'∧l'.length≤c∧c≤maxLen∧(0<l'.length→ ∀k,Z9 A=some k→w.heap.size≤k)
theorem Zbq (A:OA) (b:LU) (c:Nat) (A2:OA) (t:LU) (c2:Nat) (w:World) (hr:Rd w w.heap.size 1 A b.length (bc b)) (hr2:Rd w w.heap.size 1 A2 t.length (bc t))
  (hb:b.length≤16777216) (ht:t.length≤16777216) (hc:b.length≤c) (hcm:c≤maxLen) (hc2:t.length≤c2) (hcm2:c2≤maxLen):
  Calls Tryz.prog 271 #[.slice A b.length c,.slice A2 t.length c2] w (ZiS w (encL b t)):=by
 have hcb:Hid (Zm (b.length:Int)=b.length):=Z7r (by omega);have hct:Hid (Zm (t.length:Int)=t.length):=Z7r (by omega);have hcost:Hid ((encL b t).length≤16777241):=by unfold Hid;have:=Zf3 (base:=b) (target:=t) hb ht;omega
 obtain ⟨T,hT⟩: ∃T,T=encL b t:=⟨_,rfl⟩;rw [←hT] at hcost ⊢;have HT:=qI hT;clear hT;go_in;go_wp2_with fail;refine (Zz none [] 0 _ w Rd.nil (by decide)).mono ?_;rintro e w1 ⟨l1,A1,c1,e1,rfl,ho1,hb1,i1,i2⟩;have hl1:l1.length≤9:=by
  rw [e1.out,hcb.out,List.nil_append];exact Z5 8 _ (by omega)
 go_wp2_with fail;refine (Zz A1 l1 c1 _ w1 (Rd.of_own ho1) (by omega)).mono ?_;rintro e w2 ⟨l2,A2',c2',e2,rfl,ho2,hb2,i3,i4⟩;have hl2:Hid (l2=num b.length++num t.length):=by unfold Hid;rw [e2.out,e1.out,hcb.out,hct.out,List.nil_append]
 have hl2n:l2.length≤18:=by rw [hl2.out,List.length_append];have:=Z5 8 b.length (by omega);have:=Z5 8 t.length (by omega);omega
 have hb12:=hb1.next hb2;have hro:=Rd.of_own ho2;have hnw:=Z78 ho2 hb1.size;clear e2 e1 hcb hct ho1 ho2 hb1 hb2;go_wp2_with fail;have hW:Wr (w2.alloc (.cells #[.slice A2' l2.length c2'] 328)) w.heap.size w2.heap.size l2:=⟨A2',c2',Blk.new w2 _ [_],hro.aliveD ((bR _ _).alloc (lR _) _),hb12.size,i3,i4,hnw⟩;have hb3:Below w.heap.size w (w2.alloc (.cells #[.slice A2' l2.length c2'] 328)):=hb12.alloc hb12.size _;obtain ⟨g,hg⟩: ∃g,g=w2.heap.size:=⟨_,rfl⟩;obtain ⟨w3,hw3⟩: ∃v,v=w2.alloc (.cells #[.slice A2' l2.length c2'] 328):=⟨_,rfl⟩;rw [←hg] at hW ⊢;rw [←hw3] at hW hb3 ⊢;clear hg hw3 hro hb12;have hrx:=hr.aliveD hb3;have hrx2:=hr2.aliveD hb3;refine (Z30 A b c A2 t c2 w3 _ _ hrx hrx2 (by omega) (by omega)).mono ?_;rintro e w4 ⟨rfl,q3,hw4⟩;have hple:=Z1d b t;obtain ⟨p,hp⟩: ∃p,p=begins b t:=⟨_,rfl⟩;rw [←hp] at hple ⊢;have HP:=qI hp;clear hp hrx hrx2;have hb4:Below w.heap.size w w4:=by rw [hw4];exact hb3.drewN' q3
 have hW4:Wr w4 w.heap.size g l2:=by rw [hw4];exact hW.belowW ((bR _ _).drewN' q3)
 have hr4:=hr.aliveD hb4;have hr4t:=hr2.aliveD hb4;clear hw4 hb3 hW;obtain ⟨x1,B1,d1,ex1,jx1,jx1',⟨rx1,kx1,kx1'⟩,_,_,_,sx1⟩:=Z0b (k:=p) (p:Int) rfl hr4 hple.1 hc hcm;obtain ⟨x2,B2,d2,ex2,jx2,jx2',⟨rx2,kx2,kx2'⟩,_,_,_,sx2⟩:=Z0b (k:=p) (p:Int) rfl hr4t hple.2 hc2 hcm2;go_wp2_with fail;go_cut [7] (fun v wx=>v= .int .i64 (ends x1 x2:Nat)∧Below w4.heap.size w4 wx)
 case first=>
  go_region_with
   ((first | (go_at_call 285;refine (Z9m B1 x1 d1 w4 _ rx1 (by first | exact bR _ _ | exact (bR _ _).drew) (by omega)).mono ?_;rintro e w5 ⟨l5,A5,c5,e5,rfl,hr5,hb5,_⟩;have hl5:l5.length≤16777216:=(by rw [e5.out,List.length_reverse];omega)) | (go_at_call 285;refine (Z9m B2 x2 d2 w4 _ rx2 (by first | exact hb5 | exact hb5.drew) (by omega)).mono ?_;rintro e w6 ⟨l6,A6,c6,e6,rfl,hr6,hb6,hb56⟩;have hl6:l6.length≤16777216:=(by rw [e6.out,List.length_reverse];omega);have hr56:Rd w6 w6.heap.size 1 A5 l5.length (bc l5):=(by first | exact hr5.aliveD hb56 | exact hr5.drew.aliveD hb56)) | (go_at_call 284;refine (Z30 A5 l5 c5 A6 l6 c6 _ w6.heap.size w6.heap.size (by first | exact hr56 | exact hr56.drew) (by first | exact hr6 | exact hr6.drew) (by omega) (by omega)).mono ?_;rintro e w7 ⟨rfl,q7,rfl⟩)))
  all_goals
   go_wp2_with fail;go_meet;refine ⟨?_,?_⟩
   ·have e1:begins l5 l6=ends x1 x2:=by rw [e5.out,e6.out];rfl
    rw [e1]
   ·first
     | exact hb6.drewN' _
     | exact (hb6.drewN' _).drew
     | exact hb6.drew.drewN' _
     | (trace_state;fail)
 case rest=>
  obtain ⟨rfl,hb5⟩:=hcut;have hele:=Zag x1 x2;obtain ⟨e,he⟩: ∃e,e=ends x1 x2:=⟨_,rfl⟩;rw [←he] at hele ⊢;have HE:Hid (e=ends (b.drop p) (t.drop p)):=by unfold Hid;rw [he,ex1.out,ex2.out]
  have hW5:=hW4.belowW hb5;have hbw:=hb4.trans (hb5.mono hb4.size);clear he sx1 sx2 rx1 rx2 ex1 ex2 hr4 hr4t hb5 hW4;go_wp2_with fail;refine (Z31 w.heap.size g p 0 l2 wc hW5 (by omega) (by omega) (by omega)).mono ?_;rintro e' w7 ⟨rfl,⟨l3,e3,hW7⟩,hg7⟩;have hl3:l3.length≤16777241:=by
   have h1:=congrArg List.length e3.out;have:=Z4D (n:=p) (by omega);rw [List.length_append] at h1;omega
  have hgw:w.heap.size≤g:=by obtain ⟨_,_,_,_,h,_⟩:=hW7;exact h
  have hb7:=hbw.trans (Z2 hg7 hgw hbw.size);clear hg7 hW5 hbw;obtain ⟨m,Am,cm,em,jm,jm',⟨rm,km,km'⟩,_,_,_,sm⟩:=Z8D (lo:=p) (hi:=t.length-e) (p:Int) ((t.length:Int)-(e:Int)) rfl (by omega) hr2 (by omega) (by omega) hc2 hcm2;have hTm:Hid (T=l3++(midL b m++Z0d e (b.length-e))):=by
   unfold Hid;rw [HT.out,Zf7 b t HP.out HE.out,e3.out,hl2.out,em.out,show t.length-e-p=t.length-p-e by omega,Zei];simp only [List.append_assoc]
  clear em e3 hl2 HP HE HT;go_wp2_with fail;refine (Zai w.heap.size g l3 A b c Am m cm w7 hW7 (hr.below hb7) (rm.below hb7) hb (by omega) hl3 hc hcm km km').mono ?_;rintro e' w8 ⟨rfl,⟨l8,e8,hW8⟩,hg8⟩;have hb8:=hb7.trans (Z2 hg8 hgw hb7.size);have hl8:l8.length≤16777241:=by
   have h:=congrArg List.length hTm.out;have h8:=congrArg List.length e8.out;have:=hcost.out;simp only [List.length_append] at h h8;omega
  have f1:(b.length:Int)-(e:Int)=((b.length-e:Nat):Int):=by omega
  have hx:=Z31 w.heap.size g e (b.length-e) l8 w8 hW8 (by omega) (by omega) (by omega);rw [←f1] at hx;clear f1 sm hg8 hW7 rm hW8;go_wp2_with fail;refine hx.mono ?_;rintro e' w9 ⟨rfl,⟨l9,e9,A9,c9,hB9,hr9,_,i5,i6,i7⟩,hg9⟩;have hb9:=hb8.trans (Z2 hg9 hgw hb8.size);have c0:w9.cell? ⟨g,0,none⟩=some (.slice A9 l9.length c9):=by rw [hB9.cell];rfl
  clear hx hg9;go_wp2_with fail;go_ret;refine ⟨l9,A9,c9,?_,rfl,hr9,hb9,i5,i6,i7⟩;unfold Hid;rw [hTm.out,e9.out,e8.out,List.append_assoc]
end Go.Proofs.YtecpbcmpncgokaaGreat
namespace Go.Dol
def tokL (base:LU) (size:Nat) (o p:LU):Option (LU×LU):=
 match Z3 p with
 | none=>none
 | some (t,rest)=>
  if t%2=0 then
   if t/2+1≤size-o.length∧t/2+1≤rest.length then some (o++rest.take (t/2+1),rest.drop (t/2+1)) else none
  else
   match Z3 rest with
   | none=>none
   | some (d,rest2)=>if t/2+1≤size-o.length∧d+(t/2+1)≤base.length then some (o++(base.drop d).take (t/2+1),rest2) else none
theorem Zgd {base:LU} {size:Nat} {o p:LU} (hp:p≠[]) (h:tokL base size o p=none):dGo base size o p=none:=by
 unfold tokL at h
 cases ht:Z3 p with
 | none=>exact Zg9 hp ht
 | some y=>
  obtain ⟨t,rest⟩:=y;rw [ht] at h;simp only at h
  by_cases he:t%2=0
  ·rw [if_pos he] at h
   rw [Zaf ht he];split at h
   ·cases h
   ·rw [if_neg (by assumption)]
  ·rw [if_neg he] at h
   cases ht2:Z3 rest with
   | none=>exact Z8I ht (by omega) ht2
   | some z=>
    obtain ⟨d,rest2⟩:=z;rw [ht2] at h;simp only at h;rw [Z7p ht (by omega) ht2];split at h
    ·cases h
    ·rw [if_neg (by assumption)]
theorem Zge {base:LU} {size:Nat} {o p o' p':LU} (h:tokL base size o p=some (o',p')):dGo base size o p=dGo base size o' p'∧o'.length≤size∧p'.length<p.length:=by
 unfold tokL at h
 cases ht:Z3 p with
 | none=>rw [ht] at h;cases h
 | some y=>
  obtain ⟨t,rest⟩:=y;have hl:=Zh ht;rw [ht] at h;simp only at h
  by_cases he:t%2=0
  ·rw [if_pos he] at h
   rw [Zaf ht he];split at h
   ·rename_i hc
    injection h with h
    injection h with h1 h2
    rw [if_pos hc,h1,h2];refine ⟨rfl,?_,?_⟩
    ·rw [←h1,List.length_append,List.length_take];omega
    ·rw [←h2,List.length_drop];omega
   ·cases h
  ·rw [if_neg he] at h
   cases ht2:Z3 rest with
   | none=>rw [ht2] at h;cases h
   | some z=>
    obtain ⟨d,rest2⟩:=z;have hl2:=Zh ht2;rw [ht2] at h;simp only at h;rw [Z7p ht (by omega) ht2];split at h
    ·rename_i hc
     injection h with h
     injection h with h1 h2
     rw [if_pos hc,h1,h2];refine ⟨rfl,?_,?_⟩
     ·rw [←h1,List.length_append,List.length_take];omega
     ·rw [←h2];omega
    ·cases h
end Go.Dol
namespace Go.Proofs.YtecpbcmpncgokaaGreat
open Go.RowKit Go.Dol
attribute [local irreducible] wpStill
def ZiT (w:World) (g:Nat) (vb vo vs:Value) (e0:Int) (r:Option (Nat×LU)) (e:Ending) (w':World):Prop:=
 match r with
 | none=>e= .returned (.int .i64 0)∧Blk w' g 333 [vb,.slice none 0 0,vo,vs,.int .i64 2]∧w.grownBy w' (some g)
 | some (n,q)=> ∃(q':LU) (A:OA) (c:Nat),Hid (q'=q)∧e= .returned (.int .i64 (n:Nat))∧Blk w' g 333 [vb,.slice A q'.length c,vo,vs,.int .i64 e0]∧
   w'.ownsRow w.heap.size 5 1 (.slice A q'.length c) q'.length (bc q')∧w.grownBy w' (some g)∧q'.length≤c∧c≤maxLen
theorem Z9n (g:Nat) (A:OA) (p:LU) (c:Nat) (vb vo vs:Value) (w:World) (hblk:Blk w g 333 [vb,.slice A p.length c,vo,vs,.int .i64 0]) (hr:Rd w w.heap.size 1 A p.length (bc p)) (hp:p.length≤140737488355328) (hc:p.length≤c):
  Calls Tryz.prog 288 #[.pointer (some ⟨g,0,none⟩)] w (ZiT w g vb vo vs 0 (Z3 p)):=by
 have k1:w.cell? ⟨g,1,none⟩=some (.slice A p.length c):=by rw [hblk.cell];rfl
 have hgl:=hblk.lt;go_in;go_wp2_with fail;refine (ZW A p c w hr hp hc).mono ?_;intro e w1 h1;rcases ht:Z3 p with _ | ⟨n,q⟩
 ·rw [ht] at h1
  obtain ⟨rfl,hb1⟩:=h1;have hB1:=hblk.below hb1 hgl;have k2:w1.cell? ⟨g,1,none⟩=some (.slice A p.length c):=by rw [hB1.cell];rfl
  have k3:w1.cell? ⟨g,4,none⟩=some (.int .i64 0):=by rw [hB1.cell];rfl
  have z1:=hB1.free 1;have z4:=hB1.free 4;have HT:=qI ht;clear ht k1;go_wp2_with fail;go_ret;rw [HT.out];exact ⟨rfl,(hB1.set 1 (.slice none 0 0)).set 4 (.int .i64 2),Z0 (Z0 (Z8 hb1 _) 1 _) 4 _⟩
 ·rw [ht] at h1
  obtain ⟨q',A',c',e1,rfl,ho1,hb1,i1,i2⟩:=h1;have hB1:=hblk.below hb1 hgl;have k2:w1.cell? ⟨g,1,none⟩=some (.slice A p.length c):=by rw [hB1.cell];rfl
  have k3:w1.cell? ⟨g,4,none⟩=some (.int .i64 0):=by rw [hB1.cell];rfl
  have z1:=hB1.free 1;have z4:=hB1.free 4;have HT:=qI ht;clear ht k1;go_wp2_with fail;go_ret;rw [HT.out];have hG:w1.grownBy ((w1.setCell ⟨g,1,none⟩ (.slice A' q'.length c')).setCell ⟨g,4,none⟩ (.int .i64 0)) (some g):=Z0 (Z0 (gR _ _) 1 _) 4 _;exact ⟨q',A',c',e1,rfl,(hB1.set 1 (.slice A' q'.length c')).set 4 (.int .i64 0),Z1k ho1 hG hgl,Z0 (Z0 (Z8 hb1 _) 1 _) 4 _,i1,i2⟩
theorem Zi2 (g:Nat) (vb vo vs:Value) (w:World) (hblk:Blk w g 333 [vb,.slice none 0 0,vo,vs,.int .i64 2]):
  Calls Tryz.prog 288 #[.pointer (some ⟨g,0,none⟩)] w fun e w'=>e= .returned (.int .i64 0)∧Blk w' g 333 [vb,.slice none 0 0,vo,vs,.int .i64 2]∧w.grownBy w' (some g):=by
 have k1:w.cell? ⟨g,1,none⟩=some (.slice none 0 0):=by rw [hblk.cell];rfl
 have hgl:=hblk.lt;go_in;go_wp2_with fail;refine (ZW none [] 0 w Rd.nil (by decide) (by decide)).mono ?_;rintro e w1 ⟨rfl,hb1⟩;have hB1:=hblk.below hb1 hgl;have k2:w1.cell? ⟨g,1,none⟩=some (.slice none 0 0):=by rw [hB1.cell];rfl
 have k3:w1.cell? ⟨g,4,none⟩=some (.int .i64 2):=by rw [hB1.cell];rfl
 have z1:=hB1.free 1;have z4:=hB1.free 4;clear k1;go_wp2_with fail;go_ret;exact ⟨rfl,(hB1.set 1 (.slice none 0 0)).set 4 (.int .i64 2),Z0 (Z0 (Z8 hb1 _) 1 _) 4 _⟩
def IsSl (v:Value):Prop:=∃ A n c,v= .slice A n c
def Zbr (w:World) (g:Nat):Prop:=∃ vb vp vo vs,Blk w g 333 [vb,vp,vo,vs,.int .i64 2]∧IsSl vp
theorem Zej (g:Nat) (vb vp vo vs:Value) (A:OA) (n c:Nat) (at' m:Int) (w:World) (hblk:Blk w g 333 [vb,vp,vo,vs,.int .i64 2]) (hv:IsSl vp):
  Calls Tryz.prog 301 #[.pointer (some ⟨g,0,none⟩),.slice A n c,.int .i64 at',.int .i64 m] w fun e w'=>e= .returned (.tuple #[])∧Zbr w' g∧w.grownBy w' (some g):=by
 have k4:w.cell? ⟨g,4,none⟩=some (.int .i64 2):=by rw [hblk.cell];rfl
 have z4:=hblk.free 4;go_in;go_wp2_with fail;go_quiet (fail);go_wp2_with fail;refine bodyPost_ret (results_none (by rfl) _ _ _) rfl ?_;exact ⟨rfl,⟨vb,vp,vo,vs,(hblk.drewN nq).set 4 (.int .i64 2),hv⟩,Z0 (Z0R (gR w (some g)) nq) 4 _⟩
theorem Zaj (g:Nat) (vb vp:Value) (Ao:OA) (no co size:Nat) (A:OA) (n c at' m:Nat) (w:World) (hblk:Blk w g 333 [vb,vp,.slice Ao no co,.int .i64 size,.int .i64 0]) (hv:IsSl vp) (hno:no≤size) (hs:size≤4611686018427387903) (hn:n≤140737488355328)
  (h: ¬(at'≤n∧m≤n-at'∧m≤size-no)):
  Calls Tryz.prog 301 #[.pointer (some ⟨g,0,none⟩),.slice A n c,.int .i64 at',.int .i64 m] w fun e w'=>e= .returned (.tuple #[])∧Zbr w' g∧w.grownBy w' (some g):=by
 have k2:w.cell? ⟨g,2,none⟩=some (.slice Ao no co):=by rw [hblk.cell];rfl
 have k3:w.cell? ⟨g,3,none⟩=some (.int .i64 size):=by rw [hblk.cell];rfl
 have k4:w.cell? ⟨g,4,none⟩=some (.int .i64 0):=by rw [hblk.cell];rfl
 have z4:=hblk.free 4;have f2:IntKind.i64.wrap ((size:Int)-(no:Int))=(size:Int)-(no:Int):=qJ _ (by omega)
 by_cases h1:at'≤n
 ·have d1:decide (n<at')=false:=by simp;omega
  have d1': ¬(n:Int)<(at':Int):=by omega
  have d1i:decide ((n:Int)<(at':Int))=false:=by simp;omega
  have f1:IntKind.i64.wrap ((n:Int)-(at':Int))=(n:Int)-(at':Int):=qJ _ (by omega)
  by_cases h2:m≤n-at'
  ·have d2:decide ((n:Int)-(at':Int)<(m:Int))=false:=by simp;omega
   have d2': ¬(n:Int)-(at':Int)<(m:Int):=by omega
   have d3:decide ((size:Int)-(no:Int)<(m:Int))=true:=by simp;omega
   have d3':(size:Int)-(no:Int)<(m:Int):=by omega
   clear h h2;go_in;go_wp2_with fail;go_quiet (fail);go_wp2_with fail;refine bodyPost_ret (results_none (by rfl) _ _ _) rfl ?_;exact ⟨rfl,⟨_,_,_,_,(hblk.drewN nq).set 4 (.int .i64 2),hv⟩,Z0 (Z0R (gR w (some g)) nq) 4 _⟩
  ·have d2:decide ((n:Int)-(at':Int)<(m:Int))=true:=by simp;omega
   have d2':(n:Int)-(at':Int)<(m:Int):=by omega
   clear h h2;go_in;go_wp2_with fail;go_quiet (fail);go_wp2_with fail;refine bodyPost_ret (results_none (by rfl) _ _ _) rfl ?_;exact ⟨rfl,⟨_,_,_,_,(hblk.drewN nq).set 4 (.int .i64 2),hv⟩,Z0 (Z0R (gR w (some g)) nq) 4 _⟩
 ·have d1:decide (n<at')=true:=by simp;omega
  have d1':(n:Int)<(at':Int):=by omega
  have d1i:decide ((n:Int)<(at':Int))=true:=by simp;omega
  clear h h1;go_in;go_wp2_with fail;go_quiet (fail);go_wp2_with fail;refine bodyPost_ret (results_none (by rfl) _ _ _) rfl ?_;exact ⟨rfl,⟨_,_,_,_,(hblk.drewN nq).set 4 (.int .i64 2),hv⟩,Z0 (Z0R (gR w (some g)) nq) 4 _⟩
end Go.Proofs.YtecpbcmpncgokaaGreat
namespace Go.Proofs.YtecpbcmpncgokaaGreat
open Go.RowKit Go.Dol
attribute [local irreducible] wpStill
def Zgf (base g:Nat) (vb vp:Value) (size:Nat) (Ao:OA) (no co:Nat) (r:LU) (w:World) (e:Ending) (w':World):Prop:=
 e= .returned (.tuple #[])∧ ∃(o':LU) (Ao':OA) (co':Nat),Hid (o'=r)∧Blk w' g 333 [vb,vp,.slice Ao' o'.length co',.int .i64 size,.int .i64 0]∧
  w'.ownsRow base 5 1 (.slice Ao' o'.length co') o'.length (bc o')∧Below base w w'∧o'.length≤co'∧co'≤maxLen∧
  Hid (∀(A:OA) (n c:Nat) (xs:List Value),Seg w base 5 1 A n c xs→Apart A c (.slice Ao no co)→Seg w' base 5 1 A n c xs∧Apart A c (.slice Ao' o'.length co'))
theorem Z7s (base g:Nat) (vb vp:Value) (o:LU) (Ao:OA) (co size:Nat) (A:OA) (x:LU) (c at' m:Nat) (w:World) (hblk:Blk w g 333 [vb,vp,.slice Ao o.length co,.int .i64 size,.int .i64 0])
  (hown:w.ownsRow base 5 1 (.slice Ao o.length co) o.length (bc o)) (hr:Rd w w.heap.size 1 A x.length (bc x)) (hc:x.length≤c) (hcm:c≤maxLen) (hg:base≤g) (hno:o.length≤size) (hs:size≤70368744177664) (hn:x.length≤140737488355328)
  (h1:at'≤x.length) (h2:m≤x.length-at') (h3:m≤size-o.length):
  Calls Tryz.prog 301 #[.pointer (some ⟨g,0,none⟩),.slice A x.length c,.int .i64 at',.int .i64 m] w (Zgf base g vb vp size Ao o.length co (o++(x.drop at').take m) w):=by
 have k2:w.cell? ⟨g,2,none⟩=some (.slice Ao o.length co):=by rw [hblk.cell];rfl
 have k3:w.cell? ⟨g,3,none⟩=some (.int .i64 size):=by rw [hblk.cell];rfl
 have k4:w.cell? ⟨g,4,none⟩=some (.int .i64 0):=by rw [hblk.cell];rfl
 have f2:IntKind.i64.wrap ((size:Int)-(o.length:Int))=(size:Int)-(o.length:Int):=qJ _ (by omega);have f1:IntKind.i64.wrap ((x.length:Int)-(at':Int))=(x.length:Int)-(at':Int):=qJ _ (by omega);have f3:IntKind.i64.wrap ((at':Int)+(m:Int))=(at':Int)+(m:Int):=qJ _ (by omega);have d1:decide (x.length<at')=false:=by simp;omega
 have d1i:decide ((x.length:Int)<(at':Int))=false:=by simp;omega
 have d2:decide ((x.length:Int)-(at':Int)<(m:Int))=false:=by simp;omega
 have d3:decide ((size:Int)-(o.length:Int)<(m:Int))=false:=by simp;omega
 have hgl:=hblk.lt;obtain ⟨q,Aq,cq,eq,jq,jq',⟨rq,kq,kq'⟩,_,_,_,sq⟩:=Z8D (lo:=at') (hi:=at'+m) (at':Int) ((at':Int)+(m:Int)) rfl (by omega) hr (by omega) (by omega) hc hcm;have eq':Hid (q=(x.drop at').take m):=by unfold Hid;rw [eq.out,Nat.add_sub_cancel_left]
 have hql:o.length+q.length≤140737488355328:=by omega
 clear eq h1 h2 h3;go_in;go_wp2_with fail;go_quiet (fail);obtain ⟨w1,hw1⟩: ∃v,v=w.drewN nq:=⟨_,rfl⟩;rw [←hw1];have hb1:Blk w1 g 333 [vb,vp,.slice Ao o.length co,.int .i64 size,.int .i64 0]:=by rw [hw1];exact hblk.drewN nq
 have ho1:w1.ownsRow base 5 1 (.slice Ao o.length co) o.length (bc o):=by rw [hw1];exact hown
 have hrq:Rd w1 w1.heap.size 1 Aq q.length (bc q):=by rw [hw1];exact rq.drewN nq
 have hbel1:Below base w w1:=by rw [hw1];exact (bR _ _).drewN' nq
 have hseg1:Hid (∀(A:OA) (n c:Nat) (xs:List Value),Seg w base 5 1 A n c xs→Seg w1 base 5 1 A n c xs):=by rw [hw1];exact fun A n c xs h=>h.drewN nq
 have k2:w1.cell? ⟨g,2,none⟩=some (.slice Ao o.length co):=by rw [hb1.cell];rfl
 have hz1:base≤w1.heap.size:=by have:=hb1.lt;omega
 clear hw1 hblk hown hr rq k3 k4 d1 d1i d2 d3;go_wp2_with fail;have hne:some g≠(Value.slice Ao o.length co).ownBlock:=fun e=>own_ne ho1 hb1 (by decide) e.symm;have qf:(World.drew w1).cell? ⟨g,2,none⟩=some (.slice Ao o.length co):=k2
 go_region_law ((refine ZjA (by rfl) (.tmp 48) (.tmp 54) (by rfl) base _ o.length o (by rfl) (w:=World.drew w1) ho1 _ Aq q.length cq q (by rfl) hrq.drew hql hz1 ?_;intro o3 Ao3 co3 w3 e3 ho3 hb3 hg3 hw3 j3 j4;have hB:=(hb1.drew).grown hg3 hne;have c1:w3.cell? ⟨g,2,none⟩=some (.slice Ao o.length co):=(by rw [hB.cell];rfl);have fr1:=hB.free 2))
 all_goals
  go_wp2_with fail;go_end0;have hG2:w3.grownBy (w3.setCell ⟨g,2,none⟩ (.slice Ao3 o3.length co3)) (some g):=Z0 (gR _ _) _ _;refine ⟨rfl,o3,Ao3,co3,by unfold Hid;rw [e3.out,eq'.out],hB.set 2 _,Ze ho3 hB (by decide) hG2,(hbel1.trans ((bR base w1).drew.trans hb3)).setCell (p:=⟨g,2,none⟩) hg _,j3,j4,?_⟩;intro A n c xs hs1 hap;have hs2:=hseg1.out A n c xs hs1;exact ⟨Z0Z (hs2.drew.keepR hg3 hap) hB (by decide) hG2,hap.app hs2.drew (lR _) hw3.out⟩
end Go.Proofs.YtecpbcmpncgokaaGreat
namespace Go.Proofs.YtecpbcmpncgokaaGreat
open Go.RowKit Go.Dol
attribute [local irreducible] wpStill
def Zd8 (w:World) (base g:Nat) (vb:Value) (p o:LU) (size:Nat):Prop:=
 ∃(Ap Ao:OA) (cp co:Nat),Blk w g 333 [vb,.slice Ap p.length cp,.slice Ao o.length co,.int .i64 size,.int .i64 0]∧Seg w base 5 1 Ap p.length cp (bc p)∧
  w.ownsRow base 5 1 (.slice Ao o.length co) o.length (bc o)∧Apart Ap cp (.slice Ao o.length co)
def ZiU (base g:Nat) (vb:Value) (size:Nat) (r:Option (LU×LU)) (w:World) (e:Ending) (w':World):Prop:=
 e= .returned (.tuple #[])∧Below base w w'∧match r with | none=>Zbr w' g | some (o',p')=> ∃o1 p1,Hid (o1=o'∧p1=p')∧Zd8 w' base g vb p1 o1 size
theorem Z21 {w w':World} {row:Option Nat} (h:w.drew.grownBy w' row):w.grownBy w' row:=⟨h.os,h.tape,h.output,h.size,h.block⟩
theorem Z5n {g:Nat} {A:OA} {p:LU} {c:Nat} {vb vo vs:Value} {w:World} (hblk:Blk w g 333 [vb,.slice A p.length c,vo,vs,.int .i64 0]) (hr:Rd w w.heap.size 1 A p.length (bc p)) (hp:p.length≤140737488355328) (hc:p.length≤c) (ht:Z3 p=none):
  Calls Tryz.prog 288 #[.pointer (some ⟨g,0,none⟩)] w fun e w'=>e= .returned (.int .i64 0)∧Blk w' g 333 [vb,.slice none 0 0,vo,vs,.int .i64 2]∧w.grownBy w' (some g):=by
 have h:=Z9n g A p c vb vo vs w hblk hr hp hc;rw [ht] at h;exact h
def Zi3 (w:World) (g:Nat) (vb vo vs:Value) (n:Nat) (q:LU) (e:Ending) (w':World):Prop:=
 ∃(q':LU) (A:OA) (c:Nat),Hid (q'=q)∧e= .returned (.int .i64 (n:Nat))∧Blk w' g 333 [vb,.slice A q'.length c,vo,vs,.int .i64 0]∧
   w'.ownsRow w.heap.size 5 1 (.slice A q'.length c) q'.length (bc q')∧w.grownBy w' (some g)∧q'.length≤c∧c≤maxLen
theorem Z2f {g n:Nat} {A:OA} {p q:LU} {c:Nat} {vb vo vs:Value} {w:World} (hblk:Blk w g 333 [vb,.slice A p.length c,vo,vs,.int .i64 0]) (hr:Rd w w.heap.size 1 A p.length (bc p)) (hp:p.length≤140737488355328) (hc:p.length≤c) (ht:Z3 p=some (n,q)):
  Calls Tryz.prog 288 #[.pointer (some ⟨g,0,none⟩)] w (Zi3 w g vb vo vs n q):=by
 have h:=Z9n g A p c vb vo vs w hblk hr hp hc;rw [ht] at h;exact h
theorem Zbs (base g:Nat) (Ab:OA) (b:LU) (cb:Nat) (p o:LU) (size:Nat) (w:World) (h:Zd8 w base g (.slice Ab b.length cb) p o size) (hrb:Rd w base 1 Ab b.length (bc b)) (hb:b.length≤140737488355328) (hcb:b.length≤cb) (hcbm:cb≤maxLen)
  (hp:p.length≤140737488355328) (ho:o.length≤size) (hs:size≤70368744177664) (hg:base≤g):
  Calls Tryz.prog 289 #[.pointer (some ⟨g,0,none⟩)] w (ZiU base g (.slice Ab b.length cb) size (tokL b size o p) w):=by
 obtain ⟨r,hre⟩: ∃r,r=tokL b size o p:=⟨_,rfl⟩;rw [←hre];have HR:=qI hre;clear hre;obtain ⟨Ap,Ao,cp,co,hblk,hseg,hown,hap⟩:=h;have hpc:=hseg.2.1;have hgl:=hblk.lt;rcases ht:Z3 p with _ | ⟨t,q⟩
 ·have hn:Hid (r=none):=by unfold Hid;rw [HR.out,tokL,ht]
  have HT:=qI ht;clear ht;go_in;go_wp2_with fail;refine (Z5n hblk hseg.rd hp hpc HT.out).mono ?_;rintro e w1 ⟨rfl,hB1,hg1⟩;have k1:w1.cell? ⟨g,1,none⟩=some (.slice none 0 0):=by rw [hB1.cell];rfl
  have hand:bits .and .i64 0 1=0:=by decide
  go_wp2_with fail;refine (Zej g _ _ _ _ none 0 0 0 1 w1 hB1 ⟨_,_,_,rfl⟩).mono ?_;rintro e w2 ⟨rfl,⟨vb,vp,vo,vs,hB2,hv2⟩,hg2⟩;have k4:w2.cell? ⟨g,4,none⟩=some (.int .i64 2):=by rw [hB2.cell];rfl
  go_wp2_with fail;go_end0;rw [hn.out];exact ⟨rfl,Z2 (Za hg1 hg2) hg (by omega),⟨vb,vp,vo,vs,hB2,hv2⟩⟩
 ·have htm:t≤4611686018427387903:=(Zw ht).2
  have hql:q.length<p.length:=Zh ht;obtain ⟨y,hy⟩: ∃y,y=t/2:=⟨_,rfl⟩;have hyi:(t:Int)/2=(y:Int):=by omega
  have hyq:(t:Int).tdiv 2=(y:Int):=by rw [Int.tdiv_eq_ediv_of_nonneg (by omega)];exact hyi
  have hyb:y≤2305843009213693951:=by omega
  have HY:=qI hy;have f1:IntKind.i64.wrap ((y:Int)+1)=(y:Int)+1:=qJ _ (by omega);have hy1:Hid ((y:Int)+1=((y+1:Nat):Int)):=by unfold Hid;omega
  have hand:=Z6U t (by omega)
  by_cases hev:t%2=0
  ·have hrun:Hid (r=if y+1≤size-o.length∧y+1≤q.length then some (o++q.take (y+1),q.drop (y+1)) else none):=by
    unfold Hid;rw [HR.out,tokL,ht];simp only;rw [if_pos hev,←HY.out]
   rw [hev] at hand;have HT:=qI ht;clear ht hev hy;go_in;go_wp2_with fail;refine (Z2f hblk hseg.rd hp hpc HT.out).mono ?_;rintro e w1 ⟨q1,A1,c1,e1,rfl,hB1,ho1,hg1,i1,i2⟩;have hown1:=Ze hown hblk (by decide) hg1;have hap1:Apart A1 c1 (.slice Ao o.length co):=Apart.new hown (Seg.of_own ho1) (lR _);have hseg1:=(Seg.of_own ho1).lower (base':=base) (by omega);have hb1:Below base w w1:=Z2 hg1 hg (by omega);have hq1:q1.length<p.length:=by rw [e1.out];exact hql
   have k1:w1.cell? ⟨g,1,none⟩=some (.slice A1 q1.length c1):=by rw [hB1.cell];rfl
   rw [←e1.out] at hrun;clear ho1 hg1 hap hown hseg hblk
   by_cases hin:y+1≤size-o.length∧y+1≤q1.length
   ·rw [if_pos hin] at hrun
    have hx:=Z7s base g _ _ o Ao co size A1 q1 c1 0 (y+1) w1 hB1 hown1 hseg1.rd i1 i2 hg ho hs (by omega) (by omega) (by omega) hin.1;rw [←hy1.out] at hx;go_wp2_with fail;refine hx.mono ?_;clear hx;rintro e w2 ⟨rfl,o2,Ao2,co2,e2,hB2,ho2,hb2,j1,j2,hk2⟩;obtain ⟨hs2,hap2⟩:=hk2.out _ _ _ _ hseg1 hap1;have k4:w2.cell? ⟨g,4,none⟩=some (.int .i64 0):=by rw [hB2.cell];rfl
    have k1:w2.cell? ⟨g,1,none⟩=some (.slice A1 q1.length c1):=by rw [hB2.cell];rfl
    have z1:=hB2.free 1;obtain ⟨x,Ax,cx,ex,jx,jx',⟨rx,kx,kx'⟩,hcx,hsx,hsg,sx⟩:=Z0b (k:=y+1) ((y:Int)+1) hy1.out hs2.rd hin.2 i1 i2;have HSX:=qI hsx;clear hsx;go_wp2_with fail;go_end0;rw [hrun.out];have hG:w2.grownBy (w2.setCell ⟨g,1,none⟩ (.slice Ax x.length cx)) (some g):=Z0 (gR _ _) 1 _;refine ⟨rfl,(hb1.trans hb2).trans (Z2 hG hg (by have:=hB2.lt;omega)),o2,x,⟨by rw [e2.out,List.drop_zero],ex.out⟩,Ax,Ao2,cx,co2,hB2.set 1 _,Z0Z (hsg.out _ _ hs2) hB2 (by decide) hG,Ze ho2 hB2 (by decide) hG,hap2.piece (by omega) HSX.out⟩
   ·rw [if_neg hin] at hrun
    have hx:=Zaj g _ _ Ao o.length co size A1 q1.length c1 0 (y+1) w1 hB1 ⟨_,_,_,rfl⟩ ho (by omega) (by omega) (fun h=>hin ⟨h.2.2,by omega⟩);rw [←hy1.out] at hx;go_wp2_with fail;refine hx.mono ?_;clear hx;rintro e w2 ⟨rfl,⟨vb,vp,vo,vs,hB2,hv2⟩,hg2⟩;have k4:w2.cell? ⟨g,4,none⟩=some (.int .i64 2):=by rw [hB2.cell];rfl
    go_wp2_with fail;go_end0;rw [hrun.out];exact ⟨rfl,hb1.trans (Z2 hg2 hg (by have:=hb1.size;omega)),⟨vb,vp,vo,vs,hB2,hv2⟩⟩
  ·have hod:t%2=1:=by omega
   rw [hod] at hand;have k0: ∀w':World,∀vp vo vs ve,Blk w' g 333 [.slice Ab b.length cb,vp,vo,vs,ve]→w'.cell? ⟨g,0,none⟩=some (.slice Ab b.length cb):=fun w' vp vo vs ve h=>by rw [h.cell];rfl
   have K0:=qI k0;clear k0;rcases ht2:Z3 q with _ | ⟨d,q2⟩
   ·have hn:Hid (r=none):=by
     unfold Hid;rw [HR.out,tokL,ht];simp only;rw [if_neg hev,ht2]
    have HT:=qI ht;have HT2:=qI ht2;clear ht ht2 hev hy hod;go_in;go_wp2_with fail;refine (Z2f hblk hseg.rd hp hpc HT.out).mono ?_;rintro e w1 ⟨q1,A1,c1,e1,rfl,hB1,ho1,hg1,i1,i2⟩;have hb1:Below base w w1:=Z2 hg1 hg (by omega);have hq1:q1.length<p.length:=by rw [e1.out];exact hql
    have ht1:Hid (Z3 q1=none):=by rw [e1.out];exact HT2.out
    have k0:=K0.out w1 _ _ _ _ hB1;have hr1:=Rd.of_own ho1;clear ho1 hg1 hap hown hseg hblk;go_wp2_with fail
    go_region_with ((first
     | (go_at_call 288;refine (Z5n (A:=A1) (p:=q1) (c:=c1) (by first | exact hB1 | exact hB1.drew) (by first | exact hr1 | exact hr1.drew) (by omega) i1 ht1.out).mono ?_;rintro e w2 ⟨rfl,hB2,hg2⟩;have k0:=K0.out w2 _ _ _ _ hB2)
     | (go_at_call 301;refine (Zej g _ _ _ _ Ab b.length cb _ _ _ (by first | exact hB2 | exact hB2.drew) ⟨_,_,_,rfl⟩).mono ?_;rintro e w3 ⟨rfl,⟨vb,vp,vo,vs,hB3,hv3⟩,hg3⟩;have k4:w3.cell? ⟨g,4,none⟩=some (.int .i64 2):=(by rw [hB3.cell];rfl))))
    all_goals
     have hz1:=hB1.lt;have hz2:=hB2.lt;have hb3:Below base w w3:=hb1.trans ((Z2 (Z21 hg2) hg (by omega):Below base w1 w2).trans (Z2 hg3 hg (by omega)));go_wp2_with fail;refine bodyPost_ret (results_none (by rfl) _ _ _) rfl ?_;rw [hn.out]
     first
      | exact ⟨rfl,hb3,⟨vb,vp,vo,vs,hB3,hv3⟩⟩
      | exact ⟨rfl,hb3.drew,⟨vb,vp,vo,vs,hB3.drew,hv3⟩⟩
   ·have hdm:d≤4611686018427387903:=(Zw ht2).2
    have hq2l:q2.length<q.length:=Zh ht2;have hrun:Hid (r=if y+1≤size-o.length∧d+(y+1)≤b.length then some (o++(b.drop d).take (y+1),q2) else none):=by
     unfold Hid;rw [HR.out,tokL,ht];simp only;rw [if_neg hev,ht2,←HY.out]
    have HT:=qI ht;have HT2:=qI ht2;clear ht ht2 hev hy hod;go_in;go_wp2_with fail;refine (Z2f hblk hseg.rd hp hpc HT.out).mono ?_;rintro e w1 ⟨q1,A1,c1,e1,rfl,hB1,ho1,hg1,i1,i2⟩;have hown1:=Ze hown hblk (by decide) hg1;have hb1:Below base w w1:=Z2 hg1 hg (by omega);have hq1:q1.length<p.length:=by rw [e1.out];exact hql
    have ht1:Hid (Z3 q1=some (d,q2)):=by rw [e1.out];exact HT2.out
    have k0:=K0.out w1 _ _ _ _ hB1;have hr1:=Rd.of_own ho1;have hz1:=hB1.lt;have hbw1:base≤w1.heap.size:=by omega
    clear ho1 hg1 hap hown hseg hblk;go_wp2_with fail
    by_cases hin:y+1≤size-o.length∧d+(y+1)≤b.length
    ·rw [if_pos hin] at hrun
     have hx: ∀(A2:OA) (c2:Nat) (q3:LU) (w2 wx:World),Blk w2 g 333 [.slice Ab b.length cb,.slice A2 q3.length c2,.slice Ao o.length co,.int .i64 size,.int .i64 0]→w1.grownBy w2 (some g)→(wx=w2∨wx=w2.drew)→
       Calls Tryz.prog 301 #[.pointer (some ⟨g,0,none⟩),.slice Ab b.length cb,.int .i64 d,.int .i64 ((y:Int)+1)] wx (Zgf base g (.slice Ab b.length cb) (.slice A2 q3.length c2) size Ao o.length co (o++(b.drop d).take (y+1)) wx):=by
      intro A2 c2 q3 w2 wx hB2 hg2 hwx;rw [hy1.out];have hb2:Below base w1 w2:=Z2 hg2 hg hbw1;have hz2:=hB2.lt;have hr2:Rd w2 w2.heap.size 1 Ab b.length (bc b):=((hrb.below hb1).below hb2).more (by omega);have ho2:=Ze hown1 hB1 (by decide) hg2;rcases hwx with rfl | rfl
      ·exact Z7s base g _ _ o Ao co size Ab b cb d (y+1) wx hB2 ho2 hr2 hcb hcbm hg ho hs hb (by omega) (by omega) hin.1
      ·exact Z7s base g _ _ o Ao co size Ab b cb d (y+1) w2.drew hB2.drew ho2 hr2.drew hcb hcbm hg ho hs hb (by omega) (by omega) hin.1
     have HX:=qI hx;clear hx
     go_region_with ((first
      | (go_at_call 288;refine (Z2f (A:=A1) (p:=q1) (c:=c1) (by first | exact hB1 | exact hB1.drew) (by first | exact hr1 | exact hr1.drew) (by omega) i1 ht1.out).mono ?_;rintro e w2 ⟨q3,A2,c2,e2,rfl,hB2,ho2,hg2,i3,i4⟩;have k0:=K0.out w2 _ _ _ _ hB2)
      | (go_at_call 301;refine (HX.out A2 c2 q3 w2 _ hB2 (Z21 hg2) (by first | exact .inl rfl | exact .inr rfl)).mono ?_;rintro e w3 ⟨rfl,o3,Ao3,co3,e3,hB3,ho3,hb3,i5,i6,hk3⟩)))
     all_goals
      have hb2:Below base w w2:=hb1.trans (Z2 (Z21 hg2) hg hbw1);have hown1d:w1.drew.ownsRow base 5 1 (.slice Ao o.length co) o.length (bc o):=hown1;obtain ⟨hs3,hap3⟩:=hk3.out _ _ _ _ ((Seg.of_own ho2).lower (base':=base) hbw1) (Apart.new hown1d (Seg.of_own ho2) (lR _));go_wp2_with fail;refine bodyPost_ret (results_none (by rfl) _ _ _) rfl ?_;rw [hrun.out];exact ⟨rfl,hb2.trans hb3,o3,q3,⟨e3.out,e2.out⟩,A2,Ao3,c2,co3,hB3,hs3,ho3,hap3⟩
    ·rw [if_neg hin] at hrun
     have hx: ∀(A2:OA) (c2:Nat) (q3:LU) (w2 wx:World),Blk w2 g 333 [.slice Ab b.length cb,.slice A2 q3.length c2,.slice Ao o.length co,.int .i64 size,.int .i64 0]→(wx=w2∨wx=w2.drew)→
       Calls Tryz.prog 301 #[.pointer (some ⟨g,0,none⟩),.slice Ab b.length cb,.int .i64 d,.int .i64 ((y:Int)+1)] wx fun e w'=>e= .returned (.tuple #[])∧Zbr w' g∧wx.grownBy w' (some g):=by
      intro A2 c2 q3 w2 wx hB2 hwx;rw [hy1.out];rcases hwx with rfl | rfl
      ·exact Zaj g _ _ Ao o.length co size Ab b.length cb d (y+1) wx hB2 ⟨_,_,_,rfl⟩ ho (by omega) hb (fun h=>hin ⟨h.2.2,by omega⟩)
      ·exact Zaj g _ _ Ao o.length co size Ab b.length cb d (y+1) w2.drew hB2.drew ⟨_,_,_,rfl⟩ ho (by omega) hb (fun h=>hin ⟨h.2.2,by omega⟩)
     have HX:=qI hx;clear hx
     go_region_with ((first
      | (go_at_call 288;refine (Z2f (A:=A1) (p:=q1) (c:=c1) (by first | exact hB1 | exact hB1.drew) (by first | exact hr1 | exact hr1.drew) (by omega) i1 ht1.out).mono ?_;rintro e w2 ⟨q3,A2,c2,e2,rfl,hB2,ho2,hg2,i3,i4⟩;have k0:=K0.out w2 _ _ _ _ hB2)
      | (go_at_call 301;refine (HX.out A2 c2 q3 w2 _ hB2 (by first | exact .inl rfl | exact .inr rfl)).mono ?_;rintro e w3 ⟨rfl,⟨vb,vp,vo,vs,hB3,hv3⟩,hg3⟩)))
     all_goals
      have hz2:=hB2.lt;have hb3:Below base w w3:=hb1.trans ((Z2 (Z21 hg2) hg hbw1:Below base w1 w2).trans (Z2 hg3 hg (by omega)));go_wp2_with fail;refine bodyPost_ret (results_none (by rfl) _ _ _) rfl ?_;rw [hrun.out];exact ⟨rfl,hb3,⟨vb,vp,vo,vs,hB3,hv3⟩⟩
end Go.Proofs.YtecpbcmpncgokaaGreat
namespace Go.Proofs.YtecpbcmpncgokaaGreat
open Go.RowKit Go.Dol
attribute [local irreducible] wpStill
def Zbt (r:Option (LU)) (b:LU) (vb:Value) (size base g:Nat) (w:World) (k:Nat) (wr:World):Prop:=
 ((∃p o:LU,k=p.length+1∧Zd8 wr base g vb p o size∧o.length≤size∧size≤70368744177664∧p.length≤140737488355328∧Hid (r=dGo b size o p))∨(k=0∧Zbr wr g∧Hid (r=none)))∧Below base w wr
theorem Zf8 (Ab:OA) (b:LU) (cb:Nat) (A:OA) (l:LU) (c:Nat) (most:Int) (w:World) (hrb:Rd w w.heap.size 1 Ab b.length (bc b)) (hbl:b.length≤140737488355328) (hcb:b.length≤cb) (hcbm:cb≤maxLen)
  (hr:Rd w w.heap.size 1 A l.length (bc l)) (hl:l.length≤140737488355328) (hc:l.length≤c) (hm: ∀n q s r,Z3 l=some (n,q)→Z3 q=some (s,r)→(s:Int)≤most→s≤70368744177664):
  Calls Tryz.prog 273 #[.slice Ab b.length cb,.slice A l.length c,.int .i64 most] w (RetOpenN w (Z1T b l most)):=by
 obtain ⟨r,hre⟩: ∃r,r=Z1T b l most:=⟨_,rfl⟩;rw [←hre];have HR:=qI hre;clear hre;have hblk0:=Blk.new w 333 [.slice Ab b.length cb,.slice A l.length c,.slice none 0 0,.int .i64 0,.int .i64 0];have hb0:Below w.heap.size w (w.alloc (.cells #[.slice Ab b.length cb,.slice A l.length c,.slice none 0 0,.int .i64 0,.int .i64 0] 333)):=(bR _ _).alloc (lR _) _;have hr0:=hr.aliveD hb0;go_in;go_wp2_with fail;obtain ⟨g,hg⟩: ∃g,g=w.heap.size:=⟨_,rfl⟩;obtain ⟨w0,hw0⟩: ∃w0,w0=w.alloc (.cells #[.slice Ab b.length cb,.slice A l.length c,.slice none 0 0,.int .i64 0,.int .i64 0] 333):=⟨_,rfl⟩;change Blk (w.alloc (.cells #[.slice Ab b.length cb,.slice A l.length c,.slice none 0 0,.int .i64 0,.int .i64 0] 333)) _ _ _ at hblk0;rw [←hw0] at hblk0 hr0 hb0 ⊢;rw [←hg] at hblk0 hb0 hrb ⊢;have HG:=qI hg;clear hw0 hg hr;rcases ht:Z3 l with _ | ⟨n,q⟩
 ·have hn:Hid (r=none):=by unfold Hid;rw [HR.out,Z1T,ht]
  have HT:=qI ht;clear ht;refine (Z5n hblk0 hr0 hl hc HT.out).mono ?_;rintro e w1 ⟨rfl,hB1,hg1⟩;go_wp2_with fail;refine (Zi2 g _ _ _ w1 hB1).mono ?_;rintro e w2 ⟨rfl,hB2,hg2⟩;have k3:w2.cell? ⟨g,3,none⟩=some (.int .i64 0):=by rw [hB2.cell];rfl
  have z3:=hB2.free 3;have hB3:=hB2.set 3 (.int .i64 0);have k4:(w2.setCell ⟨g,3,none⟩ (.int .i64 0)).cell? ⟨g,4,none⟩=some (.int .i64 2):=by rw [hB3.cell];rfl
  go_wp2_with fail;go_ret2;rw [hn.out];exact ⟨rfl,by rw [←HG.out];exact hb0.trans (Z2 (Za hg1 (Z0 hg2 3 _)) (lR _) (Nat.le_of_lt hblk0.lt))⟩
 ·have hql:=Zh ht
  have hnm:n≤4611686018427387903:=(Zw ht).2;have HT:=qI ht;refine (Z2f hblk0 hr0 hl hc ht).mono ?_;rintro e w1 ⟨q1,A1,c1,e1,rfl,hB1,ho1,hg1,i1,i2⟩;have hb1:Below g w w1:=hb0.trans (Z2 hg1 (lR _) (Nat.le_of_lt hblk0.lt));have hq1:q1.length<l.length:=by rw [e1.out];exact hql
  clear ht hr0;rcases ht2:Z3 q1 with _ | ⟨size,q2⟩
  ·have hn:Hid (r=none):=by
    unfold Hid;rw [HR.out,Z1T,HT.out];simp only;rw [←e1.out,ht2];split<;>rfl
   have HT2:=qI ht2;clear ht2;go_wp2_with fail;refine (Z5n hB1 (Rd.of_own ho1) (by omega) i1 HT2.out).mono ?_;rintro e w2 ⟨rfl,hB2,hg2⟩;have k3:w2.cell? ⟨g,3,none⟩=some (.int .i64 0):=by rw [hB2.cell];rfl
   have z3:=hB2.free 3;have hB3:=hB2.set 3 (.int .i64 0);have k4:(w2.setCell ⟨g,3,none⟩ (.int .i64 0)).cell? ⟨g,4,none⟩=some (.int .i64 2):=by rw [hB3.cell];rfl
   go_wp2_with fail;go_ret2;rw [hn.out];exact ⟨rfl,by rw [←HG.out];exact hb1.trans (Z2 (Z0 hg2 3 _) (lR _) (Nat.le_of_lt hB1.lt))⟩
  have hsm:size≤4611686018427387903:=(Zw ht2).2;have hq2l:=Zh ht2;have HSZ:Hid ((size:Int)≤most→size≤70368744177664):=hm n q size q2 HT.out (by rw [←e1.out];exact ht2);have hrun:Hid (r=if n=b.length then (if (size:Int)≤most then dGo b size [] q2 else none) else none):=by
   unfold Hid;rw [HR.out,Z1T,HT.out];simp only;rw [←e1.out,ht2]
  have HT2:=qI ht2;clear ht2 hm;go_wp2_with fail;refine (Z2f hB1 (Rd.of_own ho1) (by omega) i1 HT2.out).mono ?_;rintro e w2 ⟨q3,A3,c3,e3,rfl,hB2,ho3,hg2,i3,i4⟩;have hq3:q3.length<q1.length:=by rw [e3.out];exact hq2l
  rw [←e3.out] at hrun;have k3:w2.cell? ⟨g,3,none⟩=some (.int .i64 0):=by rw [hB2.cell];rfl
  have z3:=hB2.free 3;have hB3:=hB2.set 3 (.int .i64 size);have hG3:w2.grownBy (w2.setCell ⟨g,3,none⟩ (.int .i64 size)) (some g):=Z0 (gR _ _) 3 _;have hz1:=hB1.lt;have hb3:Below g w (w2.setCell ⟨g,3,none⟩ (.int .i64 size)):=hb1.trans (Z2 (Za hg2 hG3) (lR _) (Nat.le_of_lt hz1));have ho4:=Z1k ho3 hG3 hz1;have hs4:=(Seg.of_own ho4).lower (base':=g) (Nat.le_of_lt hz1);have k4:(w2.setCell ⟨g,3,none⟩ (.int .i64 size)).cell? ⟨g,4,none⟩=some (.int .i64 0):=by rw [hB3.cell];rfl
  have k3':(w2.setCell ⟨g,3,none⟩ (.int .i64 size)).cell? ⟨g,3,none⟩=some (.int .i64 size):=by rw [hB3.cell];rfl
  by_cases hnb:n=b.length
  ·have hnz:((n:Int)!=(b.length:Int))=false:=by simp;omega
   rw [if_pos hnb] at hrun;have HNB:=qI hnb;clear hnb
   by_cases hbig:(size:Int)≤most
   ·rw [if_pos hbig] at hrun
    have d1:decide (most<(size:Int))=false:=by simp;omega
    have d1': ¬most<(size:Int):=by omega
    have hsz:=HSZ.out hbig;have hinv:Zbt r b (.slice Ab b.length cb) size g g w (q3.length+1) (w2.setCell ⟨g,3,none⟩ (.int .i64 size)):=
     ⟨.inl ⟨q3,[],rfl,⟨A3,none,c3,0,hB3,hs4,⟨by simp [bc],.inl ⟨rfl,rfl⟩⟩,Apart.nil _ _⟩,zL _,hsz,by omega,hrun⟩,hb3⟩
    have HI:=qI hinv;clear hinv hB3 hs4 ho4 ho3 hB2 hB1 hg2 hg1 hb1 hG3 hblk0 hb0 ho1 hrun;go_wp2_with fail;go_loopg [] (q3.length+1) (fun k wr=>Zbt r b (.slice Ab b.length cb) size g g w k wr)
    case atStart=>exact HI.out
    case round=>
     clear HI hb3 k4 k3';obtain ⟨hst,hbel⟩:=hrel;have hs:=hbel.size;rcases hst with ⟨p,o,rfl,hst,hos,hsm,hpl,hgo⟩ | ⟨rfl,hst,hnone⟩
     ·have hst0:=qI hst
      obtain ⟨Ap,Ao,cp,co,hblk,hseg,hown,hap⟩:=hst;have c1:wr.cell? ⟨g,1,none⟩=some (.slice Ap p.length cp):=by rw [hblk.cell];rfl
      have c2:wr.cell? ⟨g,2,none⟩=some (.slice Ao o.length co):=by rw [hblk.cell];rfl
      have c3:wr.cell? ⟨g,3,none⟩=some (.int .i64 size):=by rw [hblk.cell];rfl
      have c4:wr.cell? ⟨g,4,none⟩=some (.int .i64 0):=by rw [hblk.cell];rfl
      by_cases hp0:p.length=0
      ·have hpe:p=[]:=nZ hp0
       have hpi: ¬((0:Int)<(p.length:Int)):=by omega
       have hpd:decide (0<p.length)=false:=by simp;omega
       have hpd2:decide ((0:Int)<(p.length:Int))=false:=by simp;omega
       have hol:=Z5i hown
       by_cases hfin:o.length=size
       ·have hq:Hid (r=some o):=by unfold Hid;rw [hgo.out,hpe,Zae,if_pos hfin]
        have HF:=qI hfin;have hne:((o.length:Int)!=(size:Int))=false:=by simp;omega
        clear hpe hfin hp0;go_wp2_with fail;go_quiet (fail);go_wp2_with fail;go_ret2;rw [hq.out];exact ⟨o,Ao,co,rfl,rfl,by rw [←HG.out];exact hown,by rw [←HG.out];exact hbel.drewN' nq,hol.1,hol.2⟩
       ·have hq:Hid (r=none):=by unfold Hid;rw [hgo.out,hpe,Zae,if_neg hfin]
        have HF:=qI hfin;have hne:((o.length:Int)!=(size:Int))=true:=by simp;omega
        clear hpe hfin hp0;go_wp2_with fail;go_quiet (fail);go_wp2_with fail;go_ret2;rw [hq.out];exact ⟨rfl,by rw [←HG.out];exact hbel.drewN' nq⟩
      ·have hpi:(0:Int)<(p.length:Int):=by omega
       have hpd:decide (0<p.length)=true:=by simp;omega
       have hpne:Hid (p≠[]):=fun h=>by rw [h] at hp0;simp at hp0
       have hrb':Rd wr g 1 Ab b.length (bc b):=hrb.below hbel;clear hblk hseg hown hap;go_wp2_with fail;refine (Zbs g g Ab b cb p o size wr hst0.out hrb' hbl hcb hcbm hpl hos hsm (lR _)).mono ?_;intro e w5 htok;rcases htk:tokL b size o p with _ | ⟨o',p'⟩
       ·rw [htk] at htok
        obtain ⟨rfl,hb5,hbad⟩:=htok;have hq:Hid (r=none):=by unfold Hid;rw [hgo.out,Zgd hpne.out htk]
        clear htk;go_wp2_with fail;go_roundg 0
        case measure=>omega
        case rel=>exact ⟨.inr ⟨rfl,hbad,hq⟩,hbel.trans hb5⟩
       ·rw [htk] at htok
        obtain ⟨rfl,hb5,o1,p1,he1,hgood⟩:=htok;obtain ⟨rfl,rfl⟩:=he1.out;obtain ⟨t1,t2,t3⟩:=Zge htk;have hq:Hid (r=dGo b size o1 p1):=by unfold Hid;rw [hgo.out,t1]
        clear htk t1 he1;go_wp2_with fail;go_roundg (p1.length+1)
        case measure=>omega
        case rel=>exact ⟨.inl ⟨p1,o1,rfl,hgood,t2,hsm,by omega,hq⟩,hbel.trans hb5⟩
     ·obtain ⟨vb,vp,vo,vs,hblk,Ap,np,cp,rfl⟩:=hst
      have c1:wr.cell? ⟨g,1,none⟩=some (.slice Ap np cp):=by rw [hblk.cell];rfl
      have c4:wr.cell? ⟨g,4,none⟩=some (.int .i64 2):=by rw [hblk.cell];rfl
      by_cases hnp:0<np
      ·have hpi:(0:Int)<(np:Int):=by omega
       have hpd:decide (0<np)=true:=by simp;omega
       go_wp2_with fail;go_quiet (fail);go_wp2_with fail;go_ret2;rw [hnone.out];exact ⟨rfl,by rw [←HG.out];exact hbel.drewN' nq⟩
      ·have hpi: ¬((0:Int)<(np:Int)):=by omega
       have hpd:decide (0<np)=false:=by simp;omega
       go_wp2_with fail;go_quiet (fail);go_wp2_with fail;go_ret2;rw [hnone.out];exact ⟨rfl,by rw [←HG.out];exact hbel.drewN' nq⟩
   ·rw [if_neg hbig] at hrun
    have d1:decide (most<(size:Int))=true:=by simp;omega
    have d1':most<(size:Int):=by omega
    go_wp2_with fail;go_ret2;rw [hrun.out];exact ⟨rfl,by rw [←HG.out];exact hb3⟩
  ·have hnz:((n:Int)!=(b.length:Int))=true:=by simp;omega
   rw [if_neg hnb] at hrun;go_wp2_with fail;go_ret2;rw [hrun.out];exact ⟨rfl,by rw [←HG.out];exact hb3⟩
end Go.Proofs.YtecpbcmpncgokaaGreat
