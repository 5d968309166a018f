/- The walks of bytes.Equal, HasPrefix and CutPrefix. Conditions: bytes of at most 2^47. The walks of the layer 'loose': an object is kept; it is dropped. Conditions: a disk in good order, with room for one file more; an id of at most 2^46 bytes. sync.Once in one run: its lock taken and let go, its word set; the function that is handed to it called once. Conditions: the lock is free. The walk of a pack's Ids. Conditions: at most 4096 parts. The layer 'store': how a store lies in memory; the walks of made, called, Get, Has. Conditions: a disk in good order; ids of at most 2^46 bytes. -/
import Derived.Test.YtecpbcmpncgokaaGreatWordsA
import Derived.Test.YtecpbcmpncgokaaGreatObjA
import Derived.Deep.DeepCutAuto
import Derived.Lib.SlBytesConst
import Derived.Test.YtecpbcmpncgokaaGreatShort
import Derived.Test.YtecpbcmpncgokaaGreatLoo2
import Derived.Test.YtecpbcmpncgokaaGreatSafeB
import Derived.Test.YtecpbcmpncgokaaGreatPressB
import Derived.Tactics
import Derived.Tactics2
import Derived.Defers
import Derived.Laws.Pointers
import Derived.Laws.LoneSync
import Derived.RegionTactic
import Derived.RegionCalls
import Derived.ChangeAlike
import Derived.Test.YtecpbcmpncgokaaGreatStoSpec
import Derived.Test.YtecpbcmpncgokaaGreatIter
import Derived.Deep.RegionWith
import Derived.Deep.RegionHeld3
set_option maxRecDepth 100000
set_option maxHeartbeats 800000
set_option linter.unusedVariables false
namespace Go.Proofs.YtecpbcmpncgokaaGreat
open Go.RowKit Go.Dol
def mgL:LU:=[68,80,75,49]
theorem Z7n (W:World):(convert 36 36 (.slice (some ⟨W.heap.size,0,none⟩) 4 4)).run Tryz.prog (W.alloc (.cells #[.int .u8 68,.int .u8 80,.int .u8 75,.int .u8 49] 5))= .ok (.slice (some ⟨W.heap.size,0,none⟩) 4 4) (W.alloc (.cells #[.int .u8 68,.int .u8 80,.int .u8 75,.int .u8 49] 5 (4,5))):=Lib.run_convert_bytes_const (P:=Tryz.prog) W 36 5 #[.int .u8 68,.int .u8 80,.int .u8 75,.int .u8 49] 4 4 Tryz.underlying36 Tryz.underlying5
theorem Zbl (W:World):Rd (W.alloc (.cells #[.int .u8 68,.int .u8 80,.int .u8 75,.int .u8 49] 5 (4,5))) (W.heap.size+1) 1 (some ⟨W.heap.size,0,none⟩) 4 (bc mgL):=by
 refine ⟨rfl,fun _=>⟨W.heap.size,0,rfl,by omega,fun j u hu=> ?_⟩⟩;rw [Nat.zero_add];have h:=cell_of_row (W.alloc (.cells #[.int .u8 68,.int .u8 80,.int .u8 75,.int .u8 49] 5 (4,5))) W.heap.size j #[.int .u8 68,.int .u8 80,.int .u8 75,.int .u8 49] 5 (4,5) (heap_alloc_new W _);rw [h];rw [←hu];simp [bc,mgL]
theorem ZhZ (a b:LU):((⟨a.toArray⟩:BA).toList==(⟨b.toArray⟩:BA).toList)=decide (a=b):=by
 by_cases h:a=b
 ·subst h;simp
 ·rw [qF h]
  refine beq_eq_false_iff_ne.2 fun e=>h ?_;have:=Z4r e;simpa using this
theorem Z1t (A:OA) (a:LU) (n c:Nat) (A2:OA) (b:LU) (n2 c2:Nat) (w:World) (B B2:Nat) (hr:Rd w B 1 A n (bc a)) (hr2:Rd w B2 1 A2 n2 (bc b)):
  Calls Tryz.prog 98 #[.slice A n c,.slice A2 n2 c2] w fun e w'=>e= .returned (.bool (decide (a=b)))∧w'=w:=by
 have h1:=Z0Q (c:=c) hr;have h2:=Z0Q (c:=c2) hr2;have h3:=ZhZ a b;have hd:(a==b)=decide (a=b):=by by_cases h:a=b<;>simp [h]
 go_in;go_wp2_with fail;go_ret;exact ⟨rfl,rfl⟩
theorem Z6Z (A:OA) (a:LU) (c:Nat) (A2:OA) (b:LU) (c2:Nat) (w:World) (B B2:Nat) (hr:Rd w B 1 A a.length (bc a)) (hr2:Rd w B2 1 A2 b.length (bc b)) (hc:a.length≤c) (hcm:c≤maxLen):
  Calls Tryz.prog 254 #[.slice A a.length c,.slice A2 b.length c2] w fun e w'=>e= .returned (.bool (decide (a.take b.length=b)))∧w'=w:=by
 by_cases h:b.length≤a.length
 ·have d1:decide ((b.length:Int)≤(a.length:Int))=true:=dT (by omega)
  obtain ⟨m,hm,hm1,hm2,hmp,_,hsl⟩:=Zd1 (k:=b.length) (b.length:Int) rfl hr h hc hcm;have he:=qI (Z1t A m m.length c A2 b b.length c2 w _ _ hmp.1 hr2);rw [hm.out] at he;go_in;go_wp2_with (go_at_call 98;rw [←hm.out] at he;refine he.out.mono ?_;rintro e w' ⟨rfl,hw⟩;obtain rfl:=hw.symm);go_ret;rw [hm.out];exact ⟨rfl,rfl⟩
 ·have d1:decide ((b.length:Int)≤(a.length:Int))=false:=qF (by omega)
  have hn:decide (a.take b.length=b)=false:=qF fun e=>h (by have:=congrArg List.length e;rw [List.length_take] at this;omega);rw [hn];go_in;go_wp2_with fail;go_ret;exact ⟨rfl,rfl⟩
def Z7o (w:World) (B:Nat) (A:OA) (a:LU) (c:Nat) (b:LU) (e:Ending) (w':World):Prop:=
 if a.take b.length=b then ∃(m:LU) (A':OA) (c':Nat),Hid (m=a.drop b.length)∧e= .returned (.tuple #[.slice A' m.length c',.bool true])∧Za6 w B m A' c'∧w'=w
 else e= .returned (.tuple #[.slice A a.length c,.bool false])∧w'=w
theorem Z70 (A:OA) (a:LU) (c:Nat) (A2:OA) (b:LU) (c2:Nat) (w:World) (B B2:Nat) (hr:Rd w B 1 A a.length (bc a)) (hr2:Rd w B2 1 A2 b.length (bc b)) (hc:a.length≤c) (hcm:c≤maxLen):
  Calls Tryz.prog 208 #[.slice A a.length c,.slice A2 b.length c2] w (Z7o w B A a c b):=by
 have hp:=Z6Z A a c A2 b c2 w B B2 hr hr2 hc hcm
 by_cases h:a.take b.length=b
 ·rw [dT h] at hp
  have HP:=qI hp;clear hp;have hl:b.length≤a.length:=by have:=congrArg List.length h;rw [List.length_take] at this;omega
  obtain ⟨m,A',c',hm,hm1,hm2,hmp,_,_,_,hsl⟩:=Z0b (k:=b.length) (b.length:Int) rfl hr hl hc hcm;have HI:Hid (a.take b.length=b):=h;have HM:=qI hmp;clear h hmp;go_in;go_wp2_with (go_at_call 254;refine HP.out.mono ?_;rintro e w' ⟨rfl,hw⟩;obtain rfl:=hw.symm);go_ret2;unfold Z7o;rw [if_pos HI.out];exact ⟨m,A',c',hm,rfl,HM.out,rfl⟩
 ·rw [qF h] at hp
  have HP:=qI hp;have HI:Hid (¬a.take b.length=b):=h;clear hp h;go_in;go_wp2_with (go_at_call 254;refine HP.out.mono ?_;rintro e w' ⟨rfl,hw⟩;obtain rfl:=hw.symm);go_ret2;unfold Z7o;rw [if_neg HI.out];exact ⟨rfl,rfl⟩
end Go.Proofs.YtecpbcmpncgokaaGreat
set_option maxRecDepth 100000
set_option maxHeartbeats 3200000
set_option linter.unusedVariables false
namespace Go.Proofs.YtecpbcmpncgokaaGreat
open Go.RowKit Go.Dol
def putR (r:Except Int BA):Value:=match r with
 | .ok id=> .tuple #[.string id,.int .i64 0]
 | .error k=> .tuple #[.string ⟨#[]⟩,.int .i64 k]
def RetPut (w:World) (g m:Nat) (r:Except Int BA×Dk) (e:Ending) (w':World):Prop:=e= .returned (putR r.1)∧Dsk w' g m r.2∧Tw w w' g m
theorem RetPut.ok {w w':World} {g m:Nat} {id:BA} {D:Dk} {e:Ending} (h:RetPut w g m (.ok id,D) e w'):e= .returned (.tuple #[.string id,.int .i64 0])∧Dsk w' g m D∧Tw w w' g m:=h
theorem RetPut.err {w w':World} {g m:Nat} {k:Int} {D:Dk} {e:Ending} (h:RetPut w g m (.error k,D) e w'):e= .returned (.tuple #[.string ⟨#[]⟩,.int .i64 k])∧Dsk w' g m D∧Tw w w' g m:=h
section
variable {w:World} {g m:Nat} {D:Dk}
theorem ZbH (h:Dsk w g m D) (hK:OkW D) (id:BA) (hid:id.size≤70368744177600):
  Calls Tryz.prog 47 #[.pointer (some ⟨g,0,none⟩),.string id] w (Z0D w g m (dropO D id)):=by
 obtain ⟨r,hr⟩: ∃r,r=dropO D id:=⟨_,rfl⟩;rw [←hr];have HR:=qI hr;clear hr;have HRi:=qI (Z3I h hK id);go_in;go_wp2_with fail;refine HRi.out.mono ?_
 by_cases hs:id.size=32
 ·have h32:=qI hs
  obtain ⟨hnB,_,_,_⟩:=Z2x hs;have hsz:(Zc id).size≤maxLen:=by rw [Z2j,hs];decide
  clear hs;rw [dT h32.out];rintro e w1 ⟨rfl,hb1⟩;have h1:=h.below hb1;have HN:=qI (Z3b id w1 hid);go_wp2_with fail;refine HN.out.mono ?_;rintro e w2 ⟨rfl,hb2⟩;have h2:=h1.below hb2;have hb02:=hb1.next hb2;have HH:=qI (Z0n h2 hK.ord (Zc id) hsz);go_wp2_with fail;refine HH.out.mono ?_
  cases hl:(Z1 D.l (Zc id)).isSome with
  | false=>
   have hr:Hid (r=(6,D)):=by
    unfold Hid;rw [HR.out];unfold dropO;rw [if_neg (by rw [h32.out];simp),if_neg (by rw [hl];decide)]
   rintro e w3 ⟨rfl,hw3⟩;obtain rfl:=hw3.symm;clear hl;go_wp2_with fail;go_ret;rw [hr.out];exact ⟨rfl,h2,Tw.below hb02⟩
  | true=>
   have hr:Hid (r=remD D (Zc id)):=by
    unfold Hid;rw [HR.out];unfold dropO;rw [if_neg (by rw [h32.out];simp),if_pos hl]
   rintro e w3 ⟨rfl,hw3⟩;obtain rfl:=hw3.symm;clear hl;have HN2:=qI (Z3b id w2 hid);go_wp2_with fail;refine HN2.out.mono ?_;rintro e w4 ⟨rfl,hb4⟩;have h4:=h2.below hb4;have HRm:=qI (Z1m h4 hK (Zc id) hsz);go_wp2_with fail;refine HRm.out.mono ?_;rintro e w5 ⟨rfl,h5,ht5⟩;go_wp2_with fail;go_ret;rw [hr.out];exact ⟨rfl,h5,(Tw.below (hb02.next hb4)).step ht5⟩
 ·have h32:=qI hs
  have hr:Hid (r=(1,D)):=by
   unfold Hid;rw [HR.out];unfold dropO;rw [if_pos hs]
  clear hs;rw [qF h32.out];rintro e w1 ⟨rfl,hb1⟩;have h1:=h.below hb1;go_wp2_with fail;go_ret;rw [hr.out];exact ⟨rfl,h1,Tw.below hb1⟩
theorem ZbI (ge:BA→BA→Bool) (D:Dk) (raw:LU) (h:Zd ge raw=false):putO ge D raw=(.error 1,D):=if_pos h
theorem Zep {ge:BA→BA→Bool} {D:Dk} {raw:LU} (h:Zd ge raw=true):putO ge D raw=match getO ge D (idO raw) with
 | .ok b=>if b=raw then (.ok (idO raw),D) else (.error 7,D)
 | .error k=>if k=2 then (.error 2,D) else
  if (ZR D (Zc (idO raw)) (Zt raw)).1≠0 then (.error (ZR D (Zc (idO raw)) (Zt raw)).1,(ZR D (Zc (idO raw)) (Zt raw)).2) else (.ok (idO raw),(ZR D (Zc (idO raw)) (Zt raw)).2):=by
 unfold putO;rw [if_neg (by rw [h];decide)]
 rfl
theorem ZbJ {ge:BA→BA→Bool} {D:Dk} {id:BA} (h:id.size=32) {k:Int} (e:getO ge D id= .error k):k=2∨k=6:=by
 unfold getO at e;rw [if_neg (by rw [h];simp)] at e;split at e
 ·injection e with e;exact .inr e.symm
 ·split at e
  ·injection e with e;exact .inl e.symm
  ·split at e
   ·cases e
   ·injection e with e;exact .inl e.symm
theorem Zdn (h:Dsk w g m D) (hK:OkW D) (hsl:D.l.length+1≤3518437208880) (A:OA) (raw:LU) (c:Nat) (hr:Rd w w.heap.size 1 A raw.length (bc raw)) (hc:raw.length≤c) (hcm:c≤maxLen) (hl:raw.length≤140737488351232):
  Calls Tryz.prog 39 #[.pointer (some ⟨g,0,none⟩),.slice A raw.length c] w (RetPut w g m (putO geS D raw)):=by
 obtain ⟨r,hre⟩: ∃r,r=putO geS D raw:=⟨_,rfl⟩;rw [←hre];have HR:=qI hre;clear hre;have HS:=qI (Z2i A raw c w hr (by omega));go_in;go_wp2_with fail;refine HS.out.mono ?_;rintro e w1 ⟨rfl,hb1⟩;have h1:=h.below hb1;have hr1:Rd w1 w1.heap.size 1 A raw.length (bc raw):=(hr.below hb1).more hb1.size;obtain ⟨id,hid⟩: ∃id:BA,id=idO raw:=⟨_,rfl⟩;have hidO:=qI hid;have h32:id.size=32:=by rw [hid];exact ZM raw
 rw [←hid];clear hid HS;have hD:=Z24 A raw c w1 hr1 hc hcm hl
 cases hdec:decO geS raw with
 | none=>
  rw [hdec] at hD;have HD:=qI hD;have hr2:Hid (r=(.error 1,D)):=by
   unfold Hid;rw [HR.out];exact ZbI _ _ _ (by unfold Zd;rw [hdec];rfl)
  clear hD hdec;go_wp2_with fail;refine HD.out.mono ?_;rintro e w2 ⟨rfl,hb2⟩;have hb02:=hb1.next hb2;go_wp2_with fail;go_ret2;rw [hr2.out];exact ⟨rfl,h.below (hb02.alloc hb02.size _),Tw.below (hb02.alloc hb02.size _)⟩
 | some o=>
  rw [hdec] at hD;have HD:=qI hD;have hobj:Zd geS raw=true:=by unfold Zd;rw [hdec];rfl
  have hfew:=Z17 raw hobj;have hr2:=qI (HR.out.trans (Zep hobj));have HO:=qI hobj;clear hD hdec hobj;go_wp2_with fail;refine HD.out.mono ?_;rintro e w2 ⟨k,Ad,d,cd,Ae,en,ce,tr,Ap,pa,cp,ta,na,wh,st,te,ho,rfl,_,_,_,hb2,_,_,_⟩;clear ho;have hb02:=hb1.next hb2;have hb02:=hb02.alloc hb02.size (.cells #[.int .i64 k,.slice Ad d.length cd,.slice Ae en.length ce,.string tr,.slice Ap pa.length cp,.string ta,.string na,.string wh,.int .i64 st,.string te] 40);have h2:=h.below hb02;have HRi:=qI (Z3I h2 hK id);go_wp2_with fail;refine HRi.out.mono ?_;rw [dT h32];rintro e w3 ⟨rfl,hb3⟩;have h3:=h2.below hb3;have hb03:=hb02.next hb3;have HG:=qI (Z7E h3 hK id (by omega));go_wp2_with fail;refine HG.out.mono ?_;obtain ⟨q,hq⟩: ∃q,q=getO geS D id:=⟨_,rfl⟩;rw [←hq];rw [←hidO.out,←hq] at hr2;rintro e w4 ⟨hb4,hm⟩;have h4:=h3.below hb4;have hb04:=hb03.next hb4;have hr4:Rd w4 w4.heap.size 1 A raw.length (bc raw):=(hr.below hb04).more hb04.size
  cases q with
  | ok b=>
   obtain ⟨b',Ab,cb,hbb,rfl,hob,hbc,hbcm⟩:=hm;have HE:=qI (Z1t Ab b' b'.length cb A raw raw.length c w4 _ _ (Rd.of_own hob) hr4);have hr3:Hid (r=if b'=raw then (.ok id,D) else (.error 7,D)):=by
    unfold Hid;rw [hr2.out];simp only;rw [hbb.out]
   clear hbb hq;go_wp2_with fail;refine HE.out.mono ?_
   by_cases hb:b'=raw
   ·have hr4:Hid (r=(.ok id,D)):=by unfold Hid;rw [hr3.out,if_pos hb]
    rw [dT hb];rintro e w5 ⟨rfl,hw5⟩;obtain rfl:=hw5.symm;clear hb;go_wp2_with fail;go_ret2;rw [hr4.out];exact ⟨rfl,h4,Tw.below hb04⟩
   ·have hr4:Hid (r=(.error 7,D)):=by unfold Hid;rw [hr3.out,if_neg hb]
    rw [qF hb];rintro e w5 ⟨rfl,hw5⟩;obtain rfl:=hw5.symm;clear hb;go_wp2_with fail;go_ret2;rw [hr4.out];exact ⟨rfl,h4,Tw.below hb04⟩
  | error k0=>
   obtain rfl:=hm;rcases ZbJ h32 hq.symm with rfl | rfl
   ·have hr3:Hid (r=(.error 2,D)):=by
     unfold Hid;rw [hr2.out]
     rfl
    clear hq;go_wp2_with fail;go_ret2;rw [hr3.out];exact ⟨rfl,h4,Tw.below hb04⟩
   ·have HN:=qI (Z3b id w4 (by omega))
    clear hq;go_wp2_with fail;refine HN.out.mono ?_;rintro e w5 ⟨rfl,hb5⟩;have h5:=h4.below hb5;have hb05:=hb04.next hb5;have hr5:Rd w5 w5.heap.size 1 A raw.length (bc raw):=(hr.below hb05).more hb05.size;have HP:=qI (Z9R A raw c w5 hr5 (by omega) hc);go_wp2_with fail;refine HP.out.mono ?_;rintro e w6 ⟨b6,A6,c6,hb6e,rfl,ho6,hb6,hc6,hcm6⟩;have h6:=h5.below hb6;have hb06:=hb05.next hb6;have hpl:b6.length≤2621449:=by rw [hb6e.out];exact Z4p HO.out
    have hF:Far w6 0 A6 b6:=Far.of_seg (Seg.of_own ho6);have hns:(Zc id).size=66:=by rw [Z2j,h32]
    have HSv:=Z6I h6 hK (Zc id) (by omega) A6 b6 c6 (by omega) hsl (by omega) 0 hF hc6 hcm6 (zL _) (zL _) (zL _);rw [hb6e.out,hidO.out] at HSv;obtain ⟨s,hs⟩: ∃s,s=ZR D (Zc (idO raw)) (Zt raw):=⟨_,rfl⟩;have hr3:Hid (r=if s.1≠0 then (.error s.1,s.2) else (.ok id,s.2)):=by
     unfold Hid;rw [hr2.out,hidO.out,hs]
     rfl
    rw [←hs,←hidO.out,←hb6e.out] at HSv;have HSV:=qI HSv;clear HSv hs hb6e;go_wp2_with fail;refine HSV.out.mono ?_;rintro e w7 ⟨rfl,h7,ht7⟩;obtain ⟨s1,s2⟩:=s
    by_cases hs0:s1=0
    ·have hr4:Hid (r=(.ok id,s2)):=by unfold Hid;rw [hr3.out,if_neg (by simpa using hs0)]
     subst hs0;go_wp2_with fail;go_ret2;rw [hr4.out];exact ⟨rfl,h7,(Tw.below hb06).step ht7⟩
    ·have hr4:Hid (r=(.error s1,s2)):=by unfold Hid;rw [hr3.out,if_pos hs0]
     have q1:(s1 !=0)=true:=bne_iff_ne.2 hs0;have q2:(s1==0)=false:=beq_eq_false_iff_ne.2 hs0;clear hs0;go_wp2_with fail;go_ret2;rw [hr4.out];exact ⟨rfl,h7,(Tw.below hb06).step ht7⟩
end
end Go.Proofs.YtecpbcmpncgokaaGreat
set_option maxRecDepth 100000
set_option maxHeartbeats 1600000
set_option linter.unusedVariables false
namespace Go.Proofs.YtecpbcmpncgokaaGreat
open Go.RowKit Go.Dol
theorem Zc9 (w:World):(callFunc 290 #[]).run Tryz.prog w= .ok (.value (.tuple #[])) w:=run_call_mark0 Tryz.func290 (by kernel_rfl) (by kernel_rfl) (by kernel_rfl) .disable (by kernel_rfl) w
theorem ZeD (w:World):(callFunc 292 #[]).run Tryz.prog w= .ok (.value (.tuple #[])) w:=run_call_mark0 Tryz.func292 (by kernel_rfl) (by kernel_rfl) (by kernel_rfl) .enable (by kernel_rfl) w
theorem ZgK (a:Addr) (w:World):(callFunc 293 #[.pointer (some a)]).run Tryz.prog w= .ok (.value (.tuple #[])) w:=run_call_marked Tryz.func293 (by kernel_rfl) (by kernel_rfl) (by kernel_rfl) .acquire (by kernel_rfl) a w
theorem ZgL (a:Addr) (w:World):(callFunc 295 #[.pointer (some a)]).run Tryz.prog w= .ok (.value (.tuple #[])) w:=run_call_marked Tryz.func295 (by kernel_rfl) (by kernel_rfl) (by kernel_rfl) .releaseMerge (by kernel_rfl) a w
theorem Z3T (a:Addr) (x:Value) (u:FrameMode) (w:World) (hc:w.cell? a=some x) (hz:w.frozen? a=false):
  CallsD Tryz.prog 262 #[.pointer (some a),.bool true] u w fun e u' w'=>u'=u∧(e= .returned (.tuple #[])∧w'=w.drew.setCell a (.int .u32 1)):=by
 have hc':w.drew.cell? a=some x:=by go_simp
 have hz':w.drew.frozen? a=false:=by go_simp
 have hst:=run_call_store (P:=Tryz.prog) Tryz.func281 (by kernel_rfl) (by kernel_rfl) (by kernel_rfl) (by kernel_rfl) (k:=.u32) (y:=1) hc' hz';go_enter_d Tryz.func262,Tryz.ntmps262;go_wp2;go_region_calls
 all_goals (go_end0;exact ⟨rfl,rfl⟩)
theorem Z3w (a:Addr) (u:FrameMode) (w:World) (hc:w.cell? a=some (.int .i32 1)) (hz:w.frozen? a=false):
  CallsD Tryz.prog 261 #[.pointer (some a)] u w fun e u' w'=>u'=u∧(e= .returned (.tuple #[])∧w'=w.setCell a (.int .i32 0)):=by
 have hd:=Zc9;have he:=ZeD;have hr:=ZgL;have hadd:=run_call_add (P:=Tryz.prog) Tryz.func296 (by kernel_rfl) (by kernel_rfl) (by kernel_rfl) .i32 (by kernel_rfl) (y:=-1) (s:=0) hc hz (by simp [go_sem];rfl);have hcv:=run_convert_to_unsafe (P:=Tryz.prog) (src:=334) (dst:=338) Tryz.underlying334 Tryz.underlying338 (by kernel_rfl) hc;go_enter_d Tryz.func261,Tryz.ntmps261;go_wp2;go_end0;go_wp2;go_end0;exact ⟨rfl,rfl⟩
theorem Z9K (a:Addr) (w:World) (hc:w.cell? a=some (.int .i32 0)) (hz:w.frozen? a=false):
  Calls Tryz.prog 260 #[.pointer (some a)] w fun e w'=>e= .returned (.tuple #[])∧w'=w.setCell a (.int .i32 1):=by
 have hd:=Zc9;have he:=ZeD;have ha:=ZgK;have hcas:=run_call_cas_hit (P:=Tryz.prog) Tryz.func291 (by kernel_rfl) (by kernel_rfl) (by kernel_rfl) .i32 (by kernel_rfl) (y:=1) hc hz;have hc':(w.setCell a (.int .i32 1)).cell? a=some (.int .i32 1):=World.cell?_setCell_same w a _ hc;have hcv:=run_convert_to_unsafe (P:=Tryz.prog) (src:=334) (dst:=338) Tryz.underlying334 Tryz.underlying338 (by kernel_rfl) hc';go_in;go_wp2
 first | go_end0 | (simp only [Exit.inBlock,Exit.then];refine bodyPost_ret (results_none rfl _ _ _) rfl ?_) | refine bodyPost_ret (results_none rfl _ _ _) rfl ?_
 go_wp2;go_end0;exact ⟨rfl,rfl⟩
theorem Z2k (a:Addr) (x:Int) (w:World) (hc:w.cell? a=some (.int .u32 x)):
  Calls Tryz.prog 213 #[.pointer (some a)] w fun e w'=>e= .returned (.bool (x !=0))∧w'=w:=by
 have hl:=run_call_load (P:=Tryz.prog) Tryz.func259 (by kernel_rfl) (by kernel_rfl) (by kernel_rfl) .u32 (by kernel_rfl) hc;go_in;go_wp2_with fail;go_ret;exact ⟨rfl,rfl⟩
def ZaF (F:Nat) (pl:Addr) (b off:Nat) (T:TypeId) (cs:List Value) (R:List Value→World→World→Prop) (w:World):Prop:=
 ∀w1,Blk w1 b T (cs.set (off+1) (.int .i32 1))→w.grownBy w1 (some b)→w1.heap.size=w.heap.size→Calls Tryz.prog F #[.pointer (some pl)] w1 fun e w2=>e= .returned (.tuple #[])∧ ∃cs',Blk w2 b T cs'∧cs'[off]?=some (.int .u32 0)∧cs'[off+1]?=some (.int .i32 1)∧w1.grownBy w2 (some b)∧R cs' w1 w2
def ZeE (b off:Nat) (T:TypeId) (R:List Value→World→World→Prop) (w:World) (e:Ending) (w':World):Prop:=
 e= .returned (.tuple #[])∧ ∃cs' w1 w2,R cs' w1 w2∧w.grownBy w1 (some b)∧w1.grownBy w2 (some b)∧Blk w2 b T cs'∧w'=(w2.drew.setCell ⟨b,off,none⟩ (.int .u32 1)).setCell ⟨b,off+1,none⟩ (.int .i32 0)
theorem ZgM (b off:Nat) (T:TypeId) (cs:List Value) (pl:Addr) (R:List Value→World→World→Prop) (w:World) (hb:Blk w b T cs)
  (h0:cs[off]?=some (.int .u32 0)) (h1:cs[off+1]?=some (.int .i32 0)) (hf:ZaF 215 pl b off T cs R w):
  Calls Tryz.prog 214 #[.pointer (some ⟨b,off,none⟩),.func (.func 215) #[] #[.pointer (some pl)]] w (ZeE b off T R w):=by
 have k0:w.cell? ⟨b,off,none⟩=some (.int .u32 0):=by rw [hb.cell];exact h0
 have k1:w.cell? ⟨b,off+1,none⟩=some (.int .i32 0):=by rw [hb.cell];exact h1
 have f1:=hb.free (off+1);have hB1:=hb.set (off+1) (.int .i32 1);have hg1:w.grownBy (w.setCell ⟨b,off+1,none⟩ (.int .i32 1)) (some b):=Z0 (gR _ _) _ _;have hl:=qI (Z2k ⟨b,off,none⟩ 0 (w.setCell ⟨b,off+1,none⟩ (.int .i32 1)) ((World.cell?_setCell_other _ ⟨b,off+1,none⟩ ⟨b,off,none⟩ _ (by simp)).trans k0));have hnot: ∀(x:Bool) (w:World),(Op.unary .not (.bool x)).run Tryz.prog w= .ok (.bool (!x)) w:=fun _ _=>rfl;have HF:=qI (hf _ hB1 hg1 (by simp [World.setCell]));clear hf h0 h1;go_enter_defers Tryz.func214,Tryz.ntmps214;go_wp2_with (first | (go_at_call 260;refine (Z9K ⟨b,off+1,none⟩ _ (by go_simp) (by go_simp)).mono ?_;rintro e w' ⟨rfl,rfl⟩));refine hl.out.mono ?_;rintro e w' ⟨rfl,rfl⟩;go_wp2_with fail;refine HF.out.mono ?_;rintro e w2 ⟨rfl,cs',hB2,i0,i1,hg2,hR⟩;have k0':w2.cell? ⟨b,off,none⟩=some (.int .u32 0):=by rw [hB2.cell];exact i0
 have k1':w2.cell? ⟨b,off+1,none⟩=some (.int .i32 1):=by rw [hB2.cell];exact i1
 have z0:=hB2.free off;have z1:=hB2.free (off+1);go_wp2_with fail;simp only [bodyPostD];refine leaves_cons (f:=262) (args:=#[.pointer (some ⟨b,off,none⟩),.bool true]) (by simp) (by simp [go_sem]) ?_;refine (Z3T ⟨b,off,none⟩ (.int .u32 0) .returning _ k0' z0).mono ?_;rintro e u' w'' ⟨rfl,rfl,rfl⟩;have hB3:=hB2.drew.set off (.int .u32 1);refine leaves_cons (f:=261) (args:=#[.pointer (some ⟨b,off+1,none⟩)]) (by simp [settle]) (by simp [go_sem]) ?_;refine (Z3w ⟨b,off+1,none⟩ _ (w2.drew.setCell ⟨b,off,none⟩ (.int .u32 1)) ((World.cell?_setCell_other w2.drew ⟨b,off,none⟩ ⟨b,off+1,none⟩ _ (by simp)).trans (by rw [World.cell?_drew];exact k1')) (hB3.free _)).mono ?_;rintro e u' w'' ⟨rfl,rfl,rfl⟩;simp only [Leaves,settle,results,Tryz.results214];exact ⟨.tuple #[],by simp,rfl,cs',_,w2,hR,hg1,hg2,hB2,rfl⟩
theorem ZgN (b off:Nat) (T:TypeId) (cs:List Value) (pl:Addr) (R:List Value→World→World→Prop) (w:World) (hb:Blk w b T cs)
  (h0:cs[off]?=some (.int .u32 0)) (h1:cs[off+1]?=some (.int .i32 0)) (hf:ZaF 215 pl b off T cs R w):
  Calls Tryz.prog 151 #[.pointer (some ⟨b,off,none⟩),.func (.func 215) #[] #[.pointer (some pl)]] w (ZeE b off T R w):=by
 have hl:=qI (Z2k ⟨b,off,none⟩ 0 w (by rw [hb.cell];exact h0));have hnot: ∀(x:Bool) (w:World),(Op.unary .not (.bool x)).run Tryz.prog w= .ok (.bool (!x)) w:=fun _ _=>rfl;have HS:=qI (ZgM b off T cs pl R w hb h0 h1 hf);clear hf;go_in;go_wp2_with fail;refine hl.out.mono ?_;rintro e w' ⟨rfl,rfl⟩;go_wp2_with fail;refine HS.out.mono ?_;rintro e w2 hE;have he:=hE.1;subst he;go_wp2_with fail;go_end0;exact hE
theorem Zii (a:Addr) (fv:Value) (w:World) (h0:w.cell? a=some (.int .u32 1)):
  Calls Tryz.prog 151 #[.pointer (some a),fv] w fun e w'=>e= .returned (.tuple #[])∧w'=w:=by
 have hl:=qI (Z2k a 1 w h0);have hnot: ∀(x:Bool) (w:World),(Op.unary .not (.bool x)).run Tryz.prog w= .ok (.bool (!x)) w:=fun _ _=>rfl;go_in;go_wp2_with fail;refine hl.out.mono ?_;rintro e w' ⟨rfl,rfl⟩;go_wp2_with fail;go_end0;exact ⟨rfl,rfl⟩
end Go.Proofs.YtecpbcmpncgokaaGreat
set_option linter.unusedVariables false
namespace Go.Dol
open Go.RowKit
theorem ZdK {a b:List (LU)} (h:a.Perm b):Z3W a=Z3W b:=by
 have tr: ∀a b c:LU,decide (a≤b)=true→decide (b≤c)=true→decide (a≤c)=true:=fun a b c h1 h2=>dT (List.le_trans (of_decide_eq_true h1) (of_decide_eq_true h2));have tl: ∀a b:LU,(decide (a≤b)||decide (b≤a))=true:=fun a b=>by
  rcases List.le_total a b with h | h<;>simp [h]
 exact List.Perm.eq_of_pairwise (le:=fun a b=>decide (a≤b)=true) (fun a b _ _ h1 h2=>List.le_antisymm (of_decide_eq_true h1) (of_decide_eq_true h2)) (List.pairwise_mergeSort tr tl a) (List.pairwise_mergeSort tr tl b) ((List.mergeSort_perm a _).trans (h.trans (List.mergeSort_perm b _).symm))
end Go.Dol
namespace Go.Proofs.YtecpbcmpncgokaaGreat
open Go.RowKit Go.Dol
theorem Zcf (mb:Option Nat) (W:World):Calls Tryz.prog 133 #[.map mb] W fun e w'=>e= .returned (.func (.func 206) #[] #[.pointer (some ⟨W.heap.size,0,none⟩)])∧w'=W.alloc (.cells #[.map mb] 140):=
 (callsIn_wide (n:=5)).1 (ZbF mb W)
def Zjh (w:World) (l:List Pt) (e:Ending) (w':World):Prop:=
 ∃A c,e= .returned (.slice A l.length c)∧w'.ownsRow w.heap.size 9 1 (.slice A l.length c) l.length (pc (idsL l))∧Below w.heap.size w w'
theorem Z93 {l:List PtA} {m:Nat} (w:World) (hM:MapL Tryz.prog 9 w m (ptm l)) (hle:l.length≤4096):
  Calls Tryz.prog 132 #[.func (.func 206) #[] #[.pointer (some ⟨w.heap.size,0,none⟩)]] (w.alloc (.cells #[.map (some m)] 140)) (Zjh w (ptp l)):=by
 have hlen:(ptm l).length=l.length:=by simp [ptm]
 obtain ⟨D0,hown,hsz,hkeys⟩:=hM.owns Tryz.underlying9 (by unfold maxLen;omega);refine ((callsIn_wide (n:=5)).1 (Z7C m (ptm l).length D0 _ w hown (by unfold maxLen;omega) (by omega))).mono ?_;rintro e w' ⟨v,ss,rfl,hS,hrow,_,hb⟩;have hns:(ptm l).map Prod.fst=(l.map fun x=>idS x.p.id).map Value.string:=by
  simp [ptm]
 have hperm:ss.Perm ((ptp l).map (·.id)):=by
  refine hS.trans ((hkeys _ hns).trans ?_);rw [List.map_map];refine List.Perm.of_eq ?_;simp [ptp,idS]
 have hpl:(ptp l).length=l.length:=by simp [ptp]
 have hsl:ss.length=(ptp l).length:=by rw [hperm.length_eq,List.length_map]
 have e1:(ss.mergeSort fun x y=>decide (x≤y))=Z3W ((ptp l).map (·.id)):=ZdK hperm;rw [e1,hsl] at hrow;have hxs:(Z3W ((ptp l).map (·.id))).map Go.Proofs.encStr=pc (idsL (ptp l)):=by
  unfold pc idsL;rw [List.map_map];exact List.map_congr_left fun f _=>rfl
 rw [hxs] at hrow;have hbl:Below w.heap.size w w':=((bR _ _).alloc (lR _) _).trans (hb.mono (by simp));have hrow':w'.ownsRow w.heap.size 9 1 v (ptp l).length (pc (idsL (ptp l))):=World.ownsRow.mono hrow (by simp);have hv: ∃A c,v= .slice A (ptp l).length c:=by
  rcases hrow'.2 with ⟨rfl,h0⟩ | ⟨q,cap,cur,rfl,_⟩
  ·exact ⟨none,0,by rw [h0]⟩
  ·exact ⟨_,cap,rfl⟩
 obtain ⟨A,c,rfl⟩:=hv;exact ⟨A,c,rfl,hrow',hbl⟩
theorem ZgV (w:World) (A:OA) (n c:Nat):(binOp .eql 38 (.slice A n c) (.slice none 0 0)).run Tryz.prog w= .ok (.bool A.isNone) w:=Lib.run_eql_slice_nil w _ _ A n c 0 0 Tryz.underlying38
theorem Z2m:(Tryz.prog.info? 9).map (fun i=>(i.zero,i.size,i.bytes))=some (some (.string ⟨#[]⟩),1,16):=by kernel_rfl
theorem ZaK (l:List BA): ∀u∈pc l,u.oneCell'=true:=by
 intro u hu;obtain ⟨x,_,rfl⟩:=List.mem_map.1 hu
 rfl
set_option maxRecDepth 100000 in
set_option maxHeartbeats 800000 in
theorem ZaL (A:OA) (n:Nat) (l:List BA) (c:Nat) (w:World) (hn:l.length=n) (hr:Rd w w.heap.size 1 A n (pc l)) (hl:n≤1099511627776):
  Calls Tryz.prog 85 #[.slice A n c] w fun e w'=> ∃A' c',e= .returned (.slice A' n c')∧w'.ownsRow w.heap.size 9 1 (.slice A' n c') n (pc l)∧Below w.heap.size w w':=by
 have hq:=ZgV w A n c
 cases A with
 | none=>
  have h0:=hr.none_zero;subst h0;obtain rfl:l=[]:=nZ hn;have hq0:(binOp .eql 38 (.slice none 0 c) (.slice none 0 0)).run Tryz.prog w= .ok (.bool true) w:=hq;clear hq hr;go_in;go_wp2_with fail;go_ret;exact ⟨none,0,rfl,World.ownsRow_nil _ _ _ _,bR _ _⟩
 | some a=>
  have hq0:(binOp .eql 38 (.slice (some a) n c) (.slice none 0 0)).run Tryz.prog w= .ok (.bool false) w:=hq;have hb0:Below w.heap.size w (w.alloc (.cells #[] 9)):=(bR _ _).alloc (lR _) _;have ho:=ZeY w 9 w.heap.size 0 [] rfl (lR _) (by unfold maxLen;omega);have hr2:=hr.belowW hb0 (lR _);clear hq hr;go_in;go_wp2_with (at_builtin;refine ZeX rfl (.tmp 5) (.tmp 6) 38 9 _ 16 rfl Tryz.underlying38 Z2m rfl w.heap.size _ 0 [] rfl ho w.heap.size _ n c (pc l) rfl hr2 (ZaK _) (by unfold maxLen;omega) (by omega) (by simp) ?_;intro A' c' w' y1 y2 y3 y4 y5;simp only [Nat.zero_add,List.nil_append] at y1 y4 ⊢);go_ret;exact ⟨A',c',rfl,y1,hb0.trans y2⟩
section
variable {w w':World} {base g:Nat} {l:List PtA} {A:OA} {c m:Nat} {d:Int} {vi:Value}
theorem Zin (h:Pck w base g l A c m 0 (.slice none 0 0)) (hl:l.length≤4096) (pl:Addr) (hp:w.cell? pl=some (.pointer (some ⟨g,0,none⟩))) (hpg:pl.block≠g) (hpw:pl.block<w.heap.size):
  ZaF 215 pl g 2 205 [.slice A l.length c,.map (some m),.int .u32 0,.int .i32 0,.int .u32 0,.slice none 0 0]
   (fun cs' w1 w2=> ∃Ai ci,cs'=[.slice A l.length c,.map (some m),.int .u32 0,.int .i32 1,.int .u32 0,.slice Ai l.length ci]∧w2.ownsRow w1.heap.size 9 1 (.slice Ai l.length ci) l.length (pc (idsL (ptp l)))) w:=by
 intro w1 hB hg hs;have hB:Blk w1 g 205 [.slice A l.length c,.map (some m),.int .u32 0,.int .i32 1,.int .u32 0,.slice none 0 0]:=hB
 have hm1:MapL Tryz.prog 9 w1 m (ptm l):=h.map.grown hg (fun e=>by
  injection e with e
  exact h.map.blk_ne h.blk e.symm)
 have hp1:w1.cell? pl=some (.pointer (some ⟨g,0,none⟩)):=(World.cell?_of_block (hg.block pl.block hpw (fun e=>hpg (by injection e)))).trans hp;have hgl:=hB.lt;have hml:=hm1.lt;have k1:w1.cell? ⟨g,1,none⟩=some (.map (some m)):=by rw [hB.cell];rfl
 have hplw:pl.block<w1.heap.size:=by omega
 have HK:=qI (fun mb W=>Zcf mb W);have hsx:Calls Tryz.prog 132 #[.func (.func 206) #[] #[.pointer (some ⟨w1.heap.size,0,none⟩)]] (w1.alloc (.cells #[.map (some m)] 140)).drew (fun e w'=> ∃A c,e= .returned (.slice A (ptp l).length c)∧w'.ownsRow w1.heap.size 9 1 (.slice A (ptp l).length c) (ptp l).length (pc (idsL (ptp l)))∧Below w1.drew.heap.size w1.drew w'):=Z93 (l:=l) (m:=m) w1.drew hm1.drew hl;have HS:=qI hsx;clear hsx hs;go_in;have hpt:(ptp l).length=l.length:=by simp [ptp]
 rw [hpt] at HS;go_upto_region 0 with (fail)
 refine wp_region_held_drew (S:=fun W=>W.cell? pl=some (.pointer (some ⟨g,0,none⟩))∧W.cell? ⟨g,1,none⟩=some (.map (some m))) (by kernel_rfl) (⟨hp1,k1⟩) (fun hHeld=> ?_);refine tk 0 (.pointer (some ⟨g,0,none⟩)) rfl (fun _ _ _ h=>h) (Or.inl ⟨by rfl,fun w9 hS=> ?_⟩) hHeld ?_
 ·obtain ⟨s0,s1⟩:=hS
  go_simp
 try simp only [Act.put,sA,sB,sC,sD,sF]
 refine tk 1 (.pointer (some ⟨g,0,none⟩)) rfl (fun _ _ _ h=>h) (Or.inl ⟨by rfl,fun w9 hS=> ?_⟩) hHeld ?_
 ·obtain ⟨s0,s1⟩:=hS
  go_simp
 try simp only [Act.put,sA,sB,sC,sD,sE,sF]
 refine tk 2 (.pointer (some ⟨g,0,none⟩)) rfl (fun _ _ _ h=>h) (Or.inl ⟨by rfl,fun w9 hS=> ?_⟩) hHeld ?_
 ·obtain ⟨s0,s1⟩:=hS
  go_simp
 try simp only [Act.put,sA,sB,sC,sD,sE,sF]
 refine tk 3 (.pointer (some ⟨g,1,none⟩)) rfl (fun _ _ _ h=>h) (Or.inl ⟨by rfl,fun w9 hS=> ?_⟩) hHeld ?_
 ·obtain ⟨s0,s1⟩:=hS
  go_simp
 try simp only [Act.put,sA,sB,sC,sD,sE,sF]
 refine tk 4 (.map (some m)) rfl (fun _ _ _ h=>h) (Or.inl ⟨by rfl,fun w9 hS=> ?_⟩) hHeld ?_
 ·obtain ⟨s0,s1⟩:=hS
  go_simp
 try simp only [Act.put,sA,sB,sC,sD,sE,sF]
 refine wpAnyH_ready (rs:=[5]) (by kernel_rfl) (by simp) (AllReadyH.cons (o:=_) rfl (fun K hK=> ?_) AllReadyH.nil);go_simp;refine (HK.out (some m) _).mono ?_;rintro e w2 ⟨rfl,hw2⟩;refine hK.out _ _ (by rw [hw2];exact ⟨(World.cell?_alloc_lt _ _ _ hplw).trans hp1,(World.cell?_alloc_lt _ _ _ hgl).trans k1⟩) (fun hHeld=> ?_);clear hK K
 try simp only [Act.put,sA,sB,sC,sD,sE,sF]
 subst hw2;refine wpAnyH_ready (rs:=[6]) (by kernel_rfl) (by simp) (AllReadyH.cons (o:=_) rfl (fun K hK=> ?_) AllReadyH.nil);go_simp;refine (HS.out).mono ?_;rintro e w3 ⟨Ai,ci,rfl,ho3,hb3⟩;have hb3:Below w1.heap.size w1 w3:=⟨hb3.os,hb3.tape,hb3.output,hb3.size,hb3.block⟩;have ho3:w3.ownsRow w1.heap.size 9 1 (.slice Ai l.length ci) l.length (pc (idsL (ptp l))):=ho3;have hB3:=hB.below hb3 hgl;have k5:w3.cell? ⟨g,5,none⟩=some (.slice none 0 0):=by rw [hB3.cell];rfl
 have f5:=hB3.free 5;refine hK.out _ _ ⟨(hb3.cell (p:=pl) hplw).trans hp1,by rw [hB3.cell];rfl⟩ (fun hHeld=> ?_);clear hK K
 try simp only [Act.put,sA,sB,sC,sD,sE,sF]
 refine tk 7 (.pointer (some ⟨g,0,none⟩)) rfl (fun _ _ _ h=>h) (Or.inl ⟨by rfl,fun w9 hS=> ?_⟩) hHeld ?_
 ·obtain ⟨s0,s1⟩:=hS
  go_simp
 try simp only [Act.put,sA,sB,sC,sD,sE,sF]
 refine tk 8 (.pointer (some ⟨g,5,none⟩)) rfl (fun _ _ _ h=>h) (Or.inl ⟨by rfl,fun w9 hS=> ?_⟩) hHeld ?_
 ·obtain ⟨s0,s1⟩:=hS
  go_simp
 try simp only [Act.put,sA,sB,sC,sD,sE,sF]
 have hB4:=hB3.set 5 (.slice Ai l.length ci);have s0:(w3.setCell ⟨g,5,none⟩ (.slice Ai l.length ci)).cell? pl=some (.pointer (some ⟨g,0,none⟩)):=(World.cell?_setCell_other w3 ⟨g,5,none⟩ pl _ (fun e=>hpg (by rw [←e]))).trans ((hb3.cell (p:=pl) hplw).trans hp1);have s1:(w3.setCell ⟨g,5,none⟩ (.slice Ai l.length ci)).cell? ⟨g,1,none⟩=some (.map (some m)):=by rw [hB4.cell];rfl
 refine wpAnyH_ready (rs:=[9]) (by kernel_rfl) (by simp) (AllReadyH.cons (o:=_) rfl (fun K hK=> ?_) AllReadyH.nil);go_simp;refine hK.out _ _ ⟨s0,s1⟩ (fun hHeld=> ?_);clear hK K
 try simp only [Act.put,sA,sB,sC,sD,sE,sF]
 refine wpAnyH_done (by kernel_rfl) ?_ _;go_end0;exact ⟨rfl,_,hB4,rfl,rfl,Z0 (Z8 hb3 (some g)) 5 _,Ai,ci,rfl,Z1k ho3 (Z0 (gR _ _) 5 _) hgl⟩
theorem Pck.of_cells (h:Pck w base g l A c m d vi) (hg:w.grownBy w' (some g)) {d':Int} {vi':Value} (hB:Blk w' g 205 [.slice A l.length c,.map (some m),.int .u32 d',.int .i32 0,.int .u32 0,vi'])
  (hi:d'=0∧vi'= .slice none 0 0∨d'=1∧ ∃Ai ci,vi'= .slice Ai l.length ci∧w'.ownsRow base 9 1 (.slice Ai l.length ci) l.length (pc (idsL (ptp l)))):Pck w' base g l A c m d' vi':=
 ⟨hB,h.gb,h.mb,Ze h.parts h.blk (by decide) hg,h.map.grown hg (fun e=>by injection e with e;exact h.map.blk_ne h.blk e.symm),fun x hx=>⟨(h.raws x hx).1.grown hg (Other.blk h.blk (by decide) (zL _)),(h.raws x hx).2⟩,hi⟩
end
end Go.Proofs.YtecpbcmpncgokaaGreat
set_option linter.unusedVariables false
namespace Go.Dol
open Go.RowKit
structure PkA where
 n:BA
 l:List PtA
 g:Nat
 A:OA
 c:Nat
 m:Nat
def PkA.pk (x:PkA):Pk:=(x.n,ptp x.l)
def pkc (xs:List PkA):List Value:=xs.map fun x=> .pointer (some ⟨x.g,0,none⟩)
def Zhn (P:List Pk) (id:BA) (q:Except Int (LU)):Except Int (LU):=match q with
 | .ok b=> .ok b
 | .error k=>if k=6 then (match Z4N P id with | some r=> .ok r | none=> .error 6) else .error k
theorem Zjo (ge:BA→BA→Bool) (D:Dk) (P:List Pk) (id:BA):getS ge D P id=Zhn P id (getO ge D id):=rfl
theorem Z58 (p:Pk) (r:List Pk) (id:BA):Z4N (p::r) id=match Z1Y p.2 id.data.toList with | some x=>some x.raw | none=>Z4N r id:=rfl
def PkOk (P:List Pk):Prop:=∀ p∈P,p.2.length≤4096∧ ∀x∈p.2,x.raw.length≤2097152
end Go.Dol
namespace Go.Proofs.YtecpbcmpncgokaaGreat
open Go.RowKit Go.Dol
structure Pks (w:World) (base gp:Nat) (xs:List PkA) (An:OA) (cn:Nat) (Aa:OA) (ca:Nat) (dn:Int) (vn:Value):Prop where
 blk:Blk w gp 138 [.slice An xs.length cn,.slice Aa xs.length ca,.int .u32 dn,.int .i32 0,.int .u32 0,vn]
 names:w.ownsRow base 9 1 (.slice An xs.length cn) xs.length (sc (xs.map (·.n)))
 all:w.ownsRow base 139 1 (.slice Aa xs.length ca) xs.length (pkc xs)
 packs: ∀x∈xs,∃d vi,Pck w base x.g x.l x.A x.c x.m d vi∧(dn=0→d=0∧vi= .slice none 0 0)
 nodup:(xs.map (·.g)).Nodup
 ids:dn=0∧vn= .slice none 0 0∨dn=1∧ ∃(zs:List BA) (Ai:OA) (ci:Nat),vn= .slice Ai zs.length ci∧w.ownsRow base 9 1 (.slice Ai zs.length ci) zs.length (sc zs)∧Hid (zs=idsK (xs.map PkA.pk))
 le:base≤w.heap.size
structure Sto (w:World) (gs g m base gp:Nat) (D:Dk) (xs:List PkA):Prop where
 st:Blk w gs 100 [.pointer (some ⟨g,0,none⟩),.pointer (some ⟨gp,0,none⟩)]
 dk:Dsk w g m D
 lt:g<base∧m<base∧gp≠g∧gp≠m∧gs≠g∧gs≠m
 pks: ∃An cn Aa ca dn vn,Pks w base gp xs An cn Aa ca dn vn
section
variable {w w':World} {base gp gs g m:Nat} {xs:List PkA} {An Aa:OA} {cn ca:Nat} {dn:Int} {vn:Value} {D:Dk}
theorem Pks.keep (h:Pks w base gp xs An cn Aa ca dn vn) (hg:w'.heap[gp]?=w.heap[gp]?) (hk: ∀k,base≤k→k<w.heap.size→w'.heap[k]?=w.heap[k]?) (hs:w.heap.size≤w'.heap.size):Pks w' base gp xs An cn Aa ca dn vn:=
 ⟨h.blk.keepB hg,Z1w h.names hk,Z1w h.all hk,fun x hx=>(h.packs x hx).imp fun _ h=>h.imp fun _ h=>⟨h.1.keep hk hs,h.2⟩,h.nodup,by
  rcases h.ids with h5 | ⟨h5,zs,Ai,ci,h6,h7,h8⟩
  ·exact .inl h5
  ·exact .inr ⟨h5,zs,Ai,ci,h6,Z1w h7 hk,h8⟩,lT h.le hs⟩
theorem Pks.below (h:Pks w base gp xs An cn Aa ca dn vn) (hb:Below w.heap.size w w'):Pks w' base gp xs An cn Aa ca dn vn:=h.keep (hb.block gp h.blk.lt) (fun k _ hk=>hb.block k hk) hb.size
theorem Sto.below (h:Sto w gs g m base gp D xs) (hb:Below w.heap.size w w'):Sto w' gs g m base gp D xs:=by
 obtain ⟨h1,h2,h3,An,cn,Aa,ca,dn,vn,h4⟩:=h;exact ⟨h1.below hb h1.lt,h2.below hb,h3,An,cn,Aa,ca,dn,vn,h4.below hb⟩
theorem Sto.tw {D':Dk} (h:Sto w gs g m base gp D xs) (ht:Tw w w' g m) (hD:Dsk w' g m D'):Sto w' gs g m base gp D' xs:=by
 obtain ⟨h1,h2,h3,An,cn,Aa,ca,dn,vn,h4⟩:=h;exact ⟨h1.keepB (ht.block gs h1.lt h3.2.2.2.2.1 h3.2.2.2.2.2),hD,h3,An,cn,Aa,ca,dn,vn,h4.keep (ht.block gp h4.blk.lt (by omega) (by omega)) (fun k hk hl=>ht.block k hl (by omega) (by omega)) ht.size⟩
theorem Z1h (h:Sto w gs g m base gp D xs):Calls Tryz.prog 80 #[.pointer (some ⟨gs,0,none⟩)] w fun e w'=>e= .returned (.bool true)∧w'=w:=by
 have k0:w.cell? ⟨gs,0,none⟩=some (.pointer (some ⟨g,0,none⟩)):=by rw [h.st.cell];rfl
 go_in;go_wp2_with fail;go_ret;exact ⟨rfl,rfl⟩
def ZjW (P:List Pk) (n:Nat) (id:BA) (w:World) (i:Value) (wr:World):Prop:=
 ∃k:Nat,i= .int .i64 k∧k≤n∧Hid (Z4N P id=Z4N (P.drop k) id)∧Below w.heap.size w wr
set_option maxRecDepth 100000 in
set_option maxHeartbeats 3200000 in
theorem Z59 (h:Sto w gs g m base gp D xs) (hK:OkW D) (hP:PkOk (xs.map PkA.pk)) (hn:xs.length≤3518437208880) (id:BA) (hid:id.size≤70368744177600):
  Calls Tryz.prog 23 #[.pointer (some ⟨gs,0,none⟩),.string id] w (ZdI w (getS geS D (xs.map PkA.pk) id)):=by
 obtain ⟨r,hr⟩: ∃r,r=getS geS D (xs.map PkA.pk) id:=⟨_,rfl⟩;rw [←hr];have HR:=qI hr;clear hr;have hM:=Z1h h;have HM:=qI hM;have k0:w.cell? ⟨gs,0,none⟩=some (.pointer (some ⟨g,0,none⟩)):=by rw [h.st.cell];rfl
 have HG:=qI (Z7E h.dk hK id hid);clear hM;go_in;go_wp2_with fail;refine HM.out.mono ?_;rintro e w0 ⟨rfl,hw0⟩;obtain rfl:=hw0.symm;go_wp2_with fail;refine HG.out.mono ?_;obtain ⟨q,hq⟩: ∃q,q=getO geS D id:=⟨_,rfl⟩;rw [←hq];have h32:q= .error 6→id.size=32:=fun e=>by
  rw [hq] at e;unfold getO at e;split at e
  ·injection e with e
   cases e
  ·rename_i h9
   exact Decidable.of_not_not h9
 have hr2:Hid (r=Zhn (xs.map PkA.pk) id q):=by unfold Hid;rw [HR.out,Zjo,hq]
 clear hq HR HM HG;intro e w1 h1
 cases q with
 | ok b=>
  obtain ⟨hb1,q',A1,c1,hq',rfl,ho1,i1,i2⟩:=h1;have hr3:Hid (r= .ok b):=hr2.out;clear hr2;go_wp2_with fail;go_ret2;rw [hr3.out];exact ⟨hb1,q',A1,c1,hq',rfl,ho1,i1,i2⟩
 | error k=>
  obtain ⟨hb1,rfl⟩:=h1
  by_cases hk6:k=6
  ·subst hk6
   have hi32:=h32 rfl;have hr3:Hid (r=match Z4N (xs.map PkA.pk) id with | some r=> .ok r | none=> .error 6):=hr2.out;have h1:=h.below hb1;obtain ⟨s1,s2,s3,An,cn,Aa,ca,dn,vn,hp⟩:=h1;have y0:w1.cell? ⟨gs,1,none⟩=some (.pointer (some ⟨gp,0,none⟩)):=by rw [s1.cell];rfl
   have y1:w1.cell? ⟨gp,1,none⟩=some (.slice Aa xs.length ca):=by rw [hp.blk.cell];rfl
   clear hr2 k0 h;go_wp2_with fail;go_loopw [34] (fun i wr=>ZjW (xs.map PkA.pk) xs.length id w1 i wr) (fun i _=>xs.length-(intOf i).toNat)
   case atStart=>exact ⟨0,rfl,zL _,rfl,bR _ _⟩
   case round=>
    obtain ⟨k,rfl,hk,hf,hbr⟩:=hrel;have f1:IntKind.i64.wrap ((k:Int)+1)=(k:Int)+1:=qJ _ (by omega);have hbw:=hb1.next hbr
    by_cases hlt:k<xs.length
    ·have d1:decide ((k:Int)<(xs.length:Int))=true:=dT (by omega)
     have d1':(k:Int)<(xs.length:Int):=by omega
     have hk0:(0:Int)≤(k:Int):=by omega
     obtain ⟨x,hx⟩: ∃x,xs[k]?=some x:=⟨xs[k],gE hlt⟩;have hpr:=hp.below hbr;obtain ⟨bb,off,rfl,hbb,hcell⟩:=(Rd.of_own hpr.all).at_ (by omega);have q0:wr.cell? ⟨bb,off+k,none⟩=some (.pointer (some ⟨x.g,0,none⟩)):=hcell _ _ (by rw [pkc,List.getElem?_map,hx];rfl);obtain ⟨dx,vx,hpx,_⟩:=hpr.packs x (List.mem_of_getElem? hx);have HH:=qI (Z9N hpx id (by unfold maxLen;omega));have hdr:(xs.map PkA.pk).drop k=x.pk::(xs.map PkA.pk).drop (k+1):=by
      have hl:k<(xs.map PkA.pk).length:=by rw [List.length_map];exact hlt
      rw [List.drop_eq_getElem_cons hl]
      congr 1
      rw [List.getElem_map]
      congr 1
      have:=gE hlt;rw [hx] at this;injection this with this
      exact this.symm
     have hf2:=hf.out;rw [hdr,Z58] at hf2;have hok:=hP x.pk (List.mem_map.2 ⟨x,List.mem_of_getElem? hx,rfl⟩);have hGt:=Zfw hpx id (by unfold maxLen;omega) (fun y hy=>by have:=hok.2 y.p (List.mem_map.2 ⟨y,hy,rfl⟩);omega);change _=match Z1Y (ptp x.l) id.data.toList with | some x=>some x.raw | none=>_ at hf2
     clear hcell hx hdr
     cases hlp:Z1Y (ptp x.l) id.data.toList with
     | none=>
      rw [hlp] at HH hf2;have F2:=qI hf2;clear hf2 hlp hGt;go_wp2_with fail;refine HH.out.mono ?_;rintro e w3 ⟨rfl,hw3⟩;obtain rfl:=hw3.symm;go_wp2_with fail;exact ⟨⟨k+1,by go_num,by omega,F2,hbr⟩,by simp [intOf];omega⟩
     | some y=>
      rw [hlp] at HH hf2;have hgp:getP (ptp x.l) id= .ok y.raw:=by
       unfold getP;rw [if_pos hi32,hlp]
      rw [hgp] at hGt;have HGt:=qI hGt;have hr4:Hid (r= .ok y.raw):=by
       unfold Hid;rw [hr3.out,hf2]
      clear hf2 hlp hGt hgp;go_wp2_with fail;refine HH.out.mono ?_;rintro e w3 ⟨rfl,hw3⟩;obtain rfl:=hw3.symm;go_wp2_with fail;refine HGt.out.mono ?_;rintro e w4 ⟨hb4,q',A4,c4,hq',rfl,ho4,i1,i2⟩;go_wp2_with fail;go_ret2;rw [hr4.out];exact ⟨hbw.next hb4,q',A4,c4,hq',rfl,ho4.base hbw.size,i1,i2⟩
    ·have d1:decide ((k:Int)<(xs.length:Int))=false:=qF (by omega)
     have hr4:Hid (r= .error 6):=by
      unfold Hid;rw [hr3.out,hf.out,List.drop_eq_nil_of_le (by rw [List.length_map];omega)]
      rfl
     go_wp2_with fail;go_ret2;rw [hr4.out];exact ⟨hbw,rfl⟩
  ·have hr3:Hid (r= .error k):=by
    unfold Hid;rw [hr2.out];exact if_neg hk6
   have z1:(k==6)=false:=beq_eq_false_iff_ne.2 hk6;have z2:(k !=6)=true:=bne_iff_ne.2 hk6;clear hk6 hr2 h32;go_wp2_with fail;go_ret2;rw [hr3.out];exact ⟨hb1,rfl⟩
end
end Go.Proofs.YtecpbcmpncgokaaGreat
