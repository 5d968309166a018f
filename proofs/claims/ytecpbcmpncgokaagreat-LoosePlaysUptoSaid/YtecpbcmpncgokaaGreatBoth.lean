/- The walks of bytes.Equal, HasPrefix and CutPrefix. Conditions: bytes of at most 2^47. The walks of the layer 'loose': an object is kept; it is dropped. Conditions: a disk in good order, with room for one file more; an id of at most 2^46 bytes. The walks of the layer 'disk', its tenth part: a disk out of files. Conditions: names and bytes together below 2^46. The walk of the layer 'disk': its files, written out. Conditions: a disk in good order. The walks of the layer 'disk' at a disk that was never made. Conditions: texts of at most maxLen bytes. The layer 'loose' at a disk that was never made. Conditions: none. The ids of a disk that was never made. Conditions: none. The walk of the laws' example: an object of two bytes, kept, read, got, dropped. Conditions: none. The program's disk and the document's, side by side: what turns one leaves the other. Conditions: none beyond what each law  -/
import Derived.Test.YtecpbcmpncgokaaGreatWordsA
import Derived.Test.YtecpbcmpncgokaaGreatObjA
import Derived.Deep.DeepCutAuto
import Derived.Lib.SlBytesConst
import Derived.Test.YtecpbcmpncgokaaGreatShort
import Derived.Test.YtecpbcmpncgokaaGreatLoo2
import Derived.Test.YtecpbcmpncgokaaGreatSafeB
import Derived.Test.YtecpbcmpncgokaaGreatPressB
import Derived.Test.YtecpbcmpncgokaaGreatTw
import Derived.Test.YtecpbcmpncgokaaGreatDiskLaw
import Derived.StillTailTactics
import Derived.Deep.RegionHeld3
import Derived.Test.YtecpbcmpncgokaaGreatDisk13
import Derived.KernelRfl
import Derived.Test.YtecpbcmpncgokaaGreatRefDisk
set_option linter.unusedVariables false
namespace Go.Proofs.YtecpbcmpncgokaaGreat
open Go.RowKit Go.Dol
theorem ZeV (a b:LU):((⟨a.toArray⟩:BA).toList==(⟨b.toArray⟩:BA).toList)=decide (a=b):=by
 by_cases h:a=b
 ·subst h;simp
 ·rw [qF h]
  refine beq_eq_false_iff_ne.2 fun e=>h ?_;have:=Z23 e;simpa using this
set_option maxRecDepth 100000 in
set_option maxHeartbeats 800000 in
theorem Z5J (A:OA) (a:LU) (n c:Nat) (A2:OA) (b:LU) (n2 c2:Nat) (w:World) (B B2:Nat) (hr:Rd w B 1 A n (bc a)) (hr2:Rd w B2 1 A2 n2 (bc b)):
  Calls Tryz.prog 98 #[.slice A n c,.slice A2 n2 c2] w fun e w'=>e= .returned (.bool (decide (a=b)))∧w'=w:=by
 have h1:=Z0L (c:=c) hr;have h2:=Z0L (c:=c2) hr2;have h3:=ZeV a b;have hd:(a==b)=decide (a=b):=by by_cases h:a=b<;>simp [h]
 go_in;go_wp2_with fail;go_ret;exact ⟨rfl,rfl⟩
end Go.Proofs.YtecpbcmpncgokaaGreat
set_option maxRecDepth 100000
set_option maxHeartbeats 3200000
set_option linter.unusedVariables false
namespace Go.Proofs.YtecpbcmpncgokaaGreat
open Go.RowKit Go.Dol
def putR (r:Except Int BA):Value:=match r with
 | .ok id=> .tuple #[.string id,.int .i64 0]
 | .error k=> .tuple #[.string ⟨#[]⟩,.int .i64 k]
def RetPut (w:World) (g m:Nat) (r:Except Int BA×Dk) (e:Ending) (w':World):Prop:=e= .returned (putR r.1)∧Dsk w' g m r.2∧Tw w w' g m
theorem RetPut.ok {w w':World} {g m:Nat} {id:BA} {D:Dk} {e:Ending} (h:RetPut w g m (.ok id,D) e w'):e= .returned (.tuple #[.string id,.int .i64 0])∧Dsk w' g m D∧Tw w w' g m:=h
theorem RetPut.err {w w':World} {g m:Nat} {k:Int} {D:Dk} {e:Ending} (h:RetPut w g m (.error k,D) e w'):e= .returned (.tuple #[.string ⟨#[]⟩,.int .i64 k])∧Dsk w' g m D∧Tw w w' g m:=h
section
variable {w:World} {g m:Nat} {D:Dk}
theorem Z6h (h:Dsk w g m D) (hK:OkW D) (id:BA) (hid:id.size≤70368744177600):
  Calls Tryz.prog 47 #[.pointer (some ⟨g,0,none⟩),.string id] w (Z0C w g m (dropO D id)):=by
 obtain ⟨r,hr⟩: ∃r,r=dropO D id:=⟨_,rfl⟩;rw [←hr];have HR:=qI hr;clear hr;have HRi:=qI (Z3M h hK id);go_in;go_wp2_with fail;refine HRi.out.mono ?_
 by_cases hs:id.size=32
 ·have h32:=qI hs
  obtain ⟨hnB,_,_,_⟩:=Z3d hs;have hsz:(Zd id).size≤maxLen:=by rw [Z0q,hs];decide
  clear hs;rw [dT h32.out];rintro e w1 ⟨rfl,hb1⟩;have h1:=h.below hb1;have HN:=qI (Z1C id w1 hid);go_wp2_with fail;refine HN.out.mono ?_;rintro e w2 ⟨rfl,hb2⟩;have h2:=h1.below hb2;have hb02:=hb1.next hb2;have HH:=qI (Z19 h2 hK.ord (Zd id) hsz);go_wp2_with fail;refine HH.out.mono ?_
  cases hl:(Z4 D.l (Zd id)).isSome with
  | false=>
   have hr:Hid (r=(6,D)):=by
    unfold Hid;rw [HR.out];unfold dropO;rw [if_neg (by rw [h32.out];simp),if_neg (by rw [hl];decide)]
   rintro e w3 ⟨rfl,hw3⟩;obtain rfl:=hw3.symm;clear hl;go_wp2_with fail;go_ret;rw [hr.out];exact ⟨rfl,h2,Tw.below hb02⟩
  | true=>
   have hr:Hid (r=remD D (Zd id)):=by
    unfold Hid;rw [HR.out];unfold dropO;rw [if_neg (by rw [h32.out];simp),if_pos hl]
   rintro e w3 ⟨rfl,hw3⟩;obtain rfl:=hw3.symm;clear hl;have HN2:=qI (Z1C id w2 hid);go_wp2_with fail;refine HN2.out.mono ?_;rintro e w4 ⟨rfl,hb4⟩;have h4:=h2.below hb4;have HRm:=qI (Z22 h4 hK (Zd id) hsz);go_wp2_with fail;refine HRm.out.mono ?_;rintro e w5 ⟨rfl,h5,ht5⟩;go_wp2_with fail;go_ret;rw [hr.out];exact ⟨rfl,h5,(Tw.below (hb02.next hb4)).step ht5⟩
 ·have h32:=qI hs
  have hr:Hid (r=(1,D)):=by
   unfold Hid;rw [HR.out];unfold dropO;rw [if_pos hs]
  clear hs;rw [qF h32.out];rintro e w1 ⟨rfl,hb1⟩;have h1:=h.below hb1;go_wp2_with fail;go_ret;rw [hr.out];exact ⟨rfl,h1,Tw.below hb1⟩
theorem Z7h (ge:BA→BA→Bool) (D:Dk) (raw:LU) (h:ZB ge raw=false):putO ge D raw=(.error 1,D):=if_pos h
theorem Z9h {ge:BA→BA→Bool} {D:Dk} {raw:LU} (h:ZB ge raw=true):putO ge D raw=match getO ge D (idO raw) with
 | .ok b=>if b=raw then (.ok (idO raw),D) else (.error 7,D)
 | .error k=>if k=2 then (.error 2,D) else
  if (ZP D (Zd (idO raw)) (Zp raw)).1≠0 then (.error (ZP D (Zd (idO raw)) (Zp raw)).1,(ZP D (Zd (idO raw)) (Zp raw)).2) else (.ok (idO raw),(ZP D (Zd (idO raw)) (Zp raw)).2):=by
 unfold putO;rw [if_neg (by rw [h];decide)]
 rfl
theorem Zai {ge:BA→BA→Bool} {D:Dk} {id:BA} (h:id.size=32) {k:Int} (e:getO ge D id= .error k):k=2∨k=6:=by
 unfold getO at e;rw [if_neg (by rw [h];simp)] at e;split at e
 ·injection e with e;exact .inr e.symm
 ·split at e
  ·injection e with e;exact .inl e.symm
  ·split at e
   ·cases e
   ·injection e with e;exact .inl e.symm
theorem Z7i (h:Dsk w g m D) (hK:OkW D) (hsl:D.l.length+1≤3518437208880) (A:OA) (raw:LU) (c:Nat) (hr:Rd w w.heap.size 1 A raw.length (bc raw)) (hc:raw.length≤c) (hcm:c≤maxLen) (hl:raw.length≤140737488351232):
  Calls Tryz.prog 39 #[.pointer (some ⟨g,0,none⟩),.slice A raw.length c] w (RetPut w g m (putO geS D raw)):=by
 obtain ⟨r,hre⟩: ∃r,r=putO geS D raw:=⟨_,rfl⟩;rw [←hre];have HR:=qI hre;clear hre;have HS:=qI (Z3b A raw c w hr (by omega));go_in;go_wp2_with fail;refine HS.out.mono ?_;rintro e w1 ⟨rfl,hb1⟩;have h1:=h.below hb1;have hr1:Rd w1 w1.heap.size 1 A raw.length (bc raw):=(hr.below hb1).more hb1.size;obtain ⟨id,hid⟩: ∃id:BA,id=idO raw:=⟨_,rfl⟩;have hidO:=qI hid;have h32:id.size=32:=by rw [hid];exact Z2p raw
 rw [←hid];clear hid HS;have hD:=Z3m A raw c w1 hr1 hc hcm hl
 cases hdec:decO geS raw with
 | none=>
  rw [hdec] at hD;have HD:=qI hD;have hr2:Hid (r=(.error 1,D)):=by
   unfold Hid;rw [HR.out];exact Z7h _ _ _ (by unfold ZB;rw [hdec];rfl)
  clear hD hdec;go_wp2_with fail;refine HD.out.mono ?_;rintro e w2 ⟨rfl,hb2⟩;have hb02:=hb1.next hb2;go_wp2_with fail;go_ret2;rw [hr2.out];exact ⟨rfl,h.below (hb02.alloc hb02.size _),Tw.below (hb02.alloc hb02.size _)⟩
 | some o=>
  rw [hdec] at hD;have HD:=qI hD;have hobj:ZB geS raw=true:=by unfold ZB;rw [hdec];rfl
  have hfew:=Z5z raw hobj;have hr2:=qI (HR.out.trans (Z9h hobj));have HO:=qI hobj;clear hD hdec hobj;go_wp2_with fail;refine HD.out.mono ?_;rintro e w2 ⟨k,Ad,d,cd,Ae,en,ce,tr,Ap,pa,cp,ta,na,wh,st,te,ho,rfl,_,_,_,hb2,_,_,_⟩;clear ho;have hb02:=hb1.next hb2;have hb02:=hb02.alloc hb02.size (.cells #[.int .i64 k,.slice Ad d.length cd,.slice Ae en.length ce,.string tr,.slice Ap pa.length cp,.string ta,.string na,.string wh,.int .i64 st,.string te] 40);have h2:=h.below hb02;have HRi:=qI (Z3M h2 hK id);go_wp2_with fail;refine HRi.out.mono ?_;rw [dT h32];rintro e w3 ⟨rfl,hb3⟩;have h3:=h2.below hb3;have hb03:=hb02.next hb3;have HG:=qI (Z3c h3 hK id (by omega));go_wp2_with fail;refine HG.out.mono ?_;obtain ⟨q,hq⟩: ∃q,q=getO geS D id:=⟨_,rfl⟩;rw [←hq];rw [←hidO.out,←hq] at hr2;rintro e w4 ⟨hb4,hm⟩;have h4:=h3.below hb4;have hb04:=hb03.next hb4;have hr4:Rd w4 w4.heap.size 1 A raw.length (bc raw):=(hr.below hb04).more hb04.size
  cases q with
  | ok b=>
   obtain ⟨b',Ab,cb,hbb,rfl,hob,hbc,hbcm⟩:=hm;have HE:=qI (Z5J Ab b' b'.length cb A raw raw.length c w4 _ _ (Rd.of_own hob) hr4);have hr3:Hid (r=if b'=raw then (.ok id,D) else (.error 7,D)):=by
    unfold Hid;rw [hr2.out];simp only;rw [hbb.out]
   clear hbb hq;go_wp2_with fail;refine HE.out.mono ?_
   by_cases hb:b'=raw
   ·have hr4:Hid (r=(.ok id,D)):=by unfold Hid;rw [hr3.out,if_pos hb]
    rw [dT hb];rintro e w5 ⟨rfl,hw5⟩;obtain rfl:=hw5.symm;clear hb;go_wp2_with fail;go_ret2;rw [hr4.out];exact ⟨rfl,h4,Tw.below hb04⟩
   ·have hr4:Hid (r=(.error 7,D)):=by unfold Hid;rw [hr3.out,if_neg hb]
    rw [qF hb];rintro e w5 ⟨rfl,hw5⟩;obtain rfl:=hw5.symm;clear hb;go_wp2_with fail;go_ret2;rw [hr4.out];exact ⟨rfl,h4,Tw.below hb04⟩
  | error k0=>
   obtain rfl:=hm;rcases Zai h32 hq.symm with rfl | rfl
   ·have hr3:Hid (r=(.error 2,D)):=by
     unfold Hid;rw [hr2.out]
     rfl
    clear hq;go_wp2_with fail;go_ret2;rw [hr3.out];exact ⟨rfl,h4,Tw.below hb04⟩
   ·have HN:=qI (Z1C id w4 (by omega))
    clear hq;go_wp2_with fail;refine HN.out.mono ?_;rintro e w5 ⟨rfl,hb5⟩;have h5:=h4.below hb5;have hb05:=hb04.next hb5;have hr5:Rd w5 w5.heap.size 1 A raw.length (bc raw):=(hr.below hb05).more hb05.size;have HP:=qI (Zdd A raw c w5 hr5 (by omega) hc);go_wp2_with fail;refine HP.out.mono ?_;rintro e w6 ⟨b6,A6,c6,hb6e,rfl,ho6,hb6,hc6,hcm6⟩;have h6:=h5.below hb6;have hb06:=hb05.next hb6;have hpl:b6.length≤2621449:=by rw [hb6e.out];exact Z4l HO.out
    have hF:Far w6 0 A6 b6:=Far.of_seg (Seg.of_own ho6);have hns:(Zd id).size=66:=by rw [Z0q,h32]
    have HSv:=Zbc h6 hK (Zd id) (by omega) A6 b6 c6 (by omega) hsl (by omega) 0 hF hc6 hcm6 (zL _) (zL _) (zL _);rw [hb6e.out,hidO.out] at HSv;obtain ⟨s,hs⟩: ∃s,s=ZP D (Zd (idO raw)) (Zp raw):=⟨_,rfl⟩;have hr3:Hid (r=if s.1≠0 then (.error s.1,s.2) else (.ok id,s.2)):=by
     unfold Hid;rw [hr2.out,hidO.out,hs]
     rfl
    rw [←hs,←hidO.out,←hb6e.out] at HSv;have HSV:=qI HSv;clear HSv hs hb6e;go_wp2_with fail;refine HSV.out.mono ?_;rintro e w7 ⟨rfl,h7,ht7⟩;obtain ⟨s1,s2⟩:=s
    by_cases hs0:s1=0
    ·have hr4:Hid (r=(.ok id,s2)):=by unfold Hid;rw [hr3.out,if_neg (by simpa using hs0)]
     subst hs0;go_wp2_with fail;go_ret2;rw [hr4.out];exact ⟨rfl,h7,(Tw.below hb06).step ht7⟩
    ·have hr4:Hid (r=(.error s1,s2)):=by unfold Hid;rw [hr3.out,if_pos hs0]
     have q1:(s1 !=0)=true:=bne_iff_ne.2 hs0;have q2:(s1==0)=false:=beq_eq_false_iff_ne.2 hs0;clear hs0;go_wp2_with fail;go_ret2;rw [hr4.out];exact ⟨rfl,h7,(Tw.below hb06).step ht7⟩
end
end Go.Proofs.YtecpbcmpncgokaaGreat
set_option maxRecDepth 100000
set_option maxHeartbeats 1600000
set_option linter.unusedVariables false
namespace Go.Proofs.YtecpbcmpncgokaaGreat
open Go.RowKit Go.Dol
theorem Zbx (w:World) (g m:Nat) (n:BA) (b:LU) (A:OA) (c:Nat) (k1:w.cell? ⟨g,1,none⟩=some (.map (some m))) (hf:(Instr.lookup 140 (.map (some m)) (.string n) true).run Tryz.prog w= .ok (.tuple #[.slice A b.length c,.bool true]) w)
  (hn:n.size≤140737488355328) (hb:b.length≤140737488355328):
  Calls Tryz.prog 105 #[.pointer (some ⟨g,0,none⟩),.string n] w fun e w'=>e= .returned (.int .i64 (16+(n.size:Int)+(b.length:Int)))∧w'=w:=by
 have f1:IntKind.i64.wrap (16+(n.size:Int))=16+(n.size:Int):=qJ _ (by omega);have f2:IntKind.i64.wrap (16+(n.size:Int)+(b.length:Int))=16+(n.size:Int)+(b.length:Int):=qJ _ (by omega);go_in;go_wp2_with fail;go_ret;exact ⟨rfl,rfl⟩
def memD (cap:Int) (l:List Fil):Dk:=⟨cap,l,0,-1,false⟩
def Zgs (cap:Int) (fs:List FilA) (g m:Nat) (w:World) (i:Value) (wr:World):Prop:=
 ∃(k:Nat) (l:List Fil),i= .int .i64 k∧k≤fs.length∧Hid (ZJ [] ((fs.take k).map FilA.f)=some l)∧Dsk wr g m (memD cap l)∧Below w.heap.size w wr
def ZeW (w:World) (r:Option Dk×Int) (e:Ending) (w':World):Prop:=
 match r.1 with
 | none=>e= .returned (.tuple #[.pointer none,.int .i64 r.2])∧Below w.heap.size w w'
 | some D=> ∃g m,e= .returned (.tuple #[.pointer (some ⟨g,0,none⟩),.int .i64 r.2])∧Dsk w' g m D∧w.heap.size≤g∧w.heap.size≤m∧Below w.heap.size w w'
theorem Za5 (cap:Int) (A:OA) (fs:List FilA) (n c:Nat) (hn:n=fs.length) (w:World) (hr:Rd w w.heap.size 2 A n (fc fs)) (hR:Fls8 w w.heap.size fs) (hcap: -9223372036854775808≤cap∧cap≤9223372036854775807) (hnl:fs.length≤140737488355328) (hsm: ∀x∈fs,x.n.size≤140737488355328∧x.b.length≤140737488355328):
  Calls Tryz.prog 66 #[.int .i64 cap,.slice A n c] w (ZeW w (Z1o cap (fs.map FilA.f))):=by
 have HN:=qI hn;clear hn
 by_cases hc:cap<0∨1099511627776<cap
 ·have HF:Hid (Z1o cap (fs.map FilA.f)=(none,1)):=if_pos hc
  go_in;go_wp2_with ((go_at_call 38;refine (Za8 cap _ hc).mono ?_;rintro e w1 ⟨rfl,hw1⟩;obtain rfl:=hw1.symm));go_ret2;rw [HF.out];exact ⟨rfl,bR _ _⟩
 ·have hc1:0≤cap:=by omega
  have hc2:cap≤1099511627776:=by omega
  have HF:Hid (Z1o cap (fs.map FilA.f)=match ZJ [] (fs.map FilA.f) with | none=>(none,1) | some m=>if frD ⟨cap,m,0,-1,false⟩<0 then (none,4) else (some ⟨cap,m,0,-1,false⟩,0)):=if_neg hc;go_in;go_wp2_with ((go_at_call 38;refine (Z75 cap _ hc1 hc2).mono ?_;rintro e w1 ⟨g,m,rfl,hD1,hg1,hm1,hb1⟩));obtain ⟨W0,hW0⟩: ∃W0,W0=w1:=⟨_,rfl⟩;rw [←hW0] at hD1 hb1 ⊢;clear hW0;go_loopw [20] (fun i wr=>Zgs cap fs g m w i wr) (fun i _=>fs.length-(intOf i).toNat)
  case atStart=>exact ⟨0,[],rfl,zL _,rfl,hD1,hb1⟩
  case round=>
   clear hD1 hb1;obtain ⟨k,l,rfl,hk,hl,hD,hb⟩:=hrel;have hkn:k≤n:=by rw [HN.out];exact hk
   have hlen47:k≤140737488355328:=by omega
   have hgl:=hD.lt;have hO:InOrder l:=Z3L hl.out List.Pairwise.nil
   by_cases hlt:k<n
   ·have hd:decide ((k:Int)<(n:Int))=true:=dT (by omega)
    have hlt2:k<fs.length:=by rw [←HN.out];exact hlt
    obtain ⟨x,hx⟩: ∃x,fs[k]?=some x:=⟨fs[k],gE hlt2⟩;obtain ⟨x1,x2⟩:=Z0X hx;have hxm:=List.mem_of_getElem? hx;have hrw:=hr.belowW hb (lR _);obtain ⟨bb,off,rfl,hbb,hcell⟩:=hrw.at_ (by omega);have q0:wr.cell? ⟨bb,off+k*2,none⟩=_:=hcell _ _ x1;have q1:wr.cell? ⟨bb,off+k*2+1,none⟩=_:=hcell _ _ x2;have hxf:=(hR x hxm).1.below hb;have hxs:=hsm x hxm;have hnext:(fs.take (k+1)).map FilA.f=(fs.take k).map FilA.f++[x.f]:=by rw [List.take_add_one,hx];simp
    have hall:fs.map FilA.f=(fs.take (k+1)).map FilA.f++(fs.drop (k+1)).map FilA.f:=by rw [←List.map_append,List.take_append_drop]
    obtain ⟨xn,xb,xA,xc⟩:=x;change (fs.take (k+1)).map FilA.f=(fs.take k).map FilA.f++[(xn,xb)] at hnext;have hsn:ZJ [] ((fs.take k).map FilA.f++[(xn,xb)])=if Z8 xn=false∨(Z4 l xn).isSome=true then none else some (putF l xn xb):=Z7e hl.out (xn,xb)
    rw [←hnext] at hsn;simp only at q0 q1 hxf hxs;have hxn:xn.size≤140737488355328:=by omega
    have hxb:xb.length≤140737488355328:=by omega
    have HS:=qI hsn;have HA:=qI hall;have HX:=qI hnext;clear hx x1 x2 hcell hrw hsn hall hnext hxm hr;have hF1:=Blk.new wr 107 [.string xn,.slice xA xb.length xc];have hb1:=(bR wr.heap.size wr).alloc (lR _) (.cells #[.string xn,.slice xA xb.length xc] 107);have hb2:=hb1.alloc hb1.size (.cells #[.string xn] 9);have hF2:=hF1.alloc (.cells #[.string xn] 9);have hr2:Rd ((wr.alloc (.cells #[.string xn,.slice xA xb.length xc] 107)).alloc (.cells #[.string xn] 9)) (wr.heap.size+1+1) 1 (some ⟨wr.heap.size+1,0,none⟩) [xn].length (sc [xn]):=by
     have:=Rd.new1 (wr.alloc (.cells #[.string xn,.slice xA xb.length xc] 107)) 9 (.string xn);rw [World.size_alloc] at this;exact this
    obtain ⟨W2,hW2⟩: ∃W2,W2=(wr.alloc (.cells #[.string xn,.slice xA xb.length xc] 107)).alloc (.cells #[.string xn] 9):=⟨_,rfl⟩;change Blk ((wr.alloc (.cells #[.string xn,.slice xA xb.length xc] 107)).alloc (.cells #[.string xn] 9)) _ _ _ at hF2;rw [←hW2] at hb2 hF2 hr2;have hD2:=hD.below hb2;have hf2:=hxf.below hb2;have p0:W2.cell? ⟨wr.heap.size,0,none⟩=some (.string xn):=by rw [hF2.cell];rfl
    have p1:W2.cell? ⟨wr.heap.size,1,none⟩=some (.slice xA xb.length xc):=by rw [hF2.cell];rfl
    have hw2:=hb.next hb2;have hnm:=Z0G _ _ [xn] 1 W2 hr2 (by simp);have hHa:=Z19 hD2 hO xn (by unfold maxLen;omega);obtain ⟨is,his⟩: ∃is,is=(Z4 l xn).isSome:=⟨_,rfl⟩;change Calls _ _ _ _ (fun e w'=>e= .returned (.bool (Z4 l xn).isSome)∧w'=W2) at hHa;rw [←his] at hHa;have eB:[xn].all Z8=Z8 xn:=by simp
    rw [eB] at hnm;clear eB hF1 hb1
    cases hB:Z8 xn with
    | false=>
     have HE:Hid (ZJ [] (fs.map FilA.f)=none):=by
      unfold Hid;rw [HA.out];refine Z3a ?_;rw [HS.out,if_pos (.inl hB)]
     rw [hB] at hnm;have HNM:=qI hnm;clear hnm hB;go_wp2_with fail;rw [←hW2];clear hW2;refine HNM.out.mono ?_;rintro e w3 ⟨rfl,hw3⟩;obtain rfl:=hw3.symm;go_wp2_with fail;go_ret2;rw [HF.out,HE.out];exact ⟨rfl,hw2⟩
    | true=>
     rw [hB] at hnm
     cases is with
     | true=>
      have HE:Hid (ZJ [] (fs.map FilA.f)=none):=by
       unfold Hid;rw [HA.out];refine Z3a ?_;rw [HS.out,if_pos (.inr his.symm)]
      have HNM:=qI hnm;have HHA:=qI hHa;clear hnm hHa hB his;go_wp2_with fail;rw [←hW2];clear hW2;refine HNM.out.mono ?_;rintro e w3 ⟨rfl,hw3⟩;obtain rfl:=hw3.symm;go_wp2_with fail;refine HHA.out.mono ?_;rintro e w3 ⟨rfl,hw3⟩;obtain rfl:=hw3.symm;go_wp2_with fail;go_ret2;rw [HF.out,HE.out];exact ⟨rfl,hw2⟩
     | false=>
      have HE:Hid (ZJ [] ((fs.take (k+1)).map FilA.f)=some (putF l xn xb)):=by
       unfold Hid;rw [HS.out,if_neg];rintro (h | h)
       ·rw [hB] at h;cases h
       ·rw [←his] at h;cases h
      have HNM:=qI hnm;have HHA:=qI hHa;have hlk:Z4 l xn=none:=by cases h:Z4 l xn with | none=>rfl | some d=>rw [h] at his;cases his
      have HLK:=qI hlk;clear hnm hHa hB his hlk;go_wp2_with fail;rw [←hW2];clear hW2;refine HNM.out.mono ?_;rintro e w3 ⟨rfl,hw3⟩;obtain rfl:=hw3.symm;go_wp2_with fail;refine HHA.out.mono ?_;rintro e w3 ⟨rfl,hw3⟩;obtain rfl:=hw3.symm;go_wp2_with fail;obtain ⟨al,hBd,hM,hFl⟩:=id hD2;obtain ⟨kl,hkl⟩:=Z4f xn (by unfold maxLen;omega);have r0:W2.cell? ⟨g,1,none⟩=some (.map (some m)):=by rw [hBd.cell];rfl
      have hCl:=Z35 W2.heap.size xA xb xb.length xc rfl W2.drew hf2.1.drew hxb;have HCl:=qI hCl;have hgl2:=hBd.lt;have hml2:=hM.lt;have hgm:=hM.blk_ne hBd;have hsz2:=hb2.size;have hxl:wr.heap.size<W2.heap.size:=hF2.lt;clear hCl
      go_region_held3 (fun w'=>w'.cell? ⟨g,1,none⟩=some (.map (some m))∧w'.cell? ⟨wr.heap.size,0,none⟩=some (.string xn)∧w'.cell? ⟨wr.heap.size,1,none⟩=some (.slice xA xb.length xc))
       (first | exact ⟨u1,u2,u3⟩ | exact ⟨v1,v2,v3⟩ | go_keep) ((first
        | (go_at_call 93;(with_reducible refine HCl.out.mono ?_);rintro e w3 ⟨l',A',c',he,rfl,ho3,hb3,_,_⟩;
                    have hb3':Below W2.heap.size W2 w3:=((bR W2.heap.size W2).drew).trans hb3;have v1:w3.cell? ⟨g,1,none⟩=some (.map (some m)):=(hb3'.cell (p:=⟨g,1,none⟩) hgl2).trans r0;have v2:w3.cell? ⟨wr.heap.size,0,none⟩=some (.string xn):=(hb3'.cell (p:=⟨wr.heap.size,0,none⟩) hxl).trans p0;have v3:w3.cell? ⟨wr.heap.size,1,none⟩=some (.slice xA xb.length xc):=(hb3'.cell (p:=⟨wr.heap.size,1,none⟩) hxl).trans p1;have hM3:=hM.belowW hb3';have hw3s:=hb3'.size;obtain ⟨al',w4,hrun,hM4,hp4,hg4⟩:=hM3.update Z4e Tryz.underlying140 hkl (.slice A' l'.length c');have u1:w4.cell? ⟨g,1,none⟩=some (.map (some m)):=(World.cell?_of_block (hg4.block g (by omega) (fun e=>by injection e with e;exact hgm e))).trans v1;have u2:w4.cell? ⟨wr.heap.size,0,none⟩=some (.string xn):=(World.cell?_of_block (hg4.block wr.heap.size (by omega) (fun e=>by injection e with e;omega))).trans v2;
                    have u3:w4.cell? ⟨wr.heap.size,1,none⟩=some (.slice xA xb.length xc):=(World.cell?_of_block (hg4.block wr.heap.size (by omega) (fun e=>by injection e with e;omega))).trans v3)))
      go_wp2_with fail;have hb3':Below W2.heap.size W2 w3:=((bR W2.heap.size W2).drew).trans hb3;have hM3:=hM.belowW hb3';have hB4:Blk w4 g 145 (Z5K cap m (frD (memD cap l)) 0 (-1) false):=(hBd.below hb3' hgl2).grown hg4 (fun e=>by injection e with e;exact hgm e);have hv4:Byt w4 (.slice A' l'.length c') xb:=by
       have h5:=Byt.own ho3;rw [he.out] at h5 ⊢;exact h5.keep hg4 (Other.map hM3)
      have hF4:Fls w4 al' (putF l xn xb):=((hFl.below hb3').keep hg4 (Other.map hM3)).put hO hp4 hv4;have hT4:Tw W2 w4 g m:=(Tw.below hb3').step (Tw.grownM hg4);have hsz4:=hT4.size;have hfr:IntKind.i64.wrap (frD (memD cap l)-(16+(xn.size:Int)+(xb.length:Int)))=frD (memD cap (putF l xn xb)):=by
       refine (Z2O (D:=memD cap l) (D':=memD cap (putF l xn xb)) rfl ?_).symm;show Zo (putF l xn xb)=Zo l+_
       rw [Z1z hO,HLK.out]
      obtain ⟨A5,c5,hlk5⟩: ∃A5 c5,(Instr.lookup 140 (.map (some m)) (.string xn) true).run Tryz.prog w4.drew= .ok (.tuple #[.slice A5 xb.length c5,.bool true]) w4.drew:=by
       have hlp:Z4 (putF l xn xb) xn=some xb:=by rw [Z0i hO,if_pos rfl]
       rcases Za4 hM4 hF4 (Z0g hO) xn (by unfold maxLen;omega) with ⟨hl,_⟩ | ⟨b',A5,c5,hl,_,_,_,hf,_⟩
       ·rw [hl.out] at hlp;cases hlp
       ·have eb:b'=xb:=by
         have:=hl.out;rw [hlp] at this;injection this with this
         exact this.symm
        subst eb;exact ⟨A5,c5,hf _ rfl⟩
      obtain ⟨W5,hW5⟩: ∃W5,W5=w4.drew:=⟨_,rfl⟩;rw [←hW5] at hlk5;have r0':W5.cell? ⟨g,1,none⟩=some (.map (some m)):=by rw [hW5];exact u1
      have r1':W5.cell? ⟨wr.heap.size,0,none⟩=some (.string xn):=by rw [hW5];exact u2
      have hB5:Blk W5 g 145 (Z5K cap m (frD (memD cap l)) 0 (-1) false):=by rw [hW5];exact hB4.drew
      have hM5:MapL Tryz.prog 9 W5 m al':=by rw [hW5];exact hM4.drew
      have hF5:Fls W5 al' (putF l xn xb):=by rw [hW5];exact hF4.below ⟨rfl,rfl,rfl,lR _,fun _ _=>rfl⟩
      have hT5:Tw W2 W5 g m:=by rw [hW5];exact hT4.drew
      have r2':W5.cell? ⟨g,2,none⟩=some (.int .i64 (frD (memD cap l))):=by rw [hB5.cell];rfl
      have z2':=hB5.free 2;have hco5:=Zbx W5 g m xn xb A5 c5 r0' hlk5 hxn hxb;obtain ⟨fr,hfr0⟩: ∃fr,fr=frD (memD cap l):=⟨_,rfl⟩;rw [←hfr0] at hfr r2' hB5;have HFR:=qI hfr0;obtain ⟨fr2,hfr2⟩: ∃fr2,fr2=frD (memD cap (putF l xn xb)):=⟨_,rfl⟩;rw [←hfr2] at hfr;have HFR2:=qI hfr2;have HCO:=qI hco5;have hDn:Dsk (W5.setCell ⟨g,2,none⟩ (.int .i64 fr2)) g m (memD cap (putF l xn xb)):=by
       have hg5:W5.grownBy (W5.setCell ⟨g,2,none⟩ (.int .i64 fr2)) (some g):=Z0 (gR W5 _) 2 _;refine ⟨al',?_,hM5.grown hg5 (fun e=>by injection e with e;exact hgm e.symm),hF5.keep hg5 (Other.blk hB5 (by decide) (zL _))⟩;rw [←HFR2.out];exact hB5.set 2 _
      have hBn:Below w.heap.size w (W5.setCell ⟨g,2,none⟩ (.int .i64 fr2)):=by
       have hg5:W5.grownBy (W5.setCell ⟨g,2,none⟩ (.int .i64 fr2)) (some g):=Z0 (gR W5 _) 2 _;exact Tw.new hw2 (hT5.step (Tw.grown hg5)) hg1 hm1
      clear hfr0 hfr2 hco5 u1 u2 u3 v1 v2 v3 hrun p0 p1 r0 hB4 hF4 hM4 hF5 hM5 hB5 hT4 hT5 hv4;refine wp_region_still_tail 11 (by kernel_rfl) (by kernel_rfl) ?_;change wpStill _ _ (World.drew w4) (fun a'=>wpList _ _ _ _ a' (World.drew w4)) _ _;rw [←hW5];clear hW5;simp only [List.take_succ_cons,List.take_zero,List.drop_succ_cons,List.drop_zero]
      repeat still_step
      still_call HCO.out
      repeat still_step
      refine wpStill_nil ?_;go_wp2_with fail;refine ⟨⟨k+1,putF l xn xb,by go_num,by omega,HE,hDn,hBn⟩,by simp [intOf];omega⟩
   ·have hd:decide ((k:Int)<(n:Int))=false:=qF (by omega)
    have hE:ZJ [] (fs.map FilA.f)=some l:=by
     have h1:=hl.out;rw [List.take_of_length_le (by rw [←HN.out];omega)] at h1;exact h1
    obtain ⟨_,_,r2,_⟩:=hD.cells;obtain ⟨fr,hfr⟩: ∃fr,fr=frD (memD cap l):=⟨_,rfl⟩;rw [←hfr] at r2;have HE:=qI hE;have HFR:=qI hfr;have HF2:Hid (Z1o cap (fs.map FilA.f)=if fr<0 then (none,4) else (some (memD cap l),0)):=by
     unfold Hid;rw [HF.out,HE.out,HFR.out]
     rfl
    clear hE hfr HF
    by_cases hneg:fr<0
    ·have d1:decide (fr<0)=true:=dT hneg
     have HF3:Hid (Z1o cap (fs.map FilA.f)=(none,4)):=by unfold Hid;rw [HF2.out,if_pos hneg]
     clear hneg;go_wp2_with fail;go_ret2;rw [HF3.out];exact ⟨rfl,hb⟩
    ·have d1:decide (fr<0)=false:=qF hneg
     have HF3:Hid (Z1o cap (fs.map FilA.f)=(some (memD cap l),0)):=by unfold Hid;rw [HF2.out,if_neg hneg]
     clear hneg;go_wp2_with fail;go_ret2;rw [HF3.out];exact ⟨g,m,rfl,hD,hg1,hm1,hb⟩
end Go.Proofs.YtecpbcmpncgokaaGreat
set_option linter.unusedVariables false
namespace Go.Proofs.YtecpbcmpncgokaaGreat
open Go.RowKit Go.Dol
theorem Za6:(Tryz.prog.info? 107).map (fun i=>(i.zero,i.size,i.bytes))=some (some (.agg #[.string ⟨#[]⟩,.slice none 0 0]),2,40):=by kernel_rfl
theorem appG {w:World} {ops:Array Oper} {rest:List Oper} {o:Oper} {a:Act} {Q:Exit→Act→World→Prop} (hgd:o.guard=none) (s x:Operand)
  (ho:o.op= .call { callee:=.builtin .append,args:=#[s,x],argTypes:=#[57,57] })
  (base:Nat) (v:Value) (xs:List FilA) (n:Nat) (hn:n=xs.length) (hs:a.eval s=v) (hown:w.ownsRow base 107 2 v n (fc xs))
  (B:Nat) (A:OA) (m c:Nat) (news:List FilA) (hx:a.eval x= .slice A m c) (hm:m=news.length) (hr:Rd w B 2 A m (fc news))
  (hlen:n+m≤3518437208883) (hbase:base≤w.heap.size)
  (h: ∀(ys:List FilA) (A':OA) (c':Nat) (w':World),Hid (ys=xs++news)→w'.ownsRow base 107 2 (.slice A' ys.length c') ys.length (fc ys)→Below base w w'→w.grownBy w' v.ownBlock→
   wpList Tryz.prog ops Q rest (a.put o.dst (.slice A' ys.length c')) w'):wpList Tryz.prog ops Q (o::rest) a w:=by
 refine Z0m w hgd s x _ ho base _ _ 2 40 Tryz.underlying57 Za6 rfl (by decide) v n (fc xs) hs hown B A m c (fc news) hx hr (Z7d _) (by unfold maxLen;omega) (by omega) hbase ?_;intro A' c' w' h1 h2 h3 h4 h5;have e:n+m=(xs++news).length:=by rw [List.length_append];omega
 rw [←Z2S,e] at h1;rw [e];exact h _ A' c' w' rfl h1 ((bR _ _).grown h2 hbase (fun k hk=>(hown.lt k hk).1)) h2
def ZeX (w:World) (L:List Fil) (e:Ending) (w':World):Prop:=
 ∃(fs:List FilA) (A:OA) (c:Nat),Hid (fs.map FilA.f=L)∧e= .returned (.slice A fs.length c)∧w'.ownsRow w.heap.size 107 2 (.slice A fs.length c) fs.length (fc fs)∧Fls8 w' 0 fs∧Below w.heap.size w w'
def Zgt (D:Dk) (B:Nat) (w:World) (q i:Value) (wr:World):Prop:=
 ∃(k:Nat) (fs:List FilA) (A:OA) (c:Nat),q= .slice A fs.length c∧i= .int .i64 k∧k≤D.l.length∧Hid (fs.map FilA.f=D.l.take k)∧fs.length=k∧wr.ownsRow w.heap.size 107 2 (.slice A fs.length c) fs.length (fc fs)∧Fls8 wr B fs∧Below w.heap.size w wr
section
variable {w:World} {g m:Nat} {D:Dk}
set_option maxRecDepth 100000 in
set_option maxHeartbeats 1600000 in
theorem Za7 (h:Dsk w g m D) (hK:OkL D):Calls Tryz.prog 34 #[.pointer (some ⟨g,0,none⟩)] w (ZeX w D.l):=by
 have HNm:=qI (Z5c h hK);have hlen:=hK.len;have hO:=hK.ord;go_in;go_wp2_with ((go_at_call 59;refine HNm.out.mono ?_;rintro e w1 ⟨A0,c0,rfl,ho1,hb1⟩));have hD1:=h.below hb1;have hgl:=hD1.lt;have hs1:=hb1.size;have hrn:=Rd.of_own ho1;go_loopw [3,9] (fun q i wr=>Zgt D 0 w1 q i wr) (fun _ i _=>D.l.length-(intOf i).toNat)
 case atStart=>exact ⟨0,[],none,0,rfl,rfl,zL _,by simp [Hid],rfl,World.ownsRow_nil _ _ _ _,fun x hx=>(List.not_mem_nil hx).elim,bR _ _⟩
 case round=>
  obtain ⟨k,fs,A,c,rfl,rfl,hk,hf,hfl,ho,hF,hb⟩:=hrel;have hs:=hb.size
  by_cases hlt:k<D.l.length
  ·have hd:decide ((k:Int)<(D.l.length:Int))=true:=dT (by omega)
   have hd':(k:Int)<(D.l.length:Int):=by omega
   have hk0:(0:Int)≤(k:Int):=by omega
   obtain ⟨x,hx⟩: ∃x,D.l[k]?=some x:=⟨D.l[k],gE hlt⟩;have hxm:=List.mem_of_getElem? hx;have hls:Z4 D.l x.1=some x.2:=(Zu hO).2 hxm;have hxn:x.1.size≤140737488355328:=by have h1:=hK.names x hxm;unfold Z8 at h1;simp only [Bool.and_eq_true,decide_eq_true_eq] at h1;omega
   have hxb:=hK.small x hxm;have hsn:(sc (D.l.map Prod.fst))[k]?=some (.string x.1):=by simp [sc,hx]
   have hnext:D.l.take (k+1)=D.l.take k++[x]:=by rw [List.take_add_one,hx];rfl
   have hrw:=hrn.belowW hb (lR _);obtain ⟨bb,off,rfl,hbb,hcell⟩:=hrw.at_ (by omega);have q0:wr.cell? ⟨bb,off+k,none⟩=some (.string x.1):=hcell _ _ hsn;have hDr:=hD1.below hb;obtain ⟨k0,k1,k2,k3,k4,k5⟩:=hDr.cells;have hfind:=hDr.find hO x.1 (by unfold maxLen;omega);obtain ⟨n,b⟩:=x;simp only at hls hxn hxb q0 hfind;rcases hfind with ⟨h0,_,_⟩ | ⟨b',Ab,cb,hlb,hFb,hcb,hcbm,_,hlk⟩
   ·exfalso
    have e0:=h0.out;rw [hls] at e0;cases e0
   ·have hbe:b'=b:=by
     have e0:=hlb.out;rw [hls] at e0;injection e0 with e0
     exact e0.symm
    subst hbe;have hlk1:=hlk wr rfl;have HCl:=qI (Z35 _ Ab b' b'.length cb rfl wr hFb.1 hxb);have HX:=qI hnext;have HL:=qI hfl;have hfk:fs.length≤3518437208880:=by omega
    have f1:IntKind.i64.wrap ((k:Int)+1)=(k:Int)+1:=qJ _ (by omega);clear hlk hx hxm hls hsn hnext hcell hrw hfl hrn hlb
    go_wp2_with (first
     | (go_at_call 93;refine HCl.out.mono ?_;rintro e w2 ⟨l',A',c',he,rfl,ho2,hb2,hl2,hc2⟩)
     | (at_builtin;refine appG rfl (.tmp 13) (.tmp 23) rfl w1.heap.size _ fs fs.length rfl rfl (World.ownsRow.alloc (Zh ho hb2) _) (w2.heap.size+1) _ 1 1 [⟨n,l',A',c'⟩] rfl rfl (Rd.fileT w2 107 ⟨n,l',A',c'⟩) (by omega) (by have:=hb2.size;simp only [World.size_alloc];omega) ?_;intro ys A3 c3 w3 he3 ho3 hb3 hg3))
    have hs2:=hb2.size;have hF2:Fls8 (w2.alloc (.cells #[.string n,.slice A' l'.length c'] 107)) 0 (fs++[⟨n,l',A',c'⟩]):=by
     have hbl:Below w2.heap.size w2 (w2.alloc (.cells #[.string n,.slice A' l'.length c'] 107)):=(bR _ _).alloc (lR _) _;intro y hy;rcases List.mem_append.1 hy with hy | hy
     ·exact ((hF.below hb2).below hbl) y hy
     ·rw [List.mem_singleton.1 hy]
      exact ⟨(Far.of_seg (Seg.of_own ho2)).below hbl,hl2,hc2⟩
    have hF3:=hF2.keep hg3 (Other.own (World.ownsRow.alloc (Zh ho hb2) _) (by decide) (zL _));have hyl:ys.length=k+1:=by rw [he3.out,List.length_append,HL.out];rfl
    go_wp2_with fail;refine ⟨⟨k+1,ys,A3,c3,rfl,by go_num,by omega,?_,hyl,ho3,?_,(hb.trans ((hb2.mono hs).trans (((bR _ _).alloc (by omega) _).trans hb3)))⟩,by simp [intOf];omega⟩
    ·unfold Hid
     rw [he3.out,List.map_append,hf.out,HX.out,←he.out]
     rfl
    ·rw [he3.out]
     exact hF3
  ·have hd:decide ((k:Int)<(D.l.length:Int))=false:=qF (by omega)
   have hkl:k=D.l.length:=by omega
   have hall:fs.map FilA.f=D.l:=by rw [hf.out,hkl,List.take_length]
   have HA:=qI hall;clear hall hkl;go_wp2_with fail;go_ret;exact ⟨fs,A,c,HA,rfl,World.ownsRow.mono ho hs1,hF,hb1.next hb⟩
end
end Go.Proofs.YtecpbcmpncgokaaGreat
set_option maxRecDepth 100000
set_option maxHeartbeats 800000
set_option linter.unusedVariables false
namespace Go.Proofs.YtecpbcmpncgokaaGreat
open Go.RowKit Go.Dol
def Unm (w:World) (p:OA):Prop:=∀ W,Below w.heap.size w W→Calls Tryz.prog 88 #[.pointer p] W fun e w'=>e= .returned (.bool false)∧w'=W
theorem Unm.nil (w:World):Unm w none:=fun W _=>Z82 W
section
variable {w:World} {p:OA}
theorem Unm.now (h:Unm w p):Calls Tryz.prog 88 #[.pointer p] w fun e w'=>e= .returned (.bool false)∧w'=w:=h w (bR _ _)
theorem Zan (h:Unm w p) (n:BA):Calls Tryz.prog 40 #[.pointer p,.string n] w fun e w'=>e= .returned (.tuple #[.slice none 0 0,.int .i64 1])∧w'=w:=by
 have HM:=qI h.now;go_in;go_wp2_with (go_at_call 88;refine HM.out.mono ?_;rintro e w' ⟨rfl,hw'⟩;obtain rfl:=hw'.symm);go_ret2;exact ⟨rfl,rfl⟩
theorem Z9k (h:Unm w p):Calls Tryz.prog 59 #[.pointer p] w fun e w'=>e= .returned (.slice none 0 0)∧w'=w:=by
 have HM:=qI h.now;go_in;go_wp2_with (go_at_call 88;refine HM.out.mono ?_;rintro e w' ⟨rfl,hw'⟩;obtain rfl:=hw'.symm);go_ret;exact ⟨rfl,rfl⟩
end
end Go.Proofs.YtecpbcmpncgokaaGreat
set_option linter.unusedVariables false
namespace Go.Proofs.YtecpbcmpncgokaaGreat
open Go.RowKit Go.Dol
section
variable {w:World}
theorem Z3e (id:BA) (w:World):Calls Tryz.prog 97 #[.pointer none,.string id] w fun e w'=>e= .returned (.bool false)∧w'=w:=by
 have HR:=qI (Zan (Unm.nil w) ⟨#[111,47]⟩);go_in;go_wp2_with fail;refine HR.out.mono ?_;rintro e w1 ⟨rfl,hw⟩;obtain rfl:=hw.symm;go_wp2_with fail;go_ret;exact ⟨rfl,rfl⟩
theorem Z7k (id:BA) (w:World):Calls Tryz.prog 44 #[.pointer none,.string id] w fun e w'=>e= .returned (.tuple #[.slice none 0 0,.int .i64 1])∧w'=w:=by
 have HR:=qI (Z3e id w);go_in;go_wp2_with fail;refine HR.out.mono ?_;rintro e w1 ⟨rfl,hw⟩;obtain rfl:=hw.symm;go_wp2_with fail;go_ret2;exact ⟨rfl,rfl⟩
theorem Z6k (id:BA) (w:World):Calls Tryz.prog 47 #[.pointer none,.string id] w fun e w'=>e= .returned (.int .i64 1)∧w'=w:=by
 have HR:=qI (Z3e id w);go_in;go_wp2_with fail;refine HR.out.mono ?_;rintro e w1 ⟨rfl,hw⟩;obtain rfl:=hw.symm;go_wp2_with fail;go_ret;exact ⟨rfl,rfl⟩
set_option maxRecDepth 100000 in
set_option maxHeartbeats 800000 in
theorem Z7l (A:OA) (raw:LU) (c:Nat) (hr:Rd w w.heap.size 1 A raw.length (bc raw)) (hc:raw.length≤c) (hcm:c≤maxLen) (hl:raw.length≤140737488351232):
  Calls Tryz.prog 39 #[.pointer none,.slice A raw.length c] w fun e w'=>e= .returned (.tuple #[.string ⟨#[]⟩,.int .i64 1])∧Below w.heap.size w w':=by
 have HS:=qI (Z3b A raw c w hr (by omega));go_in;go_wp2_with fail;refine HS.out.mono ?_;rintro e w1 ⟨rfl,hb1⟩;have hr1:Rd w1 w1.heap.size 1 A raw.length (bc raw):=(hr.below hb1).more hb1.size;have hD:=Z3m A raw c w1 hr1 hc hcm hl
 cases hdec:decO geS raw with
 | none=>
  rw [hdec] at hD;have HD:=qI hD;clear hD hdec;go_wp2_with fail;refine HD.out.mono ?_;rintro e w2 ⟨rfl,hb2⟩;go_wp2_with fail;go_ret2;exact ⟨rfl,(hb1.next hb2).alloc (hb1.next hb2).size _⟩
 | some o=>
  rw [hdec] at hD;have HD:=qI hD;clear hD hdec;go_wp2_with fail;refine HD.out.mono ?_;rintro e w2 ⟨k,Ad,d,cd,Ae,en,ce,tr,Ap,pa,cp,ta,na,wh,st,te,ho,rfl,_,_,_,hb2,_,_,_⟩;clear ho;have HR:=qI (Z3e (idO raw) (w2.alloc (.cells #[.int .i64 k,.slice Ad d.length cd,.slice Ae en.length ce,.string tr,.slice Ap pa.length cp,.string ta,.string na,.string wh,.int .i64 st,.string te] 40)));go_wp2_with fail;refine HR.out.mono ?_;rintro e w3 ⟨rfl,hw⟩;obtain rfl:=hw.symm;go_wp2_with fail;go_ret2;exact ⟨rfl,(hb1.next hb2).alloc (hb1.next hb2).size _⟩
end
end Go.Proofs.YtecpbcmpncgokaaGreat
set_option linter.unusedVariables false
namespace Go.Proofs.YtecpbcmpncgokaaGreat
open Go.RowKit Go.Dol
theorem ZdO (w:World) (x:Nat) (hx:w.cell? ⟨x,0,none⟩=some (.pointer none)) (hxl:x<w.heap.size):
  Z7H Fence.wide 4 Tryz.prog 183 #[.pointer (some ⟨x,0,none⟩)] Value.string 3518437208880 (fun xs=>xs=[]) w:=by
 intro l J W hW hJb hY hJ0;have hx0:W.cell? ⟨x,0,none⟩=some (.pointer none):=by rw [hW.cell (p:=⟨x,0,none⟩) hxl];exact hx
 have HN:=qI (Z9k (p:=none) (Unm.nil W));have hJ1:=qI (hJ0 none W (bR _ _) (fun k hk=>by cases hk));clear hJ0;refine callsIn_of_wp Tryz.func183 rfl trivial ?_ rfl;simp only [Tryz.ntmps183,List.size_toArray,List.length_cons,List.length_nil,Nat.reduceAdd,Nat.reduceSub,Array.replicate_succ,Array.replicate_zero,List.push_toArray,List.append_toArray,List.nil_append,List.cons_append]
 gi_wp2
 refine ⟨trivial,?_⟩;refine (callsIn_wide.2 HN.out).mono ?_;rintro e w1 ⟨rfl,hw1⟩;obtain rfl:=hw1.symm
 gi_wp2
 gi_loopw [12] (fun i wr=>i= .int .i64 0∧wr=W) (fun i _=>0)
 case atStart=>exact ⟨rfl,rfl⟩
 case round=>
  obtain ⟨rfl,hwr⟩:=hrel;obtain rfl:=hwr.symm
  gi_wp2
  go_end0;exact ⟨⟨_,rfl⟩,_,hJ1.out⟩
theorem Z6j (w:World):Calls Tryz.prog 46 #[.pointer none] w fun e w'=>(∃(A:OA) (c:Nat),e= .returned (.slice A 0 c))∧Below w.heap.size w w':=by
 have hb:Below w.heap.size w (w.alloc (.cells #[.pointer none] 25)):=(bR _ _).alloc (lR _) _;have hB:=Blk.new w 25 [.pointer none];have HI:=qI (Z8E none w);have HC:=qI (Z4z 183 #[.pointer (some ⟨w.heap.size,0,none⟩)] (enters_of Tryz.func183 (by kernel_rfl) rfl) _ 3518437208880 (lR _) _ (ZdO (w.alloc (.cells #[.pointer none] 25)) w.heap.size (by rw [hB.cell];rfl) (by simp)));go_in;go_wp2_with fail;refine HI.out.mono ?_;rintro e w1 ⟨rfl,hw1⟩;obtain rfl:=hw1.symm;go_wp2_with fail;refine HC.out.mono ?_;rintro e w2 ⟨xs,A,c,hS,rfl,ho,hb2⟩;obtain rfl:xs=[]:=hS;go_wp2_with fail;go_ret;exact ⟨⟨A,c,rfl⟩,hb.trans (hb2.mono (by simp))⟩
end Go.Proofs.YtecpbcmpncgokaaGreat
set_option linter.unusedVariables false
namespace Go.Proofs.YtecpbcmpncgokaaGreat
open Go.RowKit Go.Dol
theorem Zf7:ZB geS [2,0]=true:=by
  unfold ZB;rw [show decO geS [2,0]=some ⟨2,[],[],⟨#[]⟩,[],⟨#[]⟩,⟨#[]⟩,⟨#[]⟩,0,⟨#[]⟩⟩ by first | rfl | decide | kernel_rfl]
  rfl
theorem Z8F:Zp [2,0]=[2,2,2,0]:=by first | rfl | decide | kernel_rfl
theorem Z8G (cap:Int) (h0:0≤cap) (h1:cap≤1099511627776):CalmD (newD cap):=⟨⟨List.Pairwise.nil,h0,h1,h0,Int.le_refl (-1),(by decide:(-1:Int)≤9223372036854775807),fun f hf=>(List.not_mem_nil hf).elim⟩,rfl,rfl⟩
theorem Zf8 (cap:Int):FO (newD cap):=fun f hf=>(List.not_mem_nil hf).elim
theorem ZcQ (cap:Int) (h0:0≤cap) (h1:cap≤1099511627776):frD (newD cap)=cap:=by
  show IntKind.i64.wrap (cap-0)=cap
  rw [Int.sub_zero];exact qJ _ (by omega)
theorem ZdH (n:BA) (b:LU):Z4 [(n,b)] n=some b:=(Zu (List.pairwise_singleton ..)).2 (List.mem_singleton.2 rfl)
theorem Zf9: ∃D,putO geS (newD 1000) [2,0]=(.ok (idO [2,0]),D)∧CalmD D∧FO D∧D.l=[(Zd (idO [2,0]),[2,2,2,0])]∧getO geS D (idO [2,0])= .ok [2,0]:=by
  have h0:getO geS (newD 1000) (idO [2,0])= .error 6:=Z7j (Z2p _) rfl;rcases ZdK (Z8G 1000 (by omega) (by omega)) (Zf8 1000) Zf7 (by rw [Z8F,ZcQ 1000 (by omega) (by omega)];decide) with ⟨b,_,e,_⟩ | ⟨e,_⟩ | ⟨D,_,e,c1,c2,_,c4,_,c6,_⟩
  · rw [h0] at e
    cases e
  · rw [h0] at e
    cases e
  · refine ⟨D,e,c1,c2, ?_,c6⟩
    rw [c4,Z8F]
    rfl
set_option maxRecDepth 100000 in
set_option maxHeartbeats 3200000 in
theorem Z9j (w:World):Calls Tryz.prog 36 #[] w fun e w'=>e= .returned (.bool true)∧Below w.heap.size w w':=by
  obtain ⟨D,hp,hC,hF,hl,hg⟩:=Zf9;obtain ⟨id,hid⟩: ∃id,id=idO [2,0]:=⟨_,rfl⟩;rw [←hid] at hp hl hg;have h32:id.size=32:=by rw [hid];exact Z2p _
  have hns:(Zd id).size=66:=by rw [Z0q,h32]
  have hlk:Z4 D.l (Zd id)=some [2,2,2,0]:=by rw [hl];exact ZdH _ _
  have hrd:Zq D (Zd id)=([2,2,2,0],0):=by
    unfold Zq;rw [if_neg (by rw [(Z3d h32).1];decide),hlk]
  have hids:idsO D=[id]:=by
    unfold idsO;rw [hl];simp [Z6i h32]
  have hx:getO geS D ⟨#[120]⟩= .error 1:=by
    unfold getO;exact if_pos (by decide)
  obtain ⟨E,hdr,eC,_,_,eL,_⟩:=ZcR hC hF h32 hlk;have hE:idsO E=[]:=by
    have h1:=ZdN hC.ok.ord hlk;rw [←eL,hl] at h1;have h2:E.l=[]:=nZ (by simpa using h1);unfold idsO;rw [h2]
    rfl
  have hK:=hC.ok.toW;have eK:=eC.ok.toW;have K0:=(Z8G 1000 (by omega) (by omega)).ok.toW;clear hid hl hlk hF hC eC eL;go_in;go_wp2_with fail;refine (Z75 1000 w (by omega) (by omega)).mono ?_;rintro e w1 ⟨g,m,rfl,hD1,hg1,hm1,hb1⟩;have ha:Below w1.heap.size w1 (w1.alloc (.cells #[.int .u8 2, .int .u8 0] 5)):=(bR _ _).alloc (lR _) _;have hra:Rd (w1.alloc (.cells #[.int .u8 2, .int .u8 0] 5)) (w1.alloc (.cells #[.int .u8 2, .int .u8 0] 5)).heap.size 1 (some ⟨w1.heap.size,0,none⟩) ([2,0]:LU).length (bc [2,0]):=(Rd.new2v w1 5 (.int .u8 2) (.int .u8 0)).more (by simp);have hP:=Z7i (hD1.below ha) K0 (by decide) (some ⟨w1.heap.size,0,none⟩) [2,0] 2 hra (by decide) (by decide) (by decide);rw [hp] at hP;have HP:=qI hP;clear hP hra;go_wp2_with fail;refine HP.out.mono ?_;intro e w2 h9;obtain ⟨rfl,hD2,ht2⟩:=h9.ok;have hb2:=Tw.new (hb1.next ha) ht2 hg1 hm1;have HN:=qI (Z1C id w2 (by omega));clear HP;go_wp2_with fail;refine HN.out.mono ?_;rintro e w3 ⟨rfl,hb3⟩;have hD3:=hD2.below hb3;have hR:=ZY hD3 hK.ord (Zd id) (fun b hb=>hK.small' hb);rw [hrd] at hR;have HR:=qI hR;clear hR HN;go_wp2_with fail;refine HR.out.mono ?_;rintro e w4 ⟨b4,A4,c4,hb4e,rfl,ho4,hb4⟩;have hD4:=hD3.below hb4;have hG:=Z3c hD4 hK id (by omega);rw [hg] at hG;have HG:=qI hG;clear hG HR;go_wp2_with fail;refine HG.out.mono ?_;rintro e w5 ⟨hb5,q5,A5,c5,hq5,rfl,ho5,_,_⟩;have hD5:=hD4.below hb5;have hG:=Z3c hD5 hK ⟨#[120]⟩ (by decide);rw [hx] at hG;have HG2:=qI hG;clear hG HG;go_wp2_with fail;refine HG2.out.mono ?_;rintro e w6 ⟨hb6,hm6⟩;obtain rfl:=hm6;have hD6:=hD5.below hb6;have hb06:=(((hb2.next hb3).next hb4).next hb5).next hb6;obtain rfl:b4=[2,2,2,0]:=hb4e.out;obtain rfl:q5=[2,0]:=hq5.out;have cv4:(convert 36 9 (.slice A4 4 c4)).run Tryz.prog w6= .ok (.string ⟨#[2,2,2,0]⟩) w6:=Z0L (Rd.of_own (Zh (Zh ho4 hb5) hb6));have cv5:(convert 36 9 (.slice A5 2 c5)).run Tryz.prog w6= .ok (.string ⟨#[2,0]⟩) w6:=Z0L (Rd.of_own (Zh ho5 hb6));have HI:=qI (Z4X hD6 hK);rw [hids] at HI;clear HG2 hids
  go_wp2_with (first
    | (go_at_call 46;(with_reducible refine HI.out.mono ?_);rintro e w7 ⟨x7,A7,c7,hx7,rfl,ho7,hb7⟩
       have d7:((x7.length:Int)==1)=true:=by rw [hx7.out];rfl
       have hD7:=hD6.below hb7;have hb07:=hb06.next hb7;have hDr:=Z6h hD7 hK id (by omega);rw [hdr] at hDr
       have HDr:=qI hDr)
    | (go_at_call 47;(with_reducible refine HDr.out.mono ?_);rintro e w8 ⟨rfl,hD8,ht8⟩
       have hb08:=Tw.new hb07 ht8 hg1 hm1;have HI2:=qI (Z4X hD8 eK)
       rw [hE] at HI2)
    | (go_at_call 46;(with_reducible refine HI2.out.mono ?_);rintro e w9 ⟨x9,A9,c9,hx9,rfl,ho9,hb9⟩
       have d9:((x9.length:Int)==0)=true:=by rw [hx9.out];rfl))
  go_ret;exact ⟨rfl,hb08.next hb9⟩
end Go.Proofs.YtecpbcmpncgokaaGreat
set_option linter.unusedVariables false
namespace Go.Proofs.YtecpbcmpncgokaaGreat
open Go.RowKit Go.Dol
section
variable {w w':World} {g m gr:Nat} {D E:Dk}
theorem Rdk.tw (h:Rdk w gr E) (hD:Dsk w g m D) (ht:Tw w w' g m):Rdk w' gr E:=by
 obtain ⟨fs,A,c,hB,hO,hF,hL⟩:=h;have h1:gr≠g:=by
  rintro rfl;obtain ⟨al,hB',_⟩:=hD;unfold Blk at hB hB';rw [hB] at hB';injection hB' with e
  injection e with _ e
  exact absurd e (by decide)
 have h2:gr≠m:=by
  obtain ⟨al,_,hM,_⟩:=hD;exact hM.blk_ne hB
 exact ⟨fs,A,c,(ht.block gr hB.lt h1 h2).trans hB,Zgr hD ht hO (by decide),hF.tw hD ht,hL⟩
theorem Dsk.ref (h:Dsk w g m D) (hR:Rdk w gr E) (hg:w.grownBy w' (some gr)):Dsk w' g m D:=by
 obtain ⟨fs,A,c,hB',hO,hF',hL⟩:=hR;obtain ⟨al,hB,hM,hF⟩:=h;have h1:g≠gr:=by
  rintro rfl;unfold Blk at hB hB';rw [hB] at hB';injection hB' with e
  injection e with _ e
  exact absurd e (by decide)
 refine ⟨al,hB.grown hg (fun e=>h1 (by injection e)),hM.grown hg (fun e=>hM.blk_ne hB' (by injection e with e;exact e.symm)),hF.keep hg (Other.blk hB' (by decide) (zL _))⟩
end
end Go.Proofs.YtecpbcmpncgokaaGreat
