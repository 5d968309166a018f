/- The walks of the document's 'disk', its fifth part: a disk out of files. Conditions: at most 3,518,437,208,883 files; names and bytes together below 2^47. The walk of the law's 'both': files as the program's. Conditions: at most 3,518,437,208,883 files; names and bytes together below 2^47. The walk of the law's turning of files: theirs. Conditions: fewer than 3518437208880 files. The walk of the document's SameFiles: are two rows of files the same? Conditions: fewer than 3518437208883 files. What the document's sweep and save lean on: names, shadows. Conditions: disks in good order. append at an operation: onto a slice that the call owns and that begins anywhere in its row; onto a row, with a word on where the new one lies. Conditions: as each law names. The document's ids of loose objects. Conditions: a disk in good order. What keeps a disk in good order in the law LoosePlays. Condition -/
import Derived.Test.YtecpbcmpncgokaaGreatRefDisk
import Derived.Test.YtecpbcmpncgokaaGreatBoth
import Derived.Test.YtecpbcmpncgokaaGreatShort
import Derived.Test.YtecpbcmpncgokaaGreatWordsA
import Derived.Test.YtecpbcmpncgokaaGreatTw
import Derived.Deep.RegionHeld3
import Derived.BigQuiet
import Derived.Deep.DeepCutAuto
import Derived.Test.YtecpbcmpncgokaaGreatColl
import Derived.Test.YtecpbcmpncgokaaGreatDiskM
import Derived.Test.YtecpbcmpncgokaaGreatDisk13
import Derived.Test.YtecpbcmpncgokaaGreatSum10
import Derived.Test.YtecpbcmpncgokaaGreatHexLaw
import Derived.Test.YtecpbcmpncgokaaGreatLoo2
set_option linter.unusedVariables false
namespace Go.Proofs.YtecpbcmpncgokaaGreat
open Go.RowKit Go.Dol
theorem Z8Y {acc l m:List Fil} (h:ZJ acc l=some m):m.length≤acc.length+l.length:=by
 induction l generalizing acc with
 | nil=>
  have:acc=m:=by simpa [ZJ] using h
  subst this;simp
 | cons g q ih=>
  unfold ZJ at h;split at h
  ·cases h
  ·have h1:=ih h
   have h2:(putF acc g.1 g.2).length≤acc.length+1:=by
    have h3:=(Z2o acc g.1 g.2).length_eq;have h4:(Zi acc g.1).length≤acc.length:=by
     cases hl:Z4 acc g.1 with
     | none=>rw [Z0h hl];omega
     | some b=>have:=(Z0x hl).length_eq;simp at this;omega
    rw [h3];simp;exact h4
   simp only [List.length_cons];omega
def Zgg (cap:Int) (fs:List FilA) (g:Nat) (w:World) (i:Value) (wr:World):Prop:=
 ∃(k:Nat) (l:List Fil),i= .int .i64 k∧k≤fs.length∧Hid (ZJ [] ((fs.take k).map FilA.f)=some l)∧Rdk wr g (memD cap l)∧Below w.heap.size w wr
def Zeq (w:World) (r:Option Dk×Int) (e:Ending) (w':World):Prop:=
 match r.1 with
 | none=>e= .returned (.tuple #[.pointer none,.int .i64 r.2])∧Below w.heap.size w w'
 | some D=> ∃g,e= .returned (.tuple #[.pointer (some ⟨g,0,none⟩),.int .i64 r.2])∧Rdk w' g D∧w.heap.size≤g∧Below w.heap.size w w'
set_option maxRecDepth 100000 in
set_option maxHeartbeats 2000000 in
theorem Z42 (cap:Int) (A:OA) (fs:List FilA) (n c:Nat) (hn:n=fs.length) (w:World) (hr:Rd w w.heap.size 2 A n (fc fs)) (hR:Fls8 w w.heap.size fs) (hnl:n≤3518437208883) (hsm: ∀x∈fs,x.n.size≤140737488355328∧x.b.length≤140737488355328):
  Calls Tryz.prog 68 #[.int .i64 cap,.slice A n c] w (Zeq w (Z1o cap (fs.map FilA.f))):=by
 have HN:=qI hn;have hn1:n≤fs.length:=by omega
 have hn2:fs.length≤n:=by omega
 clear hn
 by_cases hc:cap<0∨1099511627776<cap
 ·have HF:Hid (Z1o cap (fs.map FilA.f)=(none,1)):=if_pos hc
  go_in;go_wp2_with ((go_at_call 135;refine (Z7E cap _ hc).mono ?_;rintro e w1 ⟨rfl,hw1⟩;obtain rfl:=hw1.symm));go_ret2;rw [HF.out];exact ⟨rfl,bR _ _⟩
 ·have hc1:0≤cap:=by omega
  have hc2:cap≤1099511627776:=by omega
  have HF:Hid (Z1o cap (fs.map FilA.f)=match ZJ [] (fs.map FilA.f) with | none=>(none,1) | some m=>if frD ⟨cap,m,0,-1,false⟩<0 then (none,4) else (some ⟨cap,m,0,-1,false⟩,0)):=if_neg hc;go_in;go_wp2_with ((go_at_call 135;refine (Z9E cap _ hc1 hc2).mono ?_;rintro e w1 ⟨g,rfl,hD1,hg1,hb1⟩));obtain ⟨W0,hW0⟩: ∃W0,W0=w1:=⟨_,rfl⟩;rw [←hW0] at hD1 hb1 ⊢;clear hW0;go_loopw [8] (fun i wr=>Zgg cap fs g w i wr) (fun i _=>fs.length-(intOf i).toNat)
  case atStart=>exact ⟨0,[],rfl,zL _,rfl,hD1,hb1⟩
  case round=>
   clear hD1 hb1;obtain ⟨k,l,rfl,hk,hl,hD,hb⟩:=hrel;have hgl:=hD.lt;have hO:InOrder l:=Z3L hl.out List.Pairwise.nil;have hll:l.length≤k:=by
    have h1:=Z8Y hl.out;simp only [List.length_nil,List.length_map,List.length_take] at h1;omega
   by_cases hlt:k<n
   ·have hd:decide ((k:Int)<(n:Int))=true:=dT (by omega)
    have hd':(k:Int)<(n:Int):=by omega
    have hk0:(0:Int)≤(k:Int):=by omega
    have hlt2:k<fs.length:=by omega
    obtain ⟨x,hx⟩: ∃x,fs[k]?=some x:=⟨fs[k],gE hlt2⟩;obtain ⟨x1,x2⟩:=Z0X hx;have hxm:=List.mem_of_getElem? hx;have hrw:=hr.belowW hb (lR _);obtain ⟨bb,off,rfl,hbb,hcell⟩:=hrw.at_ (by omega);have q0:wr.cell? ⟨bb,off+k*2,none⟩=_:=hcell _ _ x1;have q1:wr.cell? ⟨bb,off+k*2+1,none⟩=_:=hcell _ _ x2;have hxf:=(hR x hxm).1.below hb;have hxs:=hsm x hxm;have hnext:(fs.take (k+1)).map FilA.f=(fs.take k).map FilA.f++[x.f]:=by rw [List.take_add_one,hx];simp
    have hall:fs.map FilA.f=(fs.take (k+1)).map FilA.f++(fs.drop (k+1)).map FilA.f:=by rw [←List.map_append,List.take_append_drop]
    obtain ⟨xn,xb,xA,xc⟩:=x;change (fs.take (k+1)).map FilA.f=(fs.take k).map FilA.f++[(xn,xb)] at hnext;have hsn:ZJ [] ((fs.take k).map FilA.f++[(xn,xb)])=if Z8 xn=false∨(Z4 l xn).isSome=true then none else some (putF l xn xb):=Z7e hl.out (xn,xb)
    rw [←hnext] at hsn;simp only at q0 q1 hxf hxs;have hxn:xn.size≤140737488355328:=by omega
    have hxb:xb.length≤140737488355328:=by omega
    have HS:=qI hsn;have HA:=qI hall;have f2:IntKind.i64.wrap ((k:Int)+1)=(k:Int)+1:=qJ _ (by omega);clear hx x1 x2 hcell hrw hsn hall hnext hxm hr;have hnm:=Z06 xn wr (by unfold maxLen;omega);have hHa:=ZT hD xn (by show l.length≤_;omega);change Calls _ _ _ _ (fun e w'=> ∃nq,e= .returned (.bool (Z4 l xn).isSome)∧w'=wr.drewN nq) at hHa;obtain ⟨is,his⟩: ∃is,is=(Z4 l xn).isSome:=⟨_,rfl⟩;rw [←his] at hHa
    cases hB:Z8 xn with
    | false=>
     have HE:Hid (ZJ [] (fs.map FilA.f)=none):=by
      unfold Hid;rw [HA.out];refine Z3a ?_;rw [HS.out,if_pos (.inl hB)]
     rw [hB] at hnm;have HNM:=qI hnm;clear hnm hB;go_wp2_with fail;refine HNM.out.mono ?_;rintro e w3 ⟨rfl,hw3⟩;obtain rfl:=hw3.symm;go_wp2_with fail;go_ret2;rw [HF.out,HE.out];exact ⟨rfl,hb⟩
    | true=>
     rw [hB] at hnm
     cases is with
     | true=>
      have HE:Hid (ZJ [] (fs.map FilA.f)=none):=by
       unfold Hid;rw [HA.out];refine Z3a ?_;rw [HS.out,if_pos (.inr his.symm)]
      have HNM:=qI hnm;have HHA:=qI hHa;clear hnm hHa hB his;go_wp2_with fail;refine HNM.out.mono ?_;rintro e w3 ⟨rfl,hw3⟩;obtain rfl:=hw3.symm;go_wp2_with fail;refine HHA.out.mono ?_;rintro e w3 ⟨nq,rfl,hw3⟩;have hb3:Below w.heap.size w w3:=by rw [hw3];exact hb.drewN' nq
      clear hw3;go_wp2_with fail;go_ret2;rw [HF.out,HE.out];exact ⟨rfl,hb3⟩
     | false=>
      have HE:Hid (ZJ [] ((fs.take (k+1)).map FilA.f)=some (putF l xn xb)):=by
       unfold Hid;rw [HS.out,if_neg];rintro (h | h)
       ·rw [hB] at h;cases h
       ·rw [←his] at h;cases h
      have HNM:=qI hnm;have HHA:=qI hHa;clear hnm hHa hB his;go_wp2_with fail;refine HNM.out.mono ?_;rintro e w3 ⟨rfl,hw3⟩;obtain rfl:=hw3.symm;go_wp2_with fail;refine HHA.out.mono ?_;rintro e w3 ⟨nq,rfl,hw3⟩;have hbq:Below wr.heap.size wr w3:=by rw [hw3];exact (bR _ _).drewN' nq
      have hD3:=hD.below hbq;have hxf3:=hxf.below hbq;have hb3:=hb.next hbq;have p0:w3.cell? ⟨bb,off+k*2,none⟩=some (.string xn):=by rw [hw3];exact q0
      have p1:w3.cell? ⟨bb,off+k*2+1,none⟩=some (.slice xA xb.length xc):=by rw [hw3];exact q1
      have HPt:=qI (Z1I hD3.drew xn _ xA xb xc (by show l.length+1≤_;omega) hxf3.1.drew hxb);clear hw3 q0 q1 hbq;go_wp2_with fail;go_still_tail 11,(by kernel_rfl);change wpList _ _ _ _ _ w3.drew;go_wp2_with fail;refine HPt.out.mono ?_;rintro e w4 ⟨rfl,hD4,hg4⟩;go_wp2_with fail;have hg4':w3.grownBy w4 (some g):=⟨hg4.os,hg4.tape,hg4.output,hg4.size,hg4.block⟩;exact ⟨⟨k+1,putF l xn xb,by go_num,by omega,HE,hD4,hb3.grown hg4' hb3.size (fun j e=>by injection e with e;omega)⟩,by simp [intOf];omega⟩
   ·have hd:decide ((k:Int)<(n:Int))=false:=qF (by omega)
    have hdn:decide (k<n)=false:=qF hlt;have hE:ZJ [] (fs.map FilA.f)=some l:=by
     have h1:=hl.out;rw [List.take_of_length_le (by omega)] at h1;exact h1
    have HFr:=qI (Zy hD ⟨hc1,hc2⟩ (by show l.length≤_;omega));obtain ⟨fr,hfr⟩: ∃fr,fr=frD (memD cap l):=⟨_,rfl⟩;rw [←hfr] at HFr;have HE:=qI hE;have HFR:=qI hfr;have HF2:Hid (Z1o cap (fs.map FilA.f)=if fr<0 then (none,4) else (some (memD cap l),0)):=by
     unfold Hid;rw [HF.out,HE.out,HFR.out]
     rfl
    clear hE hfr HF
    by_cases hneg:fr<0
    ·have d1:decide (fr<0)=true:=dT hneg
     have HF3:Hid (Z1o cap (fs.map FilA.f)=(none,4)):=by unfold Hid;rw [HF2.out,if_pos hneg]
     clear hneg;go_wp2_with fail;refine HFr.out.mono ?_;rintro e w3 ⟨rfl,hD3,hb3⟩;go_wp2_with fail;go_ret2;rw [HF3.out];exact ⟨rfl,hb.next hb3⟩
    ·have d1:decide (fr<0)=false:=qF hneg
     have HF3:Hid (Z1o cap (fs.map FilA.f)=(some (memD cap l),0)):=by unfold Hid;rw [HF2.out,if_neg hneg]
     clear hneg;go_wp2_with fail;refine HFr.out.mono ?_;rintro e w3 ⟨rfl,hD3,hb3⟩;go_wp2_with fail;go_ret2;rw [HF3.out];exact ⟨g,rfl,hD3,hg1,hb.next hb3⟩
end Go.Proofs.YtecpbcmpncgokaaGreat
set_option linter.unusedVariables false
namespace Go.Proofs.YtecpbcmpncgokaaGreat
open Go.RowKit Go.Dol
theorem Z9Z:(Tryz.prog.info? 107).map (fun i=>(i.zero,i.size,i.bytes))=some (some (.agg #[.string ⟨#[]⟩,.slice none 0 0]),2,40):=by kernel_rfl
def ZfL (fs:List FilA) (w:World) (q i:Value) (wr:World):Prop:=
 ∃(k:Nat) (A:OA) (c:Nat),q= .slice A k c∧i= .int .i64 k∧k≤fs.length∧wr.ownsRow w.heap.size 107 2 (.slice A k c) k (fc (fs.take k))∧Below w.heap.size w wr
def Zdw (w:World) (r:Option Dk×Int) (e:Ending) (w':World):Prop:=
 match r.1 with
 | none=>e= .returned (.tuple #[.pointer none,.pointer none])∧Below w.heap.size w w'
 | some D=> ∃g m g2,e= .returned (.tuple #[.pointer (some ⟨g,0,none⟩),.pointer (some ⟨g2,0,none⟩)])∧Dsk w' g m D∧Rdk w' g2 D∧w.heap.size≤g∧w.heap.size≤m∧w.heap.size≤g2∧Below w.heap.size w w'
set_option maxRecDepth 100000 in
set_option maxHeartbeats 2000000 in
theorem Z98 (cap:Int) (A:OA) (fs:List FilA) (n c:Nat) (hn:n=fs.length) (w:World) (hr:Rd w w.heap.size 2 A n (fc fs)) (hR:Fls8 w w.heap.size fs) (hnl:n≤3518437208883) (hsm: ∀x∈fs,x.n.size≤140737488355328∧x.b.length≤140737488355328) (cap':Int) (hcap:0≤cap'∧cap'≤1048575)
  (hbits:bits .and .i64 cap 1048575=cap'):
  Calls Tryz.prog 49 #[.int .i64 cap,.slice A n c] w (Zdw w (Z1o cap' (fs.map FilA.f))):=by
 have HN:=qI hn;have hn1:n≤fs.length:=by omega
 have hn2:fs.length≤n:=by omega
 clear hn;go_in;go_wp2_with fail;go_loopw [6,7] (fun q i wr=>ZfL fs w q i wr) (fun _ i _=>fs.length-(intOf i).toNat)
 case atStart=>exact ⟨0,none,0,rfl,rfl,zL _,by simpa [fc] using World.ownsRow_nil w w.heap.size 107 2,bR _ _⟩
 case round=>
  obtain ⟨k,A6,c6,rfl,rfl,hk,ho,hb⟩:=hrel;have hs:=hb.size
  by_cases hlt:k<n
  ·have hd:decide ((k:Int)<(n:Int))=true:=dT (by omega)
   have hd':(k:Int)<(n:Int):=by omega
   have hk0:(0:Int)≤(k:Int):=by omega
   have hlt2:k<fs.length:=by omega
   obtain ⟨x,hx⟩: ∃x,fs[k]?=some x:=⟨fs[k],gE hlt2⟩;obtain ⟨x1,x2⟩:=Z0X hx;have hrw:=hr.belowW hb (lR _);obtain ⟨bb,off,rfl,hbb,hcell⟩:=hrw.at_ (by omega);have q0:wr.cell? ⟨bb,off+k*2,none⟩=_:=hcell _ _ x1;have q1:wr.cell? ⟨bb,off+k*2+1,none⟩=_:=hcell _ _ x2;have hnext:fc (fs.take k)++fc [x]=fc (fs.take (k+1)):=by rw [←Z2S,List.take_add_one,hx];rfl
   have hxr:=(Rd.fileT wr 107 x).drew;have hone:=Z7d [x];obtain ⟨xn,xb,xA,xc⟩:=x;simp only at q0 q1 hxr;have f2:IntKind.i64.wrap ((k:Int)+1)=(k:Int)+1:=qJ _ (by omega);have HX:=qI hnext;clear hx x1 x2 hcell hrw hnext hr;go_wp2_with fail
   go_region_held3 (fun w'=>w'.cell? ⟨bb,off+k*2,none⟩=some (.string xn)∧w'.cell? ⟨bb,off+k*2+1,none⟩=some (.slice xA xb.length xc)) (first | go_keep | (go_split_ands;refine ⟨?_,?_⟩<;>(rw [z2.cell (p:=⟨bb,_,none⟩) hbb];assumption)))
    ((refine Z7Z (by rfl) (.tmp 19) (.tmp 31) 57 107 _ 2 40 (by rfl) Tryz.underlying57 Z9Z rfl (by decide) w.heap.size _ k (fc (fs.take k)) (by rfl) (World.ownsRow.alloc (w:=World.drew wr) ho _) (wr.heap.size+1) _ 1 1 (fc [⟨xn,xb,xA,xc⟩]) (by rfl) hxr hone (by unfold maxLen;omega) (by omega) (by simp;omega) ?_;intro A' c' w' z1 z2 z3 z4 z5))
   go_wp2_with fail;refine ⟨⟨k+1,A',c',rfl,by go_num,by omega,?_,hb.trans (((bR _ _).alloc hs _).drew.trans z2)⟩,by simp [intOf];omega⟩;rw [←HX.out];exact z1
  ·have hd:decide ((k:Int)<(n:Int))=false:=qF (by omega)
   have hdn:decide (k<n)=false:=qF hlt;have hkf:k=fs.length:=by omega
   have htk:fs.take k=fs:=List.take_of_length_le (by omega);rw [htk] at ho;have hro:=Rd.of_own ho;have hR1:=(hR.below hb).more hs;have HLo:=qI (Za5 cap' A6 fs k c6 hkf wr hro hR1 ⟨by omega,by omega⟩ (by omega) hsm);obtain ⟨r,hrr⟩: ∃r,r=Z1o cap' (fs.map FilA.f):=⟨_,rfl⟩;rw [←hrr] at HLo ⊢;have HRR:=qI hrr;obtain ⟨ro,re⟩:=r;have hre:re=0↔ro.isSome=true:=by
    have h1:=HRR.out;unfold Z1o at h1;rw [if_neg (by omega)] at h1;split at h1
    ·injection h1 with h1 h2;rw [h1,h2];simp
    ·split at h1<;>(injection h1 with h1 h2;rw [h1,h2];simp)
   clear htk hkf hrr
   cases ro with
   | none=>
    have hz0:re≠0:=fun e=>by have:=hre.1 e;cases this
    have hz:(re==0)=false:=beq_eq_false_iff_ne.2 hz0;have hz2:(re !=0)=true:=bne_iff_ne.2 hz0;clear hz0;clear hre;go_wp2_with fail;refine HLo.out.mono ?_;rintro e w3 ⟨rfl,hb3⟩;have hbw:=hb.next hb3;have HRL:=qI (Z42 cap' A fs n c HN.out w3 (hr.belowW hbw (lR _) |>.more hbw.size) ((hR.below hbw).more hbw.size) hnl hsm);rw [←HRR.out] at HRL;go_wp2_with fail;refine HRL.out.mono ?_;rintro e w4 ⟨rfl,hb4⟩;go_wp2_with fail;go_ret2;rw [←HRR.out];exact ⟨rfl,hbw.next hb4⟩
   | some D=>
    have hz:re=0:=hre.2 rfl;subst hz;clear hre;go_wp2_with fail;refine HLo.out.mono ?_;rintro e w3 ⟨g,m,rfl,hD3,hg3,hm3,hb3⟩;have hbw:=hb.next hb3;have HRL:=qI (Z42 cap' A fs n c HN.out w3 (hr.belowW hbw (lR _) |>.more hbw.size) ((hR.below hbw).more hbw.size) hnl hsm);rw [←HRR.out] at HRL;go_wp2_with fail;refine HRL.out.mono ?_;rintro e w4 ⟨g2,rfl,hD4,hg4,hb4⟩;go_wp2_with fail;go_ret2;rw [←HRR.out];have:=hbw.size;exact ⟨g,m,g2,rfl,hD3.below hb4,hD4,by omega,by omega,by omega,hbw.next hb4⟩
end Go.Proofs.YtecpbcmpncgokaaGreat
set_option linter.unusedVariables false
namespace Go.Proofs.YtecpbcmpncgokaaGreat
open Go.RowKit Go.Dol
theorem Z9V:(Tryz.prog.info? 110).map (fun i=>(i.zero,i.size,i.bytes))=some (some (.agg #[.string ⟨#[]⟩,.slice none 0 0]),2,40):=by kernel_rfl
def Zbq (w:World) (fs:List FilA) (e:Ending) (w':World):Prop:=
 ∃(ys:List FilA) (A:OA) (c:Nat),Hid (ys=fs)∧e= .returned (.slice A ys.length c)∧w'.ownsRow w.heap.size 110 2 (.slice A ys.length c) ys.length (fc ys)∧Below w.heap.size w w'
def Zbr (fs:List FilA) (w:World) (q i:Value) (wr:World):Prop:=
 ∃(k:Nat) (ys:List FilA) (A:OA) (c:Nat),q= .slice A ys.length c∧i= .int .i64 k∧k≤fs.length∧Hid (ys=fs.take k)∧ys.length=k∧wr.ownsRow w.heap.size 110 2 (.slice A ys.length c) ys.length (fc ys)∧Below w.heap.size w wr
set_option maxRecDepth 100000 in
set_option maxHeartbeats 1600000 in
theorem Z8q (A:OA) (fs:List FilA) (c:Nat) (w:World) (hr:Rd w w.heap.size 2 A fs.length (fc fs)) (hl:fs.length≤3518437208880):
  Calls Tryz.prog 55 #[.slice A fs.length c] w (Zbq w fs):=by
 go_in;go_wp2_with fail;go_loopw [3,4] (fun q i wr=>Zbr fs w q i wr) (fun _ i _=>fs.length-(intOf i).toNat)
 case atStart=>exact ⟨0,[],none,0,rfl,rfl,zL _,rfl,rfl,World.ownsRow_nil _ _ _ _,bR _ _⟩
 case round=>
  obtain ⟨k,ys,A5,c5,rfl,rfl,hk,hy,hyl,ho,hb⟩:=hrel;have hs:=hb.size
  by_cases hlt:k<fs.length
  ·have hd:decide ((k:Int)<(fs.length:Int))=true:=dT (by omega)
   have hd':(k:Int)<(fs.length:Int):=by omega
   have hk0:(0:Int)≤(k:Int):=by omega
   obtain ⟨x,hx⟩: ∃x,fs[k]?=some x:=⟨fs[k],gE hlt⟩;have hnext:fs.take (k+1)=fs.take k++[x]:=by rw [List.take_add_one,hx];rfl
   have hrw:=hr.belowW hb (lR _);obtain ⟨bb,off,rfl,hbb,hcell⟩:=hrw.at_ (by omega);have q0:wr.cell? ⟨bb,off+k*2,none⟩=_:=hcell _ _ (Z0X hx).1;have q1:wr.cell? ⟨bb,off+k*2+1,none⟩=_:=hcell _ _ (Z0X hx).2;have z2:Below wr.heap.size wr (wr.alloc (.cells x.cells.toArray 110)):=(bR _ _).alloc (lR _) _;have hxr:=(Rd.fileT wr 110 x).drew;have hone:=Z7d [x];have f1:IntKind.i64.wrap ((k:Int)+1)=(k:Int)+1:=qJ _ (by omega);have hyk:ys.length≤3518437208880:=by omega
   obtain ⟨xn,xb,xA,xc⟩:=x;simp only at q0 q1 hxr;have HX:=qI hnext;have HL:=qI hyl;clear hx hcell hrw hnext hr hyl;go_wp2_with fail
   go_region_held3 (fun w'=>w'.cell? ⟨bb,off+k*2,none⟩=some (.string xn)∧w'.cell? ⟨bb,off+k*2+1,none⟩=some (.slice xA xb.length xc)) (first | go_keep | (go_split_ands;refine ⟨?_,?_⟩<;>(rw [z2.cell (p:=⟨bb,_,none⟩) hbb];assumption)))
    ((refine Z7Z (by rfl) (.tmp 11) (.tmp 23) 22 110 _ 2 40 (by rfl) Tryz.underlying22 Z9V rfl (by decide) w.heap.size _ ys.length (fc ys) (by rfl) (World.ownsRow.alloc (w:=World.drew wr) ho _) (wr.heap.size+1) _ 1 1 (fc [⟨xn,xb,xA,xc⟩]) (by rfl) hxr hone (by unfold maxLen;omega) (by omega) (by simp;omega) ?_;intro A' c' w' z1 z2 z3 z4 z5))
   go_wp2_with fail;have hzl:(ys++[(⟨xn,xb,xA,xc⟩:FilA)]).length=ys.length+1:=by rw [List.length_append];rfl
   refine ⟨⟨k+1,ys++[⟨xn,xb,xA,xc⟩],A',c',by rw [hzl],by go_num,by omega,?_,by rw [hzl,HL.out],?_,hb.trans (((bR _ _).alloc hs _).drew.trans z2)⟩,by simp [intOf];omega⟩
   ·unfold Hid
    rw [HX.out,hy.out]
   ·rw [hzl,Z2S]
    exact z1
  ·have hd:decide ((k:Int)<(fs.length:Int))=false:=qF (by omega)
   have hkf:k=fs.length:=by omega
   have hall:ys=fs:=by rw [hy.out,hkf,List.take_length]
   have HA:=qI hall;clear hall hkf;go_wp2_with fail;go_ret;exact ⟨ys,A5,c5,HA,rfl,ho,hb⟩
end Go.Proofs.YtecpbcmpncgokaaGreat
set_option linter.unusedVariables false
namespace Go.Proofs.YtecpbcmpncgokaaGreat
open Go.RowKit Go.Dol
theorem Z84 {x y:BA} (h:x.toList=y.toList):x=y:=by
 rw [ByteArray.toList_eq,ByteArray.toList_eq] at h;exact WideShapes.bytes_inj h
def Zf2 (P:Prop) (w:World) (e:Ending) (w':World):Prop:=∃ (u:Bool) (n:Nat),e= .returned (.bool u)∧(u=true↔P)∧w'=w.drewN n
def Zgv (a b:List FilA) (w:World) (i:Value) (wr:World):Prop:=
 ∃(k q:Nat),i= .int .i64 k∧k≤a.length∧Hid (∀j,j<k→(a.map FilA.f)[j]?=(b.map FilA.f)[j]?)∧Hid (wr=w.drewN q)
set_option maxRecDepth 100000 in
set_option maxHeartbeats 4000000 in
theorem Z6C (A:OA) (a:List FilA) (c:Nat) (A2:OA) (b:List FilA) (c2:Nat) (w:World) (B B2 F F2:Nat) (hr:Rd w B 2 A a.length (fc a)) (hr2:Rd w B2 2 A2 b.length (fc b)) (hF:Fls8 w F a) (hF2:Fls8 w F2 b) (ha:a.length≤3518437208883) (hb:b.length≤3518437208883):
  Calls Tryz.prog 32 #[.slice A a.length c,.slice A2 b.length c2] w (Zf2 (a.map FilA.f=b.map FilA.f) w):=by
 by_cases hl:a.length=b.length
 ·have d0:((a.length:Int)!=(b.length:Int))=false:=by simp;omega
  have HL:=qI hl;have hl1:a.length≤b.length:=by omega
  clear hl;go_in;go_wp2_with fail;go_loopw [5] (fun i wr=>Zgv a b w i wr) (fun i _=>a.length-(intOf i).toNat)
  case atStart=>exact ⟨0,0,rfl,zL _,fun j hj=>by omega,rfl⟩
  case round=>
   obtain ⟨k,q,rfl,hk,hs,hwr⟩:=hrel;have hrw:Rd wr B 2 A a.length (fc a):=by rw [hwr.out];exact hr.drewN q
   have hrw2:Rd wr B2 2 A2 b.length (fc b):=by rw [hwr.out];exact hr2.drewN q
   have f1:IntKind.i64.wrap ((k:Int)+1)=(k:Int)+1:=qJ _ (by omega)
   by_cases h1:k<a.length
   ·have d1:decide ((k:Int)<(a.length:Int))=true:=by simp;omega
    have d1':(k:Int)<(a.length:Int):=by omega
    have d2':(k:Int)<(b.length:Int):=by omega
    have hk0:(0:Int)≤(k:Int):=by omega
    have h2:k<b.length:=by omega
    have hlen1:a.length≤9223372036854775807:=by omega
    obtain ⟨bb,off,rfl,hbb,hcell⟩:=hrw.at_ (by omega);obtain ⟨bb2,off2,rfl,hbb2,hcell2⟩:=hrw2.at_ (by omega);have g1:a[k]?=some a[k]:=gE h1;have g2:b[k]?=some b[k]:=gE h2;obtain ⟨x,hx⟩: ∃x,x=a[k]:=⟨_,rfl⟩;obtain ⟨y,hy⟩: ∃y,y=b[k]:=⟨_,rfl⟩;rw [←hx] at g1;rw [←hy] at g2;have c1:=hcell _ _ (Z0X g1).1;have c2':wr.cell? ⟨bb,off+k*2+1,none⟩=_:=hcell _ _ (Z0X g1).2;have e1:=hcell2 _ _ (Z0X g2).1;have e2:wr.cell? ⟨bb2,off2+k*2+1,none⟩=_:=hcell2 _ _ (Z0X g2).2;have xF:=(hF x (List.mem_of_getElem? g1)).1;have yF:=(hF2 y (List.mem_of_getElem? g2)).1;have m1:(a.map FilA.f)[k]?=some x.f:=by rw [List.getElem?_map,g1];rfl
    have m2:(b.map FilA.f)[k]?=some y.f:=by rw [List.getElem?_map,g2];rfl
    obtain ⟨xn,xb,xA,xc⟩:=x;obtain ⟨yn,yb,yA,yc⟩:=y;simp only at c1 c2' e1 e2 xF yF;have m1':(a.map FilA.f)[k]?=some (xn,xb):=m1;have m2':(b.map FilA.f)[k]?=some (yn,yb):=m2;have v1: ∀j:Nat,(convert 36 9 (.slice xA xb.length xc)).run Tryz.prog (wr.drewN j)= .ok (.string ⟨xb.toArray⟩) (wr.drewN j):=fun j=>by
     have h1:Rd (wr.drewN j) w.heap.size 1 xA xb.length (bc xb):=by rw [hwr.out,World.drewN_drewN];exact xF.1.drewN _
     exact Z0L h1
    have v2: ∀j:Nat,(convert 36 9 (.slice yA yb.length yc)).run Tryz.prog (wr.drewN j)= .ok (.string ⟨yb.toArray⟩) (wr.drewN j):=fun j=>by
     have h1:Rd (wr.drewN j) w.heap.size 1 yA yb.length (bc yb):=by rw [hwr.out,World.drewN_drewN];exact yF.1.drewN _
     exact Z0L h1
    have M1:=qI m1';have M2:=qI m2';clear hx hy g1 g2 hcell hcell2 m1 m2 m1' m2' xF yF
    by_cases h3:xn=yn
    ·subst h3
     by_cases h4:xb=yb
     ·subst h4
      have HS:Hid (∀j,j<k+1→(a.map FilA.f)[j]?=(b.map FilA.f)[j]?):=fun j hj=>by
       by_cases hjk:j=k
       ·rw [hjk,M1.out,M2.out]
       ·exact hs.out j (by omega)
      go_wp2_with fail;go_quiet (fail);go_wp2_with fail;refine ⟨⟨k+1,q+nq,by go_num,by omega,HS,by unfold Hid;rw [hwr.out,World.drewN_drewN]⟩,by simp [intOf];omega⟩
     ·have HN:Hid (¬a.map FilA.f=b.map FilA.f):=fun e=>by
       have h5:=M2.out;rw [←e,M1.out] at h5;injection h5 with h5
       injection h5 with h6 h7
       exact h4 h7
      have hne:(xb==yb)=false:=beq_eq_false_iff_ne.2 h4;go_wp2_with fail;go_quiet (fail);go_wp2_with fail;go_ret;exact ⟨false,q+nq,rfl,by simp [HN.out],by rw [hwr.out,World.drewN_drewN]⟩
    ·have HN:Hid (¬a.map FilA.f=b.map FilA.f):=fun e=>by
      have h5:=M2.out;rw [←e,M1.out] at h5;injection h5 with h5
      injection h5 with h6 h7
      exact h3 h6
     have hne:(xn.toList==yn.toList)=false:=beq_eq_false_iff_ne.2 fun e=>h3 (Z84 e);go_wp2_with fail;go_quiet (fail);go_wp2_with fail;go_ret;exact ⟨false,q+nq,rfl,by simp [HN.out],by rw [hwr.out,World.drewN_drewN]⟩
   ·have d1:decide ((k:Int)<(a.length:Int))=false:=by simp;omega
    have d1': ¬(k:Int)<(a.length:Int):=by omega
    have HE:Hid (a.map FilA.f=b.map FilA.f):=List.ext_getElem? fun j=>by
     rcases Nat.lt_or_ge j a.length with hj | hj
     ·exact hs.out j (by omega)
     ·have h4:=HL.out
      rw [List.getElem?_eq_none (by rw [List.length_map];omega),List.getElem?_eq_none (by rw [List.length_map];omega)]
    go_wp2_with fail;go_ret;exact ⟨true,q,rfl,by simp [HE.out],hwr.out⟩
 ·have d0:((a.length:Int)!=(b.length:Int))=true:=by simp;omega
  have HN:Hid (¬a.map FilA.f=b.map FilA.f):=fun e=>hl (by have:=congrArg List.length e;simpa using this);clear hl;go_in;go_wp2_with fail;go_ret;exact ⟨false,0,rfl,by simp [HN.out],rfl⟩
end Go.Proofs.YtecpbcmpncgokaaGreat
set_option maxRecDepth 100000
set_option maxHeartbeats 2000000
set_option linter.unusedVariables false
namespace Go.Dol
open Go.RowKit
theorem Zc3 {s:BA} (h:s.size=0):Z07 s=false:=by
 unfold Z07;have e:s.data.toList=[]:=nZ (by rw [Zg];exact h);rw [e]
 rfl
theorem Zc4 {s:BA} {k:Nat} (h:s.size=k+1) (hk:k<s.data.toList.length):Z07 s=decide (s.data.toList[k]=126):=by
 unfold Z07;have hl:s.data.toList.length=k+1:=by rw [Zg];exact h
 have e3:s.data.toList.getLast?=some s.data.toList[k]:=by
  rw [List.getLast?_eq_getElem?,show s.data.toList.length-1=k by omega];exact gE hk
 rw [e3]
 by_cases hx:s.data.toList[k]=126<;>simp [hx]
end Go.Dol
namespace Go.Proofs.YtecpbcmpncgokaaGreat
open Go.RowKit Go.Dol
section
variable {w w':World} {g m gr:Nat} {D:Dk}
theorem Zeo:(Tryz.prog.info? 9).map (fun i=>(i.zero,i.size,i.bytes))=some (some (.string ⟨#[]⟩),1,16):=by kernel_rfl
def Zgf (ns:List BA) (w:World) (q i:Value) (wr:World):Prop:=
 ∃(k:Nat) (A:OA) (c:Nat),q= .slice A k c∧i= .int .i64 k∧k≤ns.length∧wr.ownsRow w.heap.size 9 1 (.slice A k c) k (sc (ns.take k))∧Below w.heap.size w wr
theorem Z7C (h:Rdk w gr D) (hlen:D.l.length≤3518437208880):Calls Tryz.prog 92 #[.pointer (some ⟨gr,0,none⟩)] w (Z73 w D):=by
 have hg0:=h.lt;obtain ⟨fs,A,c,k0,k1,k2,k3,k4,hr,hc,hcm,hF,hL⟩:=h.row;have hll:D.l.length=fs.length:=by rw [←hL.out,List.length_map]
 obtain ⟨ns,hns⟩: ∃ns,ns=D.l.map Prod.fst:=⟨_,rfl⟩;have hnl:ns.length=fs.length:=by rw [hns,List.length_map];exact hll
 have hl1:ns.length≤fs.length:=by omega
 have hl2:fs.length≤ns.length:=by omega
 have hl3:ns.length≤3518437208880:=by omega
 have HD:Hid (D.l.length=ns.length):=by unfold Hid;omega
 have HNS:=qI hns;clear hll hnl;go_in;go_wp2_with fail;go_loopw [3,4] (fun q i wr=>Zgf ns w q i wr) (fun _ i _=>fs.length-(intOf i).toNat)
 case atStart=>exact ⟨0,none,0,rfl,rfl,zL _,World.ownsRow_nil _ _ _ _,bR _ _⟩
 case round=>
  obtain ⟨k,A5,c5,rfl,rfl,hk,ho,hb⟩:=hrel;have hs:=hb.size;have k1':wr.cell? ⟨gr,1,none⟩=some (.slice A fs.length c):=(hb.cell (p:=⟨gr,1,none⟩) hg0).trans k1
  by_cases hlt:k<fs.length
  ·have hd:decide ((k:Int)<(fs.length:Int))=true:=dT (by omega)
   have hd':(k:Int)<(fs.length:Int):=by omega
   have hk0:(0:Int)≤(k:Int):=by omega
   obtain ⟨x,hx⟩: ∃x,fs[k]?=some x:=⟨fs[k],gE hlt⟩;have hxn:ns[k]?=some x.n:=by rw [hns,List.getElem?_map,←hL.out,List.getElem?_map,hx];rfl
   have hnext:sc (ns.take k)++[.string x.n]=sc (ns.take (k+1)):=by rw [List.take_add_one,hxn];simp [sc]
   obtain ⟨bb,off,rfl,hbb,hcell⟩:=hr.at_ (by omega);have p0:w.cell? ⟨bb,off+k*2,none⟩=_:=hcell _ _ (Z0X hx).1;have q0:=(hb.cell (p:=⟨bb,off+k*2,none⟩) hbb).trans p0;obtain ⟨xn,xb,xA,xc⟩:=x;simp only at q0 hnext;have f1:IntKind.i64.wrap ((k:Int)+1)=(k:Int)+1:=qJ _ (by omega);have HX:=qI hnext;clear hx hxn hcell hnext hr p0 k0 k1 k2 k3 k4 hF hns;go_wp2_with (at_builtin;refine ZeS rfl (.tmp 14) (.tmp 23) 38 9 _ 16 rfl Tryz.underlying38 Zeo rfl w.heap.size _ k (sc (ns.take k)) rfl (World.ownsRow.alloc ho _) (wr.heap.size+1) _ 1 1 [.string xn] rfl (Rd.new1 wr 9 (.string xn)) (by simp [Value.oneCell']) (by unfold maxLen;omega) (by omega) (by simp;omega) ?_;intro A' c' w' z1 z2 z3 z4 z5);go_wp2_with fail;refine ⟨⟨k+1,A',c',rfl,by go_num,by omega,?_,hb.trans (((bR _ _).alloc hs _).trans z2)⟩,by simp [intOf];omega⟩;rw [←HX.out];exact z1
  ·have hd:decide ((k:Int)<(fs.length:Int))=false:=qF (by omega)
   have hdn:decide (k<fs.length)=false:=qF hlt;have hkl:k=ns.length:=by omega
   have htk:ns.take k=ns:=List.take_of_length_le (by omega);rw [htk] at ho;have HK:Hid (k=D.l.length):=by unfold Hid;rw [HD.out];exact hkl
   clear htk hkl;go_wp2_with fail;go_ret;have hk:=HK.out;subst hk;rw [HNS.out] at ho;exact ⟨A5,c5,rfl,ho,hb⟩
theorem Z9B (s:BA) (w:World) (hs:s.size≤maxLen):Calls Tryz.prog 199 #[.string s] w fun e w'=>e= .returned (.bool (Z07 s))∧w'=w:=by
 have hsm:s.size≤9223372036854775807:=by unfold maxLen at hs;omega
 rcases Nat.eq_zero_or_pos s.size with h0 | h0
 ·have HE:=qI (Zc3 h0)
  have d1:decide ((s.size:Int)>0)=false:=qF (by omega);have d1n:decide (0<s.size)=false:=qF (by omega);clear h0;go_in;go_wp2_with fail;go_ret;rw [HE.out];exact ⟨rfl,rfl⟩
 ·obtain ⟨k,hk⟩: ∃k,s.size=k+1:=⟨s.size-1,by omega⟩
  have hkl:k<s.data.toList.length:=by rw [Zg];omega
  have hks:k<s.size:=by omega
  have hE:=Zc4 hk hkl;have d1:decide ((s.size:Int)>0)=true:=dT (by omega);have d1n:decide (0<s.size)=true:=dT h0;have f1:IntKind.i64.wrap ((s.size:Int)-1)=(k:Int):=by rw [qJ _ (by omega)];omega
  have d2:(k:Int)<(s.size:Int):=by omega
  have d3:(0:Int)≤(k:Int):=by omega
  obtain ⟨c,hc⟩: ∃c,c=s.data.toList[k]:=⟨_,rfl⟩;have hsx: ∀h:k<s.size,(s[k]'h).toNat=c.toNat:=fun h=>by rw [Zb5 s h,hc]
  rw [←hc] at hE;have HE:=qI hE;clear hE hc hk h0
  by_cases h2:c=126
  ·have g2:((c.toNat:Int)==126)=true:=by rw [h2];rfl
   have HF:Hid (Z07 s=true):=by unfold Hid;rw [HE.out,h2];rfl
   clear h2;go_in;go_wp2_with fail;go_ret;rw [HF.out];exact ⟨rfl,rfl⟩
  ·have g2:((c.toNat:Int)==126)=false:=beq_eq_false_iff_ne.2 fun e=>h2 (UInt8.toNat_inj.1 (by show c.toNat=126;omega))
   have HF:Hid (Z07 s=false):=by unfold Hid;rw [HE.out];exact qF h2
   clear h2;go_in;go_wp2_with fail;go_ret;rw [HF.out];exact ⟨rfl,rfl⟩
end
end Go.Proofs.YtecpbcmpncgokaaGreat
set_option linter.unusedVariables false
namespace Go.Dol
open Go.RowKit
section
variable {P:Program} {w:World} {ops:Array Oper} {rest:List Oper} {o:Oper} {a:Act} {Q:Exit→Act→World→Prop}
theorem ZfK (hgd:o.guard=none) (s x:Operand) (t e:TypeId) (z:Value) (bytes:Nat)
  (ho:o.op= .call { callee:=.builtin .append,args:=#[s,x],argTypes:=#[t,t] })
  (ht:P.underlying t=some (.slice e)) (hi:(P.info? e).map (fun i=>(i.zero,i.size,i.bytes))=some (some z,1,bytes)) (hzs:z.cells.size=1)
  (base:Nat) (v:Value) (n:Nat) (xs:List Value) (hs:a.eval s=v) (hown:w.ownsRow base e 1 v n xs)
  (B:Nat) (A:OA) (m c:Nat) (news:List Value) (hx:a.eval x= .slice A m c) (hr:Rd w B 1 A m news) (h1: ∀u∈news,u.oneCell'=true)
  (hmax:n+m≤maxLen) (hlen:(n+m)*bytes≤140737488355328) (hbase:base≤w.heap.size)
  (h: ∀(A':OA) (c':Nat) (w':World),w'.ownsRow base e 1 (.slice A' (n+m) c') (n+m) (xs++news)→Below base w w'→w.grownBy w' v.ownBlock→Hid ((Value.slice A' (n+m) c').ownBlock=v.ownBlock∨(Value.slice A' (n+m) c').ownBlock=some w.heap.size)→
   n+m≤c'→c'≤maxLen→wpList P ops Q rest (a.put o.dst (.slice A' (n+m) c')) w'):wpList P ops Q (o::rest) a w:=by
 refine Z0m w hgd s x _ ho base _ _ 1 bytes ht hi hzs (by decide) v n xs hs hown B A m c news hx hr h1 hmax hlen hbase ?_;intro A' c' w' h1 h2 h3 h4 h5;exact h _ c' w' h1 ((bR _ _).grown h2 hbase (fun k hk=>(hown.lt k hk).1)) h2 h3 h4 h5
end
end Go.Dol
set_option linter.unusedVariables false
namespace Go.Proofs.YtecpbcmpncgokaaGreat
open Go.RowKit Go.Dol
def ZfU (ns:List BA) (w:World) (v i:Value) (wr:World):Prop:=
 ∃(k:Nat) (ys:List BA) (n:Nat) (A:OA) (c:Nat),v= .slice A n c∧i= .int .i64 k∧k≤ns.length∧Hid (ys=(ns.take k).filterMap Z03)∧Hid (ys.length=n)∧n≤k∧wr.ownsRow w.heap.size 9 1 (.slice A n c) n (sc ys)∧Below w.heap.size w wr
theorem Z6l {y:BA} (h: ¬(y.size=66∧y.data.toList.take 2=[111,47])):Z03 y=none:=by
 rw [Z5L];split
 ·rename_i h2
  cases hu:Zx (cutS y ⟨#[111,47]⟩).1.data.toList with
  | none=>rfl
  | some q=>
   simp only;rw [if_neg fun hq=>h ?_];unfold cutS at hu h2
   by_cases h3:y.data.toList.take (⟨#[111,47]⟩:BA).size=(⟨#[111,47]⟩:BA).data.toList
   ·rw [if_pos h3] at hu
    have hu:Zx (y.data.toList.drop 2)=some q:=hu;have h5:2*q.length=(y.data.toList.drop 2).length:=by rw [←Z4k _ q hu,Z0T]
    refine ⟨?_,h3⟩;rw [List.length_drop,Zg,hq] at h5;omega
   ·rw [if_neg h3] at h2
    cases h2
 ·rfl
theorem ZbJ {y:BA} (h:y.size=66) (h2:y.data.toList.take 2=[111,47]):Z03 y=(Zx (y.data.toList.drop 2)).map idS:=by
 rw [Z5L];unfold cutS;rw [if_pos (show y.data.toList.take (⟨#[111,47]⟩:BA).size=(⟨#[111,47]⟩:BA).data.toList from h2),if_pos rfl];show (match Zx (y.data.toList.drop 2) with | none=>none | some q=>if q.length=32 then some (idS q) else none)=_
 cases hu:Zx (y.data.toList.drop 2) with
 | none=>rfl
 | some q=>
  have h5:2*q.length=(y.data.toList.drop 2).length:=by rw [←Z4k _ q hu,Z0T]
  rw [List.length_drop,Zg,h] at h5;simp only;rw [if_pos (by omega)]
  rfl
section
variable {w:World} {gr:Nat} {D:Dk}
set_option maxRecDepth 100000 in
set_option maxHeartbeats 3200000 in
theorem Z4E (h:Rdk w gr D) (hK:OkW D):Calls Tryz.prog 50 #[.pointer (some ⟨gr,0,none⟩)] w fun e w'=> ∃(ys:List BA) (A:OA) (c:Nat),Hid (ys=idsO D)∧e= .returned (.slice A ys.length c)∧w'.ownsRow w.heap.size 9 1 (.slice A ys.length c) ys.length (sc ys)∧Below w.heap.size w w':=by
 have hlen:=hK.len;have HN:=qI (Z7C h hlen);obtain ⟨ns,hns⟩: ∃ns,ns=D.l.map Prod.fst:=⟨_,rfl⟩;have hnl:D.l.length=ns.length:=by rw [hns,List.length_map]
 have hsm: ∀n∈ns,n.size≤200:=by
  intro n hn;rw [hns] at hn;obtain ⟨f,hf,rfl⟩:=List.mem_map.1 hn;exact Z05 (hK.names f hf)
 have HID:Hid (idsO D=ns.filterMap Z03):=by unfold Hid;rw [hns];rfl
 have HSM:=qI hsm;clear hsm;go_in;go_wp2_with fail;refine HN.out.mono ?_;rintro e w1 ⟨A,c,rfl,ho,hb⟩;rw [←hns,hnl] at ho;rw [hnl] at hlen ⊢;clear hns hnl HN;go_wp2_with fail;go_loopw [3,5] (fun v i wr=>ZfU ns w1 v i wr) (fun _ i _=>ns.length-(intOf i).toNat)
 case atStart=>exact ⟨0,[],0,none,0,rfl,rfl,zL _,rfl,rfl,lR _,World.ownsRow_nil _ _ _ _,bR _ _⟩
 case round=>
  obtain ⟨k,ys,n,A5,c5,rfl,rfl,hk,hy,hyn,hnk,ho5,hbr⟩:=hrel;have f1:IntKind.i64.wrap ((k:Int)+1)=(k:Int)+1:=qJ _ (by omega)
  by_cases hlt:k<ns.length
  ·have hd:decide ((k:Int)<(ns.length:Int))=true:=dT (by omega)
   have hd':(k:Int)<(ns.length:Int):=by omega
   have hk0:(0:Int)≤(k:Int):=by omega
   obtain ⟨y,hyk⟩: ∃y,ns[k]?=some y:=⟨ns[k],gE hlt⟩;have hys:=HSM.out y (List.mem_of_getElem? hyk);obtain ⟨bb,off,rfl,hbb,hcell⟩:=((Rd.of_own ho).below hbr).at_ (by omega);have q0:wr.cell? ⟨bb,off+k,none⟩=some (.string y):=hcell _ _ (by rw [sc,List.getElem?_map,hyk];rfl);have hTk:Hid ((ns.take (k+1)).filterMap Z03=(ns.take k).filterMap Z03++(Z03 y).toList):=by
    unfold Hid;rw [List.take_add_one,hyk,List.filterMap_append];cases h9:Z03 y<;>simp [h9]
   clear hcell hyk
   by_cases h66:y.size=66
   ·have d1:((y.size:Int)!=66)=false:=by rw [h66];rfl
    have d2:(2:Int)≤(y.size:Int):=by omega
    have hp:((y.extract 0 2).toList==[111,47])=decide (y.data.toList.take 2=[111,47]):=by
     have h:=ZdG y ⟨#[111,47]⟩;rw [ByteArray.toList_eq ⟨#[111,47]⟩] at h;exact h
    by_cases hpre:y.data.toList.take 2=[111,47]
    ·rw [dT hpre] at hp
     have hid:=qI (ZbJ h66 hpre);have hx:y.extract 2 66=⟨(y.data.toList.drop 2).toArray⟩:=by
      have:=Zaj y 2;rwa [h66] at this
     have hU:=Z7L (y.extract 2 66) wr (by rw [hx];show (List.drop _ _).toArray.size≤_;rw [List.size_toArray,List.length_drop,Zg];omega);rw [show (y.extract 2 66).data.toList=y.data.toList.drop 2 by rw [hx]] at hU;have HU:=qI hU;clear hU hx hpre;go_wp2_with fail;refine HU.out.mono ?_
     cases hu:Zx (y.data.toList.drop 2) with
     | none=>
      rw [hu] at hid;have HI:=qI hid;clear hu HU hid;rintro e w2 ⟨rfl,hb2⟩;go_wp2_with fail;exact ⟨⟨k+1,ys,n,A5,c5,rfl,by go_num,by omega,qI (by rw [hTk.out,HI.out.out,hy.out];simp),hyn,by omega,Zh ho5 hb2,hbr.next hb2⟩,by simp [intOf];omega⟩
     | some q=>
      rw [hu] at hid;have HI:=qI hid;clear hu HU hid;rintro e w2 ⟨q',hq',rfl,hb2⟩;have hb12:=hbr.next hb2;have hs12:=hb12.size;have ho6:=Zh ho5 hb2;have hb78:Below w2.heap.size w2 (w2.alloc (.cells #[.string ⟨q'.toArray⟩] 9)):=(bR _ _).alloc (lR _) _;have ho7:=Zh ho6 hb78;have hR:=Rd.new1 w2 9 (.string ⟨q'.toArray⟩);go_wp2_with (at_builtin;refine ZfK rfl _ _ 38 9 (.string ⟨#[]⟩) 16 rfl Tryz.underlying38 Za2 rfl w1.heap.size (.slice A5 n c5) n (sc ys) rfl ho7 _ _ 1 1 [.string ⟨q'.toArray⟩] rfl hR (by intro u hu;obtain rfl:=List.mem_singleton.1 hu;rfl) (by unfold maxLen;omega) (by omega) (by simp;omega) ?_;intro A9 c9 w9 ho9 hb9 hg9 _ _ _);go_wp2_with fail;refine ⟨⟨k+1,ys++[idS q],n+1,A9,c9,rfl,by go_num,by omega,qI (by rw [hTk.out,HI.out.out,hy.out];rfl),qI (by rw [List.length_append,hyn.out];rfl),by omega,?_,(hb12.next hb78).trans hb9⟩,by simp [intOf];omega⟩;have hq:=hq'.out;subst hq;rw [Zch];exact ho9
    ·rw [qF hpre] at hp
     have hno:=qI (Z6l (y:=y) fun h=>hpre h.2);clear hpre;go_wp2_with fail;exact ⟨⟨k+1,ys,n,A5,c5,rfl,by go_num,by omega,qI (by rw [hTk.out,hno.out,hy.out];simp),hyn,by omega,ho5,hbr⟩,by simp [intOf];omega⟩
   ·have d1:((y.size:Int)!=66)=true:=bne_iff_ne.2 (by omega)
    have hno:=qI (Z6l (y:=y) fun h=>h66 h.1);go_wp2_with fail;exact ⟨⟨k+1,ys,n,A5,c5,rfl,by go_num,by omega,qI (by rw [hTk.out,hno.out,hy.out];simp),hyn,by omega,ho5,hbr⟩,by simp [intOf];omega⟩
  ·have hd:decide ((k:Int)<(ns.length:Int))=false:=qF (by omega)
   have hall:Hid (ys=idsO D):=by
    unfold Hid;rw [HID.out,hy.out,List.take_of_length_le (by omega)]
   go_wp2_with fail;go_ret;have hyo:=hyn.out;subst hyo;exact ⟨ys,A5,c5,hall,rfl,ho5.base hb.size,hb.next hbr⟩
end
end Go.Proofs.YtecpbcmpncgokaaGreat
namespace Go.Proofs.YtecpbcmpncgokaaGreat
open Go.RowKit Go.Dol
theorem ZdP {L B:Nat} {D:Dk} (h:OkG L B D) (hl:D.l.length+1≤L) (hB:2621449≤B) (raw:LU):OkG L B (putO geS D raw).2:=by
 by_cases h1:ZB geS raw=false
 ·rw [Z7h _ _ _ h1]
  exact h
 ·have h2:ZB geS raw=true:=by simpa using h1
  rw [Z9h h2]
  cases getO geS D (idO raw) with
  | ok b=>
   simp only;split<;>exact h
  | error k=>
   simp only;split
   ·exact h
   ·split<;>exact h.save _ _ hl (lT (Z4l h2) hB)
theorem ZcS {L B:Nat} {D:Dk} (h:OkG L B D) (id:BA):OkG L B (Go.Dol.dropO D id).2:=by
 unfold Go.Dol.dropO;split
 ·exact h
 ·split
  ·exact h.rem _
  ·exact h
def loo7 (q:Int) (id:BA) (raw:LU) (k:Int) (D:Dk):Dk:=
 if q=3 then D else if q=4 then (Go.Dol.dropO D id).2 else if q=5 then (cutD D k).2 else if q=6 then onD D else (Go.Dol.putO geS D raw).2
abbrev OkL7 (k:Nat) (D:Dk):Prop:=OkG (3518437208780+k) 140737488351232 D
theorem OkL7.next {k:Nat} {D:Dk} (h:OkL7 k D) (q:Int) (id:BA) (raw:LU) {j:Int} (hj:j≤9223372036854775807):OkL7 (k+1) (loo7 q id raw j D):=by
 have h1:OkL7 (k+1) D:=h.mono (by omega) (by omega);unfold loo7;split
 ·exact h1
 split
 ·exact ZcS h1 id
 split
 ·exact h1.cut hj
 split
 ·exact h1.on
 ·exact ZdP h1 (by have:=h.len;omega) (by omega) raw
end Go.Proofs.YtecpbcmpncgokaaGreat
set_option linter.unusedVariables false
namespace Go.Dol
open Go.RowKit
theorem ZcO {acc l m:List Fil} (h:ZJ acc l=some m): ∀f∈m,f∈acc∨f∈l:=by
 induction l generalizing acc with
 | nil=>
  have:acc=m:=by simpa [ZJ] using h
  subst this;exact fun f hf=> .inl hf
 | cons g q ih=>
  unfold ZJ at h;split at h
  ·cases h
  ·intro f hf
   rcases ih h f hf with h1 | h1
   ·rcases Z38 f h1 with h2 | h2
    ·exact .inr (by rw [h2];exact List.mem_cons_self ..)
    ·exact .inl h2
   ·exact .inr (List.mem_cons_of_mem _ h1)
theorem ZbI {cap k:Int} {l:List Fil} {D:Dk} (h:Z1o cap l=(some D,k)):k=0∧0≤cap∧cap≤1099511627776∧D.cap=cap∧ZJ [] l=some D.l∧D=⟨cap,D.l,0,-1,false⟩∧ ¬frD D<0:=by
 unfold Z1o at h
 by_cases hc:cap<0∨1099511627776<cap
 ·rw [if_pos hc] at h
  cases h
 ·rw [if_neg hc] at h
  cases hm:ZJ [] l with
  | none=>rw [hm] at h;cases h
  | some m=>
   rw [hm] at h;simp only at h
   by_cases hf:frD ⟨cap,m,0,-1,false⟩<0
   ·rw [if_pos hf] at h
    cases h
   ·rw [if_neg hf] at h
    injection h with h1 h2
    injection h1 with h1
    subst h1;exact ⟨h2.symm,by omega,by omega,rfl,rfl,rfl,hf⟩
end Go.Dol
namespace Go.Proofs.YtecpbcmpncgokaaGreat
open Go.RowKit Go.Dol
theorem ZcP {cap k:Int} {fs:List FilA} {D:Dk} (h:Z1o cap (fs.map FilA.f)=(some D,k)) (hnl:fs.length≤3518437208780) (hsm: ∀x∈fs,x.n.size≤140737488351232∧x.b.length≤140737488351232):
  OkG 3518437208780 140737488351232 D∧D.left= -1∧D.dark=false∧D.cap=cap∧D.done=0:=by
 obtain ⟨_,h0,h1,hc,hl,hD,hf⟩:=ZbI h;have e1:D.left= -1:=by rw [hD]
 have e2:D.dark=false:=by rw [hD]
 have e3:D.done=0:=by rw [hD]
 refine ⟨⟨Z3L hl List.Pairwise.nil,by omega,by omega,by omega,by omega,Zad hl (fun f hf=>(List.not_mem_nil hf).elim),?_,fun f hf=> ?_⟩,e1,e2,hc,e3⟩
 ·have h2:=Z8Y hl
  rw [List.length_map,List.length_nil] at h2;omega
 ·rcases ZcO hl f hf with h2 | h2
  ·exact (List.not_mem_nil h2).elim
  ·obtain ⟨x,hx,rfl⟩:=List.mem_map.1 h2
   exact (hsm x hx).2
end Go.Proofs.YtecpbcmpncgokaaGreat
