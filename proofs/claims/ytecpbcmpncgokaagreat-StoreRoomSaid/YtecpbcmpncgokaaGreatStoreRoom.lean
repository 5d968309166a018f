/- The walks of the layer 'disk', its tenth part: a disk out of files. Conditions: names and bytes together below 2^46. The layer 'store': what a repack needs, and where there is less. Conditions: none. The walk of the law's turning of files: theirs. Conditions: fewer than 3518437208880 files. The walk of the document's SameFiles: are two rows of files the same? Conditions: fewer than 3518437208883 files. The walk of the layer 'disk': its files, written out. Conditions: a disk in good order. The walk of the law StoreRoom: a repack is refused just where it lacks room. Conditions: objects that read. -/
import Derived.Test.YtecpbcmpncgokaaGreatIter
import Derived.Test.YtecpbcmpncgokaaGreatDiskLaw
import Derived.Test.YtecpbcmpncgokaaGreatWordsA
import Derived.StillTailTactics
import Derived.Deep.RegionHeld3
import Derived.Test.YtecpbcmpncgokaaGreatShort
import Derived.Test.YtecpbcmpncgokaaGreatStoTwo
import Derived.Test.YtecpbcmpncgokaaGreatStoLaw
import Derived.BigQuiet
import Derived.Deep.DeepCutAuto
import Derived.Test.YtecpbcmpncgokaaGreatRefDisk
set_option maxRecDepth 100000
set_option maxHeartbeats 1600000
set_option linter.unusedVariables false
namespace Go.Proofs.YtecpbcmpncgokaaGreat
open Go.RowKit Go.Dol
theorem Zda (w:World) (g m:Nat) (n:BA) (b:LU) (A:OA) (c:Nat) (k1:w.cell? ⟨g,1,none⟩=some (.map (some m))) (hf:(Instr.lookup 140 (.map (some m)) (.string n) true).run Tryz.prog w= .ok (.tuple #[.slice A b.length c,.bool true]) w)
  (hn:n.size≤140737488355328) (hb:b.length≤140737488355328):
  Calls Tryz.prog 105 #[.pointer (some ⟨g,0,none⟩),.string n] w fun e w'=>e= .returned (.int .i64 (16+(n.size:Int)+(b.length:Int)))∧w'=w:=by
 have f1:IntKind.i64.wrap (16+(n.size:Int))=16+(n.size:Int):=qJ _ (by omega);have f2:IntKind.i64.wrap (16+(n.size:Int)+(b.length:Int))=16+(n.size:Int)+(b.length:Int):=qJ _ (by omega);go_in;go_wp2_with fail;go_ret;exact ⟨rfl,rfl⟩
def memD (cap:Int) (l:List Fil):Dk:=⟨cap,l,0,-1,false⟩
def ZjD (cap:Int) (fs:List FilA) (g m:Nat) (w:World) (i:Value) (wr:World):Prop:=
 ∃(k:Nat) (l:List Fil),i= .int .i64 k∧k≤fs.length∧Hid (Z0E [] ((fs.take k).map FilA.f)=some l)∧Dsk wr g m (memD cap l)∧Below w.heap.size w wr
def Zek (w:World) (r:Option Dk×Int) (e:Ending) (w':World):Prop:=
 match r.1 with
 | none=>e= .returned (.tuple #[.pointer none,.int .i64 r.2])∧Below w.heap.size w w'
 | some D=> ∃g m,e= .returned (.tuple #[.pointer (some ⟨g,0,none⟩),.int .i64 r.2])∧Dsk w' g m D∧w.heap.size≤g∧w.heap.size≤m∧Below w.heap.size w w'
theorem Zbv (cap:Int) (A:OA) (fs:List FilA) (n c:Nat) (hn:n=fs.length) (w:World) (hr:Rd w w.heap.size 2 A n (fc fs)) (hR:Fls8 w w.heap.size fs) (hcap: -9223372036854775808≤cap∧cap≤9223372036854775807) (hnl:fs.length≤140737488355328) (hsm: ∀x∈fs,x.n.size≤140737488355328∧x.b.length≤140737488355328):
  Calls Tryz.prog 66 #[.int .i64 cap,.slice A n c] w (Zek w (Z5r cap (fs.map FilA.f))):=by
 have HN:=qI hn;clear hn
 by_cases hc:cap<0∨1099511627776<cap
 ·have HF:Hid (Z5r cap (fs.map FilA.f)=(none,1)):=if_pos hc
  go_in;go_wp2_with ((go_at_call 38;refine (Zbz cap _ hc).mono ?_;rintro e w1 ⟨rfl,hw1⟩;obtain rfl:=hw1.symm));go_ret2;rw [HF.out];exact ⟨rfl,bR _ _⟩
 ·have hc1:0≤cap:=by omega
  have hc2:cap≤1099511627776:=by omega
  have HF:Hid (Z5r cap (fs.map FilA.f)=match Z0E [] (fs.map FilA.f) with | none=>(none,1) | some m=>if frD ⟨cap,m,0,-1,false⟩<0 then (none,4) else (some ⟨cap,m,0,-1,false⟩,0)):=if_neg hc;go_in;go_wp2_with ((go_at_call 38;refine (Z4Q cap _ hc1 hc2).mono ?_;rintro e w1 ⟨g,m,rfl,hD1,hg1,hm1,hb1⟩));obtain ⟨W0,hW0⟩: ∃W0,W0=w1:=⟨_,rfl⟩;rw [←hW0] at hD1 hb1 ⊢;clear hW0;go_loopw [20] (fun i wr=>ZjD cap fs g m w i wr) (fun i _=>fs.length-(intOf i).toNat)
  case atStart=>exact ⟨0,[],rfl,zL _,rfl,hD1,hb1⟩
  case round=>
   clear hD1 hb1;obtain ⟨k,l,rfl,hk,hl,hD,hb⟩:=hrel;have hkn:k≤n:=by rw [HN.out];exact hk
   have hlen47:k≤140737488355328:=by omega
   have hgl:=hD.lt;have hO:InOrder l:=ZbD hl.out List.Pairwise.nil
   by_cases hlt:k<n
   ·have hd:decide ((k:Int)<(n:Int))=true:=dT (by omega)
    have hlt2:k<fs.length:=by rw [←HN.out];exact hlt
    obtain ⟨x,hx⟩: ∃x,fs[k]?=some x:=⟨fs[k],gE hlt2⟩;obtain ⟨x1,x2⟩:=Z3a hx;have hxm:=List.mem_of_getElem? hx;have hrw:=hr.belowW hb (lR _);obtain ⟨bb,off,rfl,hbb,hcell⟩:=hrw.at_ (by omega);have q0:wr.cell? ⟨bb,off+k*2,none⟩=_:=hcell _ _ x1;have q1:wr.cell? ⟨bb,off+k*2+1,none⟩=_:=hcell _ _ x2;have hxf:=(hR x hxm).1.below hb;have hxs:=hsm x hxm;have hnext:(fs.take (k+1)).map FilA.f=(fs.take k).map FilA.f++[x.f]:=by rw [List.take_add_one,hx];simp
    have hall:fs.map FilA.f=(fs.take (k+1)).map FilA.f++(fs.drop (k+1)).map FilA.f:=by rw [←List.map_append,List.take_append_drop]
    obtain ⟨xn,xb,xA,xc⟩:=x;change (fs.take (k+1)).map FilA.f=(fs.take k).map FilA.f++[(xn,xb)] at hnext;have hsn:Z0E [] ((fs.take k).map FilA.f++[(xn,xb)])=if Z4 xn=false∨(Z1 l xn).isSome=true then none else some (putF l xn xb):=Zdj hl.out (xn,xb)
    rw [←hnext] at hsn;simp only at q0 q1 hxf hxs;have hxn:xn.size≤140737488355328:=by omega
    have hxb:xb.length≤140737488355328:=by omega
    have HS:=qI hsn;have HA:=qI hall;have HX:=qI hnext;clear hx x1 x2 hcell hrw hsn hall hnext hxm hr;have hF1:=Blk.new wr 107 [.string xn,.slice xA xb.length xc];have hb1:=(bR wr.heap.size wr).alloc (lR _) (.cells #[.string xn,.slice xA xb.length xc] 107);have hb2:=hb1.alloc hb1.size (.cells #[.string xn] 9);have hF2:=hF1.alloc (.cells #[.string xn] 9);have hr2:Rd ((wr.alloc (.cells #[.string xn,.slice xA xb.length xc] 107)).alloc (.cells #[.string xn] 9)) (wr.heap.size+1+1) 1 (some ⟨wr.heap.size+1,0,none⟩) [xn].length (sc [xn]):=by
     have:=Rd.new1 (wr.alloc (.cells #[.string xn,.slice xA xb.length xc] 107)) 9 (.string xn);rw [World.size_alloc] at this;exact this
    obtain ⟨W2,hW2⟩: ∃W2,W2=(wr.alloc (.cells #[.string xn,.slice xA xb.length xc] 107)).alloc (.cells #[.string xn] 9):=⟨_,rfl⟩;change Blk ((wr.alloc (.cells #[.string xn,.slice xA xb.length xc] 107)).alloc (.cells #[.string xn] 9)) _ _ _ at hF2;rw [←hW2] at hb2 hF2 hr2;have hD2:=hD.below hb2;have hf2:=hxf.below hb2;have p0:W2.cell? ⟨wr.heap.size,0,none⟩=some (.string xn):=by rw [hF2.cell];rfl
    have p1:W2.cell? ⟨wr.heap.size,1,none⟩=some (.slice xA xb.length xc):=by rw [hF2.cell];rfl
    have hw2:=hb.next hb2;have hnm:=Z0J _ _ [xn] 1 W2 hr2 (by simp);have hHa:=Z0n hD2 hO xn (by unfold maxLen;omega);obtain ⟨is,his⟩: ∃is,is=(Z1 l xn).isSome:=⟨_,rfl⟩;change Calls _ _ _ _ (fun e w'=>e= .returned (.bool (Z1 l xn).isSome)∧w'=W2) at hHa;rw [←his] at hHa;have eB:[xn].all Z4=Z4 xn:=by simp
    rw [eB] at hnm;clear eB hF1 hb1
    cases hB:Z4 xn with
    | false=>
     have HE:Hid (Z0E [] (fs.map FilA.f)=none):=by
      unfold Hid;rw [HA.out];refine Z7B ?_;rw [HS.out,if_pos (.inl hB)]
     rw [hB] at hnm;have HNM:=qI hnm;clear hnm hB;go_wp2_with fail;rw [←hW2];clear hW2;refine HNM.out.mono ?_;rintro e w3 ⟨rfl,hw3⟩;obtain rfl:=hw3.symm;go_wp2_with fail;go_ret2;rw [HF.out,HE.out];exact ⟨rfl,hw2⟩
    | true=>
     rw [hB] at hnm
     cases is with
     | true=>
      have HE:Hid (Z0E [] (fs.map FilA.f)=none):=by
       unfold Hid;rw [HA.out];refine Z7B ?_;rw [HS.out,if_pos (.inr his.symm)]
      have HNM:=qI hnm;have HHA:=qI hHa;clear hnm hHa hB his;go_wp2_with fail;rw [←hW2];clear hW2;refine HNM.out.mono ?_;rintro e w3 ⟨rfl,hw3⟩;obtain rfl:=hw3.symm;go_wp2_with fail;refine HHA.out.mono ?_;rintro e w3 ⟨rfl,hw3⟩;obtain rfl:=hw3.symm;go_wp2_with fail;go_ret2;rw [HF.out,HE.out];exact ⟨rfl,hw2⟩
     | false=>
      have HE:Hid (Z0E [] ((fs.take (k+1)).map FilA.f)=some (putF l xn xb)):=by
       unfold Hid;rw [HS.out,if_neg];rintro (h | h)
       ·rw [hB] at h;cases h
       ·rw [←his] at h;cases h
      have HNM:=qI hnm;have HHA:=qI hHa;have hlk:Z1 l xn=none:=by cases h:Z1 l xn with | none=>rfl | some d=>rw [h] at his;cases his
      have HLK:=qI hlk;clear hnm hHa hB his hlk;go_wp2_with fail;rw [←hW2];clear hW2;refine HNM.out.mono ?_;rintro e w3 ⟨rfl,hw3⟩;obtain rfl:=hw3.symm;go_wp2_with fail;refine HHA.out.mono ?_;rintro e w3 ⟨rfl,hw3⟩;obtain rfl:=hw3.symm;go_wp2_with fail;obtain ⟨al,hBd,hM,hFl⟩:=id hD2;obtain ⟨kl,hkl⟩:=Z4j xn (by unfold maxLen;omega);have r0:W2.cell? ⟨g,1,none⟩=some (.map (some m)):=by rw [hBd.cell];rfl
      have hCl:=Z33 W2.heap.size xA xb xb.length xc rfl W2.drew hf2.1.drew hxb;have HCl:=qI hCl;have hgl2:=hBd.lt;have hml2:=hM.lt;have hgm:=hM.blk_ne hBd;have hsz2:=hb2.size;have hxl:wr.heap.size<W2.heap.size:=hF2.lt;clear hCl
      go_region_held3 (fun w'=>w'.cell? ⟨g,1,none⟩=some (.map (some m))∧w'.cell? ⟨wr.heap.size,0,none⟩=some (.string xn)∧w'.cell? ⟨wr.heap.size,1,none⟩=some (.slice xA xb.length xc))
       (first | exact ⟨u1,u2,u3⟩ | exact ⟨v1,v2,v3⟩ | go_keep) ((first
        | (go_at_call 93;(with_reducible refine HCl.out.mono ?_);rintro e w3 ⟨l',A',c',he,rfl,ho3,hb3,_,_⟩;
                    have hb3':Below W2.heap.size W2 w3:=((bR W2.heap.size W2).drew).trans hb3;have v1:w3.cell? ⟨g,1,none⟩=some (.map (some m)):=(hb3'.cell (p:=⟨g,1,none⟩) hgl2).trans r0;have v2:w3.cell? ⟨wr.heap.size,0,none⟩=some (.string xn):=(hb3'.cell (p:=⟨wr.heap.size,0,none⟩) hxl).trans p0;have v3:w3.cell? ⟨wr.heap.size,1,none⟩=some (.slice xA xb.length xc):=(hb3'.cell (p:=⟨wr.heap.size,1,none⟩) hxl).trans p1;have hM3:=hM.belowW hb3';have hw3s:=hb3'.size;obtain ⟨al',w4,hrun,hM4,hp4,hg4⟩:=hM3.update Z4i Tryz.underlying140 hkl (.slice A' l'.length c');have u1:w4.cell? ⟨g,1,none⟩=some (.map (some m)):=(World.cell?_of_block (hg4.block g (by omega) (fun e=>by injection e with e;exact hgm e))).trans v1;have u2:w4.cell? ⟨wr.heap.size,0,none⟩=some (.string xn):=(World.cell?_of_block (hg4.block wr.heap.size (by omega) (fun e=>by injection e with e;omega))).trans v2;
                    have u3:w4.cell? ⟨wr.heap.size,1,none⟩=some (.slice xA xb.length xc):=(World.cell?_of_block (hg4.block wr.heap.size (by omega) (fun e=>by injection e with e;omega))).trans v3)))
      go_wp2_with fail;have hb3':Below W2.heap.size W2 w3:=((bR W2.heap.size W2).drew).trans hb3;have hM3:=hM.belowW hb3';have hB4:Blk w4 g 145 (Z5W cap m (frD (memD cap l)) 0 (-1) false):=(hBd.below hb3' hgl2).grown hg4 (fun e=>by injection e with e;exact hgm e);have hv4:Byt w4 (.slice A' l'.length c') xb:=by
       have h5:=Byt.own ho3;rw [he.out] at h5 ⊢;exact h5.keep hg4 (Other.map hM3)
      have hF4:Fls w4 al' (putF l xn xb):=((hFl.below hb3').keep hg4 (Other.map hM3)).put hO hp4 hv4;have hT4:Tw W2 w4 g m:=(Tw.below hb3').step (Tw.grownM hg4);have hsz4:=hT4.size;have hfr:IntKind.i64.wrap (frD (memD cap l)-(16+(xn.size:Int)+(xb.length:Int)))=frD (memD cap (putF l xn xb)):=by
       refine (Z2L (D:=memD cap l) (D':=memD cap (putF l xn xb)) rfl ?_).symm;show Zg (putF l xn xb)=Zg l+_
       rw [Z1u hO,HLK.out]
      obtain ⟨A5,c5,hlk5⟩: ∃A5 c5,(Instr.lookup 140 (.map (some m)) (.string xn) true).run Tryz.prog w4.drew= .ok (.tuple #[.slice A5 xb.length c5,.bool true]) w4.drew:=by
       have hlp:Z1 (putF l xn xb) xn=some xb:=by rw [ZL hO,if_pos rfl]
       rcases Zbu hM4 hF4 (Z05 hO) xn (by unfold maxLen;omega) with ⟨hl,_⟩ | ⟨b',A5,c5,hl,_,_,_,hf,_⟩
       ·rw [hl.out] at hlp;cases hlp
       ·have eb:b'=xb:=by
         have:=hl.out;rw [hlp] at this;injection this with this
         exact this.symm
        subst eb;exact ⟨A5,c5,hf _ rfl⟩
      obtain ⟨W5,hW5⟩: ∃W5,W5=w4.drew:=⟨_,rfl⟩;rw [←hW5] at hlk5;have r0':W5.cell? ⟨g,1,none⟩=some (.map (some m)):=by rw [hW5];exact u1
      have r1':W5.cell? ⟨wr.heap.size,0,none⟩=some (.string xn):=by rw [hW5];exact u2
      have hB5:Blk W5 g 145 (Z5W cap m (frD (memD cap l)) 0 (-1) false):=by rw [hW5];exact hB4.drew
      have hM5:MapL Tryz.prog 9 W5 m al':=by rw [hW5];exact hM4.drew
      have hF5:Fls W5 al' (putF l xn xb):=by rw [hW5];exact hF4.below ⟨rfl,rfl,rfl,lR _,fun _ _=>rfl⟩
      have hT5:Tw W2 W5 g m:=by rw [hW5];exact hT4.drew
      have r2':W5.cell? ⟨g,2,none⟩=some (.int .i64 (frD (memD cap l))):=by rw [hB5.cell];rfl
      have z2':=hB5.free 2;have hco5:=Zda W5 g m xn xb A5 c5 r0' hlk5 hxn hxb;obtain ⟨fr,hfr0⟩: ∃fr,fr=frD (memD cap l):=⟨_,rfl⟩;rw [←hfr0] at hfr r2' hB5;have HFR:=qI hfr0;obtain ⟨fr2,hfr2⟩: ∃fr2,fr2=frD (memD cap (putF l xn xb)):=⟨_,rfl⟩;rw [←hfr2] at hfr;have HFR2:=qI hfr2;have HCO:=qI hco5;have hDn:Dsk (W5.setCell ⟨g,2,none⟩ (.int .i64 fr2)) g m (memD cap (putF l xn xb)):=by
       have hg5:W5.grownBy (W5.setCell ⟨g,2,none⟩ (.int .i64 fr2)) (some g):=Z0 (gR W5 _) 2 _;refine ⟨al',?_,hM5.grown hg5 (fun e=>by injection e with e;exact hgm e.symm),hF5.keep hg5 (Other.blk hB5 (by decide) (zL _))⟩;rw [←HFR2.out];exact hB5.set 2 _
      have hBn:Below w.heap.size w (W5.setCell ⟨g,2,none⟩ (.int .i64 fr2)):=by
       have hg5:W5.grownBy (W5.setCell ⟨g,2,none⟩ (.int .i64 fr2)) (some g):=Z0 (gR W5 _) 2 _;exact Tw.new hw2 (hT5.step (Tw.grown hg5)) hg1 hm1
      clear hfr0 hfr2 hco5 u1 u2 u3 v1 v2 v3 hrun p0 p1 r0 hB4 hF4 hM4 hF5 hM5 hB5 hT4 hT5 hv4;refine wp_region_still_tail 11 (by kernel_rfl) (by kernel_rfl) ?_;change wpStill _ _ (World.drew w4) (fun a'=>wpList _ _ _ _ a' (World.drew w4)) _ _;rw [←hW5];clear hW5;simp only [List.take_succ_cons,List.take_zero,List.drop_succ_cons,List.drop_zero]
      repeat still_step
      still_call HCO.out
      repeat still_step
      refine wpStill_nil ?_;go_wp2_with fail;refine ⟨⟨k+1,putF l xn xb,by go_num,by omega,HE,hDn,hBn⟩,by simp [intOf];omega⟩
   ·have hd:decide ((k:Int)<(n:Int))=false:=qF (by omega)
    have hE:Z0E [] (fs.map FilA.f)=some l:=by
     have h1:=hl.out;rw [List.take_of_length_le (by rw [←HN.out];omega)] at h1;exact h1
    obtain ⟨_,_,r2,_⟩:=hD.cells;obtain ⟨fr,hfr⟩: ∃fr,fr=frD (memD cap l):=⟨_,rfl⟩;rw [←hfr] at r2;have HE:=qI hE;have HFR:=qI hfr;have HF2:Hid (Z5r cap (fs.map FilA.f)=if fr<0 then (none,4) else (some (memD cap l),0)):=by
     unfold Hid;rw [HF.out,HE.out,HFR.out]
     rfl
    clear hE hfr HF
    by_cases hneg:fr<0
    ·have d1:decide (fr<0)=true:=dT hneg
     have HF3:Hid (Z5r cap (fs.map FilA.f)=(none,4)):=by unfold Hid;rw [HF2.out,if_pos hneg]
     clear hneg;go_wp2_with fail;go_ret2;rw [HF3.out];exact ⟨rfl,hb⟩
    ·have d1:decide (fr<0)=false:=qF hneg
     have HF3:Hid (Z5r cap (fs.map FilA.f)=(some (memD cap l),0)):=by unfold Hid;rw [HF2.out,if_neg hneg]
     clear hneg;go_wp2_with fail;go_ret2;rw [HF3.out];exact ⟨g,m,rfl,hD,hg1,hm1,hb⟩
theorem Zdb (cap:Int) (A:OA) (fs:List FilA) (n c:Nat) (hn:n=fs.length) (w:World) (hr:Rd w w.heap.size 2 A n (fc fs)) (hR:Fls8 w w.heap.size fs) (hcap: -9223372036854775808≤cap∧cap≤9223372036854775807) (hsum:Zg (fs.map FilA.f)≤140737488355328):
  Calls Tryz.prog 66 #[.int .i64 cap,.slice A n c] w (Zek w (Z5r cap (fs.map FilA.f))):=Zbv cap A fs n c hn w hr hR hcap (Z9J hsum).1 (Z9J hsum).2
end Go.Proofs.YtecpbcmpncgokaaGreat
set_option linter.unusedVariables false
namespace Go.Proofs.YtecpbcmpncgokaaGreat
open Go.RowKit Go.Dol
theorem ZhB {acc:List Fil} {n:BA} {b:LU} (h: ∀f∈acc,sLt f.1 n=true):Z1 acc n=none∧putF acc n b=acc++[(n,b)]:=by
 induction acc with
 | nil=>exact ⟨rfl,rfl⟩
 | cons f r ih=>
  have hf:=h f (List.mem_cons_self ..);obtain ⟨h1,h2⟩:=ih fun x hx=>h x (List.mem_cons_of_mem _ hx);rw [Z1,if_pos hf,putF,if_pos hf,h1,h2];exact ⟨rfl,rfl⟩
theorem ZfY {acc l:List Fil} (ho:InOrder (acc++l)) (hn: ∀f∈l,Z4 f.1=true):Z0E acc l=some (acc++l):=by
 induction l generalizing acc with
 | nil=>rw [Z0E,List.append_nil]
 | cons f r ih=>
  obtain ⟨h1,h2⟩:=ZhB (n:=f.1) (b:=f.2) fun x hx=>(List.pairwise_append.1 ho).2.2 x hx f (List.mem_cons_self ..);rw [Z0E,h1,h2,if_neg (by rw [hn f (List.mem_cons_self ..)];simp),ih (by rw [List.append_assoc];exact ho) fun x hx=>hn x (List.mem_cons_of_mem _ hx),List.append_assoc]
  rfl
section
variable {D:Dk} {os ks:List (LU)} {b:LU}
theorem Just.fresh (h:Just D os) {x:BA} (hx:Z0I x=true∨ZO x=true):Z1 D.l x=none:=by
 cases hl:Z1 D.l x with
 | none=>rfl
 | some c=>
  obtain ⟨r,_,hr,_⟩:=h.fo.look h.calm.ok.ord hl;rw [hr,Z7f,(Z2x (ZM r)).2.2.1] at hx;rcases hx with hx | hx<;>cases hx
theorem ZfZ (h:Just D os) (hb:ZZ geS os=some b):ZcP geS D [] (os.map idO)=(if os=[] then 0 else 83+(b.length:Int),0):=by
 rw [ZeS,Z4A (fun r hr=>by rw [Z5L];exact h.get hr) h.nodup hb];unfold pkB Zhv
 by_cases h0:os=[]
 ·rw [if_pos h0,if_pos h0]
 ·have h32:=Z2t hb
  rw [if_neg h0,if_neg h0];simp only;rw [h.fresh (.inl (Z5M h32).2.2.2.2),Z1y h32]
  rfl
theorem ZcO (h:Just D os) (h0:os≠[]) (hb:ZZ geS os=some b) (hroom:frD D<83+(b.length:Int)):repQ geS D [] (Z0l geS D [] (os.map idO))=((4,D),[]):=by
 rw [Z4A (fun r hr=>by rw [Z5L];exact h.get hr) h.nodup hb];have h32:=Z2t hb;obtain ⟨b1,b2,b3,b4,b5⟩:=Z5M h32;have hsh:Z1 D.l (shd (Zu b))=none:=h.fresh (.inr (ZbK _));have hsz:=Z1y h32;unfold pkB repQ;rw [if_neg h0];simp only;rw [h.fresh (.inl b5),if_neg (by simp)];rcases Z6k h.calm (n:=Zu b) (b:=b) (fun _=>hsh) with e | ⟨e,_⟩ | ⟨e,_⟩
 ·have hs:=Zbj h.calm.ok.ord h.calm.dark (Zu b) b
  rcases hs with ⟨hbad,_⟩ | ⟨_,_,_,hO⟩
  ·rcases hbad with hb | hb | hb
   ·rw [b2] at hb;cases hb
   ·exact absurd hb b4
   ·rw [b3] at hb;cases hb
  ·rw [e] at hO
   rcases hO.way with ⟨h1,_⟩ | ⟨⟨h1,_⟩ | ⟨h1,_⟩,_⟩<;>cases h1
 ·rw [e]
  rfl
 ·rw [hsz] at e
  omega
theorem Just.load (h:Just D os) {cap:Int} (h1:Zg D.l≤cap) (h2:cap≤1099511627776):Z5r cap D.l=(some (memD cap D.l),0)∧Just (memD cap D.l) os∧frD (memD cap D.l)=cap-Zg D.l:=by
 have h0:=Z0o D.l;have hk:OkD (memD cap D.l):=⟨h.calm.ok.ord,by show 0≤cap;omega,h2,h1,by show (-1:Int)≤ -1;omega,by show (-1:Int)≤_;omega,h.calm.ok.names⟩;have hf:frD (memD cap D.l)=cap-Zg D.l:=hk.free;refine ⟨?_,⟨⟨hk,rfl,rfl⟩,h.objs,h.nodup,h.files⟩,hf⟩;unfold Z5r;rw [if_neg (by omega),ZfY (acc:=[]) h.calm.ok.ord h.calm.ok.names];simp only;rw [if_neg (by show ¬frD (memD cap D.l)<0;rw [hf];omega)]
 rfl
end
end Go.Proofs.YtecpbcmpncgokaaGreat
set_option linter.unusedVariables false
namespace Go.Proofs.YtecpbcmpncgokaaGreat
open Go.RowKit Go.Dol
theorem Z9a:(Tryz.prog.info? 110).map (fun i=>(i.zero,i.size,i.bytes))=some (some (.agg #[.string ⟨#[]⟩,.slice none 0 0]),2,40):=by kernel_rfl
def Zb8 (w:World) (fs:List FilA) (e:Ending) (w':World):Prop:=
 ∃(ys:List FilA) (A:OA) (c:Nat),Hid (ys=fs)∧e= .returned (.slice A ys.length c)∧w'.ownsRow w.heap.size 110 2 (.slice A ys.length c) ys.length (fc ys)∧Below w.heap.size w w'
def Zb9 (fs:List FilA) (w:World) (q i:Value) (wr:World):Prop:=
 ∃(k:Nat) (ys:List FilA) (A:OA) (c:Nat),q= .slice A ys.length c∧i= .int .i64 k∧k≤fs.length∧Hid (ys=fs.take k)∧ys.length=k∧wr.ownsRow w.heap.size 110 2 (.slice A ys.length c) ys.length (fc ys)∧Below w.heap.size w wr
set_option maxRecDepth 100000 in
set_option maxHeartbeats 1600000 in
theorem Z4d (A:OA) (fs:List FilA) (c:Nat) (w:World) (hr:Rd w w.heap.size 2 A fs.length (fc fs)) (hl:fs.length≤3518437208880):
  Calls Tryz.prog 33 #[.slice A fs.length c] w (Zb8 w fs):=by
 go_in;go_wp2_with fail;go_loopw [3,4] (fun q i wr=>Zb9 fs w q i wr) (fun _ i _=>fs.length-(intOf i).toNat)
 case atStart=>exact ⟨0,[],none,0,rfl,rfl,zL _,rfl,rfl,World.ownsRow_nil _ _ _ _,bR _ _⟩
 case round=>
  obtain ⟨k,ys,A5,c5,rfl,rfl,hk,hy,hyl,ho,hb⟩:=hrel;have hs:=hb.size
  by_cases hlt:k<fs.length
  ·have hd:decide ((k:Int)<(fs.length:Int))=true:=dT (by omega)
   have hd':(k:Int)<(fs.length:Int):=by omega
   have hk0:(0:Int)≤(k:Int):=by omega
   obtain ⟨x,hx⟩: ∃x,fs[k]?=some x:=⟨fs[k],gE hlt⟩;have hnext:fs.take (k+1)=fs.take k++[x]:=by rw [List.take_add_one,hx];rfl
   have hrw:=hr.belowW hb (lR _);obtain ⟨bb,off,rfl,hbb,hcell⟩:=hrw.at_ (by omega);have q0:wr.cell? ⟨bb,off+k*2,none⟩=_:=hcell _ _ (Z3a hx).1;have q1:wr.cell? ⟨bb,off+k*2+1,none⟩=_:=hcell _ _ (Z3a hx).2;have z2:Below wr.heap.size wr (wr.alloc (.cells x.cells.toArray 110)):=(bR _ _).alloc (lR _) _;have hxr:=(Rd.fileT wr 110 x).drew;have hone:=Zdi [x];have f1:IntKind.i64.wrap ((k:Int)+1)=(k:Int)+1:=qJ _ (by omega);have hyk:ys.length≤3518437208880:=by omega
   obtain ⟨xn,xb,xA,xc⟩:=x;simp only at q0 q1 hxr;have HX:=qI hnext;have HL:=qI hyl;clear hx hcell hrw hnext hr hyl;go_wp2_with fail
   go_region_held3 (fun w'=>w'.cell? ⟨bb,off+k*2,none⟩=some (.string xn)∧w'.cell? ⟨bb,off+k*2+1,none⟩=some (.slice xA xb.length xc)) (first | go_keep | (go_split_ands;refine ⟨?_,?_⟩<;>(rw [z2.cell (p:=⟨bb,_,none⟩) hbb];assumption)))
    ((refine ZeZ (by rfl) (.tmp 11) (.tmp 23) 22 110 _ 2 40 (by rfl) Tryz.underlying22 Z9a rfl (by decide) w.heap.size _ ys.length (fc ys) (by rfl) (World.ownsRow.alloc (w:=World.drew wr) ho _) (wr.heap.size+1) _ 1 1 (fc [⟨xn,xb,xA,xc⟩]) (by rfl) hxr hone (by unfold maxLen;omega) (by omega) (by simp;omega) ?_;intro A' c' w' z1 z2 z3 z4 z5))
   go_wp2_with fail;have hzl:(ys++[(⟨xn,xb,xA,xc⟩:FilA)]).length=ys.length+1:=by rw [List.length_append];rfl
   refine ⟨⟨k+1,ys++[⟨xn,xb,xA,xc⟩],A',c',by rw [hzl],by go_num,by omega,?_,by rw [hzl,HL.out],?_,hb.trans (((bR _ _).alloc hs _).drew.trans z2)⟩,by simp [intOf];omega⟩
   ·unfold Hid
    rw [HX.out,hy.out]
   ·rw [hzl,Z9r]
    exact z1
  ·have hd:decide ((k:Int)<(fs.length:Int))=false:=qF (by omega)
   have hkf:k=fs.length:=by omega
   have hall:ys=fs:=by rw [hy.out,hkf,List.take_length]
   have HA:=qI hall;clear hall hkf;go_wp2_with fail;go_ret;exact ⟨ys,A5,c5,HA,rfl,ho,hb⟩
end Go.Proofs.YtecpbcmpncgokaaGreat
set_option linter.unusedVariables false
namespace Go.Proofs.YtecpbcmpncgokaaGreat
open Go.RowKit Go.Dol
theorem Z8M {x y:BA} (h:x.toList=y.toList):x=y:=by
 rw [ByteArray.toList_eq,ByteArray.toList_eq] at h;exact WideShapes.bytes_inj h
def Zi6 (P:Prop) (w:World) (e:Ending) (w':World):Prop:=∃ (u:Bool) (n:Nat),e= .returned (.bool u)∧(u=true↔P)∧w'=w.drewN n
def ZjG (a b:List FilA) (w:World) (i:Value) (wr:World):Prop:=
 ∃(k q:Nat),i= .int .i64 k∧k≤a.length∧Hid (∀j,j<k→(a.map FilA.f)[j]?=(b.map FilA.f)[j]?)∧Hid (wr=w.drewN q)
set_option maxRecDepth 100000 in
set_option maxHeartbeats 4000000 in
theorem Z73 (A:OA) (a:List FilA) (c:Nat) (A2:OA) (b:List FilA) (c2:Nat) (w:World) (B B2 F F2:Nat) (hr:Rd w B 2 A a.length (fc a)) (hr2:Rd w B2 2 A2 b.length (fc b)) (hF:Fls8 w F a) (hF2:Fls8 w F2 b) (ha:a.length≤3518437208883) (hb:b.length≤3518437208883):
  Calls Tryz.prog 32 #[.slice A a.length c,.slice A2 b.length c2] w (Zi6 (a.map FilA.f=b.map FilA.f) w):=by
 by_cases hl:a.length=b.length
 ·have d0:((a.length:Int)!=(b.length:Int))=false:=by simp;omega
  have HL:=qI hl;have hl1:a.length≤b.length:=by omega
  clear hl;go_in;go_wp2_with fail;go_loopw [5] (fun i wr=>ZjG a b w i wr) (fun i _=>a.length-(intOf i).toNat)
  case atStart=>exact ⟨0,0,rfl,zL _,fun j hj=>by omega,rfl⟩
  case round=>
   obtain ⟨k,q,rfl,hk,hs,hwr⟩:=hrel;have hrw:Rd wr B 2 A a.length (fc a):=by rw [hwr.out];exact hr.drewN q
   have hrw2:Rd wr B2 2 A2 b.length (fc b):=by rw [hwr.out];exact hr2.drewN q
   have f1:IntKind.i64.wrap ((k:Int)+1)=(k:Int)+1:=qJ _ (by omega)
   by_cases h1:k<a.length
   ·have d1:decide ((k:Int)<(a.length:Int))=true:=by simp;omega
    have d1':(k:Int)<(a.length:Int):=by omega
    have d2':(k:Int)<(b.length:Int):=by omega
    have hk0:(0:Int)≤(k:Int):=by omega
    have h2:k<b.length:=by omega
    have hlen1:a.length≤9223372036854775807:=by omega
    obtain ⟨bb,off,rfl,hbb,hcell⟩:=hrw.at_ (by omega);obtain ⟨bb2,off2,rfl,hbb2,hcell2⟩:=hrw2.at_ (by omega);have g1:a[k]?=some a[k]:=gE h1;have g2:b[k]?=some b[k]:=gE h2;obtain ⟨x,hx⟩: ∃x,x=a[k]:=⟨_,rfl⟩;obtain ⟨y,hy⟩: ∃y,y=b[k]:=⟨_,rfl⟩;rw [←hx] at g1;rw [←hy] at g2;have c1:=hcell _ _ (Z3a g1).1;have c2':wr.cell? ⟨bb,off+k*2+1,none⟩=_:=hcell _ _ (Z3a g1).2;have e1:=hcell2 _ _ (Z3a g2).1;have e2:wr.cell? ⟨bb2,off2+k*2+1,none⟩=_:=hcell2 _ _ (Z3a g2).2;have xF:=(hF x (List.mem_of_getElem? g1)).1;have yF:=(hF2 y (List.mem_of_getElem? g2)).1;have m1:(a.map FilA.f)[k]?=some x.f:=by rw [List.getElem?_map,g1];rfl
    have m2:(b.map FilA.f)[k]?=some y.f:=by rw [List.getElem?_map,g2];rfl
    obtain ⟨xn,xb,xA,xc⟩:=x;obtain ⟨yn,yb,yA,yc⟩:=y;simp only at c1 c2' e1 e2 xF yF;have m1':(a.map FilA.f)[k]?=some (xn,xb):=m1;have m2':(b.map FilA.f)[k]?=some (yn,yb):=m2;have v1: ∀j:Nat,(convert 36 9 (.slice xA xb.length xc)).run Tryz.prog (wr.drewN j)= .ok (.string ⟨xb.toArray⟩) (wr.drewN j):=fun j=>by
     have h1:Rd (wr.drewN j) w.heap.size 1 xA xb.length (bc xb):=by rw [hwr.out,World.drewN_drewN];exact xF.1.drewN _
     exact Z0Q h1
    have v2: ∀j:Nat,(convert 36 9 (.slice yA yb.length yc)).run Tryz.prog (wr.drewN j)= .ok (.string ⟨yb.toArray⟩) (wr.drewN j):=fun j=>by
     have h1:Rd (wr.drewN j) w.heap.size 1 yA yb.length (bc yb):=by rw [hwr.out,World.drewN_drewN];exact yF.1.drewN _
     exact Z0Q h1
    have M1:=qI m1';have M2:=qI m2';clear hx hy g1 g2 hcell hcell2 m1 m2 m1' m2' xF yF
    by_cases h3:xn=yn
    ·subst h3
     by_cases h4:xb=yb
     ·subst h4
      have HS:Hid (∀j,j<k+1→(a.map FilA.f)[j]?=(b.map FilA.f)[j]?):=fun j hj=>by
       by_cases hjk:j=k
       ·rw [hjk,M1.out,M2.out]
       ·exact hs.out j (by omega)
      go_wp2_with fail;go_quiet (fail);go_wp2_with fail;refine ⟨⟨k+1,q+nq,by go_num,by omega,HS,by unfold Hid;rw [hwr.out,World.drewN_drewN]⟩,by simp [intOf];omega⟩
     ·have HN:Hid (¬a.map FilA.f=b.map FilA.f):=fun e=>by
       have h5:=M2.out;rw [←e,M1.out] at h5;injection h5 with h5
       injection h5 with h6 h7
       exact h4 h7
      have hne:(xb==yb)=false:=beq_eq_false_iff_ne.2 h4;go_wp2_with fail;go_quiet (fail);go_wp2_with fail;go_ret;exact ⟨false,q+nq,rfl,by simp [HN.out],by rw [hwr.out,World.drewN_drewN]⟩
    ·have HN:Hid (¬a.map FilA.f=b.map FilA.f):=fun e=>by
      have h5:=M2.out;rw [←e,M1.out] at h5;injection h5 with h5
      injection h5 with h6 h7
      exact h3 h6
     have hne:(xn.toList==yn.toList)=false:=beq_eq_false_iff_ne.2 fun e=>h3 (Z8M e);go_wp2_with fail;go_quiet (fail);go_wp2_with fail;go_ret;exact ⟨false,q+nq,rfl,by simp [HN.out],by rw [hwr.out,World.drewN_drewN]⟩
   ·have d1:decide ((k:Int)<(a.length:Int))=false:=by simp;omega
    have d1': ¬(k:Int)<(a.length:Int):=by omega
    have HE:Hid (a.map FilA.f=b.map FilA.f):=List.ext_getElem? fun j=>by
     rcases Nat.lt_or_ge j a.length with hj | hj
     ·exact hs.out j (by omega)
     ·have h4:=HL.out
      rw [List.getElem?_eq_none (by rw [List.length_map];omega),List.getElem?_eq_none (by rw [List.length_map];omega)]
    go_wp2_with fail;go_ret;exact ⟨true,q,rfl,by simp [HE.out],hwr.out⟩
 ·have d0:((a.length:Int)!=(b.length:Int))=true:=by simp;omega
  have HN:Hid (¬a.map FilA.f=b.map FilA.f):=fun e=>hl (by have:=congrArg List.length e;simpa using this);clear hl;go_in;go_wp2_with fail;go_ret;exact ⟨false,0,rfl,by simp [HN.out],rfl⟩
end Go.Proofs.YtecpbcmpncgokaaGreat
set_option linter.unusedVariables false
namespace Go.Proofs.YtecpbcmpncgokaaGreat
open Go.RowKit Go.Dol
theorem Zbx:(Tryz.prog.info? 107).map (fun i=>(i.zero,i.size,i.bytes))=some (some (.agg #[.string ⟨#[]⟩,.slice none 0 0]),2,40):=by kernel_rfl
theorem appG {w:World} {ops:Array Oper} {rest:List Oper} {o:Oper} {a:Act} {Q:Exit→Act→World→Prop} (hgd:o.guard=none) (s x:Operand)
  (ho:o.op= .call { callee:=.builtin .append,args:=#[s,x],argTypes:=#[57,57] })
  (base:Nat) (v:Value) (xs:List FilA) (n:Nat) (hn:n=xs.length) (hs:a.eval s=v) (hown:w.ownsRow base 107 2 v n (fc xs))
  (B:Nat) (A:OA) (m c:Nat) (news:List FilA) (hx:a.eval x= .slice A m c) (hm:m=news.length) (hr:Rd w B 2 A m (fc news))
  (hlen:n+m≤3518437208883) (hbase:base≤w.heap.size)
  (h: ∀(ys:List FilA) (A':OA) (c':Nat) (w':World),Hid (ys=xs++news)→w'.ownsRow base 107 2 (.slice A' ys.length c') ys.length (fc ys)→Below base w w'→w.grownBy w' v.ownBlock→
   wpList Tryz.prog ops Q rest (a.put o.dst (.slice A' ys.length c')) w'):wpList Tryz.prog ops Q (o::rest) a w:=by
 refine Z0m w hgd s x _ ho base _ _ 2 40 Tryz.underlying57 Zbx rfl (by decide) v n (fc xs) hs hown B A m c (fc news) hx hr (Zdi _) (by unfold maxLen;omega) (by omega) hbase ?_;intro A' c' w' h1 h2 h3 h4 h5;have e:n+m=(xs++news).length:=by rw [List.length_append];omega
 rw [←Z9r,e] at h1;rw [e];exact h _ A' c' w' rfl h1 ((bR _ _).grown h2 hbase (fun k hk=>(hown.lt k hk).1)) h2
def Zel (w:World) (L:List Fil) (e:Ending) (w':World):Prop:=
 ∃(fs:List FilA) (A:OA) (c:Nat),Hid (fs.map FilA.f=L)∧e= .returned (.slice A fs.length c)∧w'.ownsRow w.heap.size 107 2 (.slice A fs.length c) fs.length (fc fs)∧Fls8 w' 0 fs∧Below w.heap.size w w'
def ZjE (D:Dk) (B:Nat) (w:World) (q i:Value) (wr:World):Prop:=
 ∃(k:Nat) (fs:List FilA) (A:OA) (c:Nat),q= .slice A fs.length c∧i= .int .i64 k∧k≤D.l.length∧Hid (fs.map FilA.f=D.l.take k)∧fs.length=k∧wr.ownsRow w.heap.size 107 2 (.slice A fs.length c) fs.length (fc fs)∧Fls8 wr B fs∧Below w.heap.size w wr
section
variable {w:World} {g m:Nat} {D:Dk}
set_option maxRecDepth 100000 in
set_option maxHeartbeats 1600000 in
theorem Zby (h:Dsk w g m D) (hK:OkL D):Calls Tryz.prog 34 #[.pointer (some ⟨g,0,none⟩)] w (Zel w D.l):=by
 have HNm:=qI (Z0T h hK);have hlen:=hK.len;have hO:=hK.ord;go_in;go_wp2_with ((go_at_call 59;refine HNm.out.mono ?_;rintro e w1 ⟨A0,c0,rfl,ho1,hb1⟩));have hD1:=h.below hb1;have hgl:=hD1.lt;have hs1:=hb1.size;have hrn:=Rd.of_own ho1;go_loopw [3,9] (fun q i wr=>ZjE D 0 w1 q i wr) (fun _ i _=>D.l.length-(intOf i).toNat)
 case atStart=>exact ⟨0,[],none,0,rfl,rfl,zL _,by simp [Hid],rfl,World.ownsRow_nil _ _ _ _,fun x hx=>(List.not_mem_nil hx).elim,bR _ _⟩
 case round=>
  obtain ⟨k,fs,A,c,rfl,rfl,hk,hf,hfl,ho,hF,hb⟩:=hrel;have hs:=hb.size
  by_cases hlt:k<D.l.length
  ·have hd:decide ((k:Int)<(D.l.length:Int))=true:=dT (by omega)
   have hd':(k:Int)<(D.l.length:Int):=by omega
   have hk0:(0:Int)≤(k:Int):=by omega
   obtain ⟨x,hx⟩: ∃x,D.l[k]?=some x:=⟨D.l[k],gE hlt⟩;have hxm:=List.mem_of_getElem? hx;have hls:Z1 D.l x.1=some x.2:=(Zj hO).2 hxm;have hxn:x.1.size≤140737488355328:=by have h1:=hK.names x hxm;unfold Z4 at h1;simp only [Bool.and_eq_true,decide_eq_true_eq] at h1;omega
   have hxb:=hK.small x hxm;have hsn:(sc (D.l.map Prod.fst))[k]?=some (.string x.1):=by simp [sc,hx]
   have hnext:D.l.take (k+1)=D.l.take k++[x]:=by rw [List.take_add_one,hx];rfl
   have hrw:=hrn.belowW hb (lR _);obtain ⟨bb,off,rfl,hbb,hcell⟩:=hrw.at_ (by omega);have q0:wr.cell? ⟨bb,off+k,none⟩=some (.string x.1):=hcell _ _ hsn;have hDr:=hD1.below hb;obtain ⟨k0,k1,k2,k3,k4,k5⟩:=hDr.cells;have hfind:=hDr.find hO x.1 (by unfold maxLen;omega);obtain ⟨n,b⟩:=x;simp only at hls hxn hxb q0 hfind;rcases hfind with ⟨h0,_,_⟩ | ⟨b',Ab,cb,hlb,hFb,hcb,hcbm,_,hlk⟩
   ·exfalso
    have e0:=h0.out;rw [hls] at e0;cases e0
   ·have hbe:b'=b:=by
     have e0:=hlb.out;rw [hls] at e0;injection e0 with e0
     exact e0.symm
    subst hbe;have hlk1:=hlk wr rfl;have HCl:=qI (Z33 _ Ab b' b'.length cb rfl wr hFb.1 hxb);have HX:=qI hnext;have HL:=qI hfl;have hfk:fs.length≤3518437208880:=by omega
    have f1:IntKind.i64.wrap ((k:Int)+1)=(k:Int)+1:=qJ _ (by omega);clear hlk hx hxm hls hsn hnext hcell hrw hfl hrn hlb
    go_wp2_with (first
     | (go_at_call 93;refine HCl.out.mono ?_;rintro e w2 ⟨l',A',c',he,rfl,ho2,hb2,hl2,hc2⟩)
     | (at_builtin;refine appG rfl (.tmp 13) (.tmp 23) rfl w1.heap.size _ fs fs.length rfl rfl (World.ownsRow.alloc (Zi ho hb2) _) (w2.heap.size+1) _ 1 1 [⟨n,l',A',c'⟩] rfl rfl (Rd.fileT w2 107 ⟨n,l',A',c'⟩) (by omega) (by have:=hb2.size;simp only [World.size_alloc];omega) ?_;intro ys A3 c3 w3 he3 ho3 hb3 hg3))
    have hs2:=hb2.size;have hF2:Fls8 (w2.alloc (.cells #[.string n,.slice A' l'.length c'] 107)) 0 (fs++[⟨n,l',A',c'⟩]):=by
     have hbl:Below w2.heap.size w2 (w2.alloc (.cells #[.string n,.slice A' l'.length c'] 107)):=(bR _ _).alloc (lR _) _;intro y hy;rcases List.mem_append.1 hy with hy | hy
     ·exact ((hF.below hb2).below hbl) y hy
     ·rw [List.mem_singleton.1 hy]
      exact ⟨(Far.of_seg (Seg.of_own ho2)).below hbl,hl2,hc2⟩
    have hF3:=hF2.keep hg3 (Other.own (World.ownsRow.alloc (Zi ho hb2) _) (by decide) (zL _));have hyl:ys.length=k+1:=by rw [he3.out,List.length_append,HL.out];rfl
    go_wp2_with fail;refine ⟨⟨k+1,ys,A3,c3,rfl,by go_num,by omega,?_,hyl,ho3,?_,(hb.trans ((hb2.mono hs).trans (((bR _ _).alloc (by omega) _).trans hb3)))⟩,by simp [intOf];omega⟩
    ·unfold Hid
     rw [he3.out,List.map_append,hf.out,HX.out,←he.out]
     rfl
    ·rw [he3.out]
     exact hF3
  ·have hd:decide ((k:Int)<(D.l.length:Int))=false:=qF (by omega)
   have hkl:k=D.l.length:=by omega
   have hall:fs.map FilA.f=D.l:=by rw [hf.out,hkl,List.take_length]
   have HA:=qI hall;clear hall hkl;go_wp2_with fail;go_ret;exact ⟨fs,A,c,HA,rfl,World.ownsRow.mono ho hs1,hF,hb1.next hb⟩
theorem Z7u (h:Dsk w g m D) (hK:OkD D):Calls Tryz.prog 34 #[.pointer (some ⟨g,0,none⟩)] w (Zel w D.l):=Zby h hK.toL
end
end Go.Proofs.YtecpbcmpncgokaaGreat
set_option linter.unusedVariables false
namespace Go.Proofs.YtecpbcmpncgokaaGreat
open Go.RowKit Go.Dol
theorem Ze5:(Tryz.prog.info? 107).map (fun i=>(i.zero,i.size,i.bytes))=some (some (.agg #[.string ⟨#[]⟩, .slice none 0 0]),2,40):=by kernel_rfl
theorem appD {w:World} {ops:Array Oper} {rest:List Oper} {o:Oper} {a:Act} {Q:Exit→Act→World→Prop} (hgd:o.guard=none) (s x:Operand)
    (ho:o.op= .call { callee:= .builtin .append,args:= #[s,x],argTypes:= #[57,57] })
    (hs:a.eval s= .slice none 0 0) (B:Nat) (A:OA) (c:Nat) (news:List FilA) (hx:a.eval x= .slice A news.length c) (hr:Rd w B 2 A news.length (fc news)) (hlen:news.length≤3518437208883)
    (h: ∀(A':OA) (c':Nat) (w':World),w'.ownsRow w.heap.size 107 2 (.slice A' news.length c') news.length (fc news)→Below w.heap.size w w'→wpList Tryz.prog ops Q rest (a.put o.dst (.slice A' news.length c')) w'):wpList Tryz.prog ops Q (o::rest) a w:=by
  refine Z0m w hgd s x _ ho w.heap.size _ _ 2 40 Tryz.underlying57 Ze5 rfl (by decide) (.slice none 0 0) 0 [] hs (World.ownsRow_nil _ _ _ _) B A news.length c (fc news) hx hr (Zdi _) (by unfold maxLen;omega) (by omega) (lR _) ?_;intro A' c' w' h1 h2 h3 h4 h5;rw [Nat.zero_add,List.nil_append] at h1;rw [Nat.zero_add];exact h A' c' w' h1 ((bR _ _).grown h2 (lR _) (fun k hk=>by cases hk))
theorem Ze6 {l:List Fil} {f:Fil}:Zg (l++[f])=Zg l+(16+(f.1.size:Int)+(f.2.length:Int)):=by
  induction l with
  | nil=>show Z1n f+Zg []=_;unfold Z1n Zg;omega
  | cons x r ih=>show Z1n x+Zg (r++[f])=Z1n x+Zg r+_;rw [ih];omega
def Zk5 (fs:List FilA) (w:World) (v i:Value) (wr:World):Prop:= ∃(k:Nat) (s:Int),v= .int .i64 s∧i= .int .i64 k∧k≤fs.length∧Hid (s=Zg ((fs.take k).map FilA.f))∧0≤s∧s≤52432000∧Below w.heap.size w wr
theorem Z8s {w W:World} {base n:Nat} {A:OA} {c:Nat} {l:List BA} (ho:w.ownsRow base 9 1 (.slice A l.length c) l.length (sc l)) (hn:l.length=n) (hb:Below w.heap.size w W):Rd W W.heap.size 1 A n (sc l):=by
  rw [←hn];exact ((Rd.of_own ho).below hb).more hb.size
set_option maxRecDepth 100000 in
set_option maxHeartbeats 25600000 in
theorem storeRoom_walk (A:OA) (l:List ObA) (c:Nat) (iX:Int) (w:World) (hr:Rd w w.heap.size 10 A l.length (oc l)) (hos:Obs w w.heap.size l) (hl:l.length≤140737488351232) (wi:(Lit.int .i64 iX).wf=true):
    Calls Tryz.prog 14 #[.slice A l.length c, .int .i64 iX] w fun e w'=>e= .returned (.bool true)∧Below w.heap.size w w':=by
  have HA:=qI (Z97 w);obtain ⟨free,hfree⟩: ∃free,bits .and .i64 iX 2047=free:=⟨_,rfl⟩;have hm:=ZhS iX 11 2047 rfl (by omega);rw [hfree] at hm;clear wi;go_in;go_wp2_with fail;refine HA.out.mono ?_;rintro e w1 ⟨rfl,hb1⟩
  have HAd:=qI (ZcK A l c w1 ((hr.below hb1).more hb1.size) (fun x hx=>by
    obtain ⟨h1,h2,h3,h4⟩:=hos.below hb1 x hx
    exact ⟨h1.more hb1.size,h2.more hb1.size,h3.more hb1.size,h4⟩) hl)
  clear HA hr hos;go_wp2_with fail;refine HAd.out.mono ?_;rintro e w2 ⟨g,m,gs,base,gp,D,ps,n,A1,c1,A2,c2,rfl,hpn,hn20,hst2,hJ,hT,hlow,hb2⟩;have hb02:=hb1.next hb2;clear HAd;have hKD:=hJ.out.1.calm.ok;have e1:(ps.map idO).length=n:=by rw [List.length_map];exact hpn.out
  have hno:PkOk (([]:List PkA).map PkA.pk):=fun p hp=>(List.not_mem_nil hp).elim;have hbig: ∀x∈ps.map idO,x.size≤70368744177600:=fun x hx=>by
    obtain ⟨r,_,rfl⟩:=List.mem_map.1 hx;rw [ZM]
    decide
  obtain ⟨b,hb⟩:=Z6m hJ.out.1.objs hJ.out.1.nodup (by rw [hpn.out];omega);have hN:=ZcJ hst2 hKD.toW hno (by decide) A1 n (ps.map idO) c1 e1 (Z8s hT.out.one e1 (bR _ _)) (by omega) hbig;rw [show ([]:List PkA).map PkA.pk=[] from rfl,ZfZ hJ.out.1 hb] at hN;obtain ⟨N,hNe⟩: ∃N,N=(if ps=[] then (0:Int) else 83+(b.length:Int)):=⟨_,rfl⟩;rw [←hNe] at hN;have HN:=qI hN;have HB:=qI hb;have HNe:=qI hNe;have HK:=qI hKD;have HBg:=qI hbig;clear hN hb hNe hKD hbig;go_wp2_with fail;refine HN.out.mono ?_;rintro e w3 ⟨rfl,hb3⟩;have hst3:=hst2.below hb3;have HD:=qI (Z7u hst3.dk HK.out);have hfew:=HK.out.toW.len;clear HN
  go_wp2_with (first
    | (go_at_call 34;(with_reducible refine HD.out.mono ?_)
       rintro e w4 ⟨fs,A4,c4,hfs,rfl,ho4,hF4,hb4⟩;have hfl:Hid (fs.length=n):=by
         have h1:=congrArg List.length hfs.out;rw [List.length_map,hJ.out.1.files.length_eq,List.length_map,hpn.out] at h1
         exact h1)
    | (at_builtin;refine appD rfl _ _ rfl rfl _ A4 c4 fs rfl (Rd.of_own ho4) (by have:=hfl.out;omega) ?_
       intro A5 c5 w5 ho5 hb5))
  have hF5:=hF4.below hb5;have hb25:=(hb3.mono (lR _)).trans ((hb4.mono hb3.size).trans (hb5.mono (lT hb3.size hb4.size)));have hcD:Zg D.l≤52432000:=by
    rw [Z38 hJ.out.1.files];have:=Z5e hJ.out.1.objs;have:=hpn.out;omega
  have hfn:=hfl.out;go_loopw [13,14] (fun v i wr=>Zk5 fs w5 v i wr) (fun _ i _=>fs.length-(intOf i).toNat)
  case atStart=>exact ⟨0,0,rfl,rfl,zL _,rfl,Int.le_refl _,by omega,bR _ _⟩
  case round=>
    clear hF4 ho4 hfn;obtain ⟨k,s,rfl,rfl,hk,hs,hs0,hs1,hbr⟩:=hrel;have f1:IntKind.i64.wrap ((k:Int)+1)=(k:Int)+1:=qJ _ (by have:=hfl.out;omega)
    by_cases h1:k<fs.length
    · have d1:decide ((k:Int)<(fs.length:Int))=true:=dT (by omega)
      have d1':(k:Int)<(fs.length:Int):=by omega
      have hk0:(0:Int)≤(k:Int):=by omega
      obtain ⟨x,hx⟩: ∃x,fs[k]?=some x:=⟨_,gE h1⟩;have hnext:Zg ((fs.take (k+1)).map FilA.f)=s+(16+(x.n.size:Int)+(x.b.length:Int)):=by
        rw [List.take_add_one,hx,hs.out];show Zg ((fs.take k++[x]).map FilA.f)=_
        rw [List.map_append];exact Ze6
      have hle:s+(16+(x.n.size:Int)+(x.b.length:Int))≤52432000:=by
        rw [←hnext,List.map_take,hfs.out];exact Int.le_trans (Zdk _ _) hcD
      have f2:IntKind.i64.wrap (s+16)=s+16:=qJ _ (by omega);have f3:IntKind.i64.wrap (s+16+(x.n.size:Int))=s+16+(x.n.size:Int):=qJ _ (by omega);have f4:IntKind.i64.wrap (s+16+(x.n.size:Int)+(x.b.length:Int))=s+16+(x.n.size:Int)+(x.b.length:Int):=qJ _ (by omega);have HX:=qI hnext;have HLE:=qI hle;obtain ⟨b1,o1,hA1,_,hc1⟩:=((Rd.of_own ho5).below hbr).at_ (by omega);subst hA1;have q0:wr.cell? ⟨b1,o1+k*2,none⟩=_:=hc1 _ _ (Z3a hx).1;have q1:wr.cell? ⟨b1,o1+k*2+1,none⟩=_:=hc1 _ _ (Z3a hx).2;clear hc1 hx hnext hle;go_wp2_with fail;go_quiet (fail);go_wp2_with fail;exact ⟨⟨k+1,_,rfl,by go_num,by omega,qI (by rw [HX.out];omega),by omega,by have:=HLE.out;omega,hbr.drewN' nq⟩,by simp [intOf];omega⟩
    · have d1:decide ((k:Int)<(fs.length:Int))=false:=qF (by omega)
      have d1': ¬(k:Int)<(fs.length:Int):=by omega
      have hsD:s=Zg D.l:=by rw [hs.out,List.take_of_length_le (by omega),hfs.out]
      obtain ⟨hld,hJ2,hfr2⟩:=hJ.out.1.load (cap:=s+free) (by omega) (by omega);have hfr3:frD (memD (s+free) D.l)=free:=by rw [hfr2];omega
      have f5:IntKind.i64.wrap (s+free)=s+free:=qJ _ (by omega);have hLo:=Zdb (s+free) A5 fs fs.length c5 rfl wr (((Rd.of_own ho5).below hbr).more hbr.size) ((hF5.below hbr).more (zL _)) (by omega) (by rw [hfs.out];omega);rw [hfs.out,hld] at hLo;have HLo:=qI hLo;have HJ2:=qI hJ2;have HFr:=qI hfr3;clear hLo hld hJ2 hfr2 hfr3 hs f1 hsD;go_wp2_with fail;refine HLo.out.mono ?_;rintro e w6 ⟨g2,m2,rfl,hD6,hg2,hm2,hb6⟩;have hO:=Z47 hD6 (ZeT HJ2.out.calm.ok);rw [HJ2.out.packs] at hO;have HO:=qI hO;clear hO HLo;go_wp2_with fail;refine HO.out.mono ?_;rintro e w7 ⟨hb7,gs2,base2,gp2,xs2,hxs2,rfl,hgs2,hgp2,hbase2,hst7⟩;obtain rfl:xs2=[]:=List.map_eq_nil_iff.1 hxs2.out;have hb57:=(hbr.next hb6).next hb7;have hr7:=Z8s hT.out.one e1 (hb25.trans (hb57.mono hb25.size));have hRp:=Z2J hst7 (ZeT HJ2.out.calm.ok) (by have:=HJ2.out.calm.ok.lenW;omega) hno (by decide) A1 n (ps.map idO) c1 e1 hr7 (by omega) HBg.out;have HRp:=qI hRp;clear hRp HO hr7;have hs6:=hbr.size;have hs7:=hb6.size;go_wp2_with fail
      by_cases hfn:free<N
      · have z1:decide (free<N)=true:=dT hfn
        have hp0:ps≠[]:=fun e=>by rw [HNe.out,if_pos e] at hfn;omega
        have hRq:=HRp.out;rw [show ([]:List PkA).map PkA.pk=[] from rfl,ZcO HJ2.out hp0 HB.out (by rw [HFr.out];rw [HNe.out,if_neg hp0] at hfn;exact hfn)] at hRq;have HRq:=qI hRq;clear hRq HRp hp0;refine HRq.out.mono ?_;rintro e w8 ⟨rfl,ht8,base3,gp3,xs3,hst8,_,_⟩;have hb58:=Tw3.new hb57 ht8 (by omega) (by omega) (by omega);have HOp:=qI (Z5X hst8.dk);have hop:opsD (memD (s+free) D.l).done=0:=rfl;have HDu:=qI (Z7u hst8.dk HJ2.out.calm.ok);go_wp2_with fail;refine HOp.out.mono ?_;rintro e w9 ⟨rfl,hw9⟩;obtain rfl:=hw9.symm;clear HOp;go_wp2_with fail;refine HDu.out.mono ?_;rintro e w10 ⟨fs2,A10,c10,hfs2,rfl,ho10,hF10,hb10⟩;have hfs2:Hid (fs2.map FilA.f=D.l):=hfs2;have hl2:Hid (fs2.length=n):=by
          have h1:=congrArg List.length (hfs2.out.trans hfs.out.symm);rw [List.length_map,List.length_map,hfl.out] at h1;exact h1
        have HT1:=qI (Z4d A10 fs2 c10 w10 (Rd.of_own ho10) (by have:=hl2.out;omega));clear HDu;go_wp2_with fail;refine HT1.out.mono ?_;rintro e w11 ⟨ys1,A11,c11,hy1,rfl,ho11,hb11⟩;have hb511:=(hb58.next hb10).next hb11;have HT2:=qI (Z4d A5 fs c5 w11 (((Rd.of_own ho5).below hb511).more hb511.size) (by have:=hfl.out;omega));clear HT1;go_wp2_with fail;refine HT2.out.mono ?_;rintro e w12 ⟨ys2,A12,c12,hy2,rfl,ho12,hb12⟩;have HS:=qI (Z73 A11 ys1 c11 A12 ys2 c12 w12 _ _ 0 0 (Rd.of_own (Zi ho11 hb12)) (Rd.of_own ho12) (by rw [hy1.out];exact (hF10.below hb11).below hb12) (by rw [hy2.out];exact (hF5.below hb511).below hb12) (by rw [hy1.out,hl2.out];omega) (by rw [hy2.out,hfl.out];omega));clear HT2;go_wp2_with fail;refine HS.out.mono ?_;rintro e w13 ⟨u,q,rfl,hu,rfl⟩;obtain rfl:u=true:=hu.2 (by rw [hy1.out,hy2.out,hfs2.out,hfs.out]);clear HS hu;go_wp2_with fail;go_ret;exact ⟨rfl,((hb02.next hb25).next (hb511.next hb12)).drewN' q⟩
      · have z1:decide (free<N)=false:=qF hfn
        have hRq:=HRp.out
        obtain ⟨D3,eQ,hP3,_⟩:=Z6R HJ2.out (fun r hr=>hr) hJ.out.1.nodup HB.out (fun h0=>by
          rw [HFr.out];rw [HNe.out,if_neg h0] at hfn
          omega)
        rw [show ([]:List PkA).map PkA.pk=[] from rfl,eQ] at hRq;have HRq:=qI hRq;have HP3:=qI hP3;clear hRq HRp eQ hP3;refine HRq.out.mono ?_;rintro e w8 ⟨rfl,ht8,base3,gp3,xs3,hst8,_,_⟩;have hb58:=Tw3.new hb57 ht8 (by omega) (by omega) (by omega);have HNm:=qI (Zbw hst8.dk HP3.out.calm.ok);have hmin:((D3.l.length:Int)==min 1 (n:Int))=true:=by
          rw [HP3.out.files,ZiC,hpn.out,beq_iff_eq];split<;>omega
        go_wp2_with fail;refine HNm.out.mono ?_;rintro e w9 ⟨A9,c9,rfl,_,hb9⟩;go_wp2_with fail;go_ret;exact ⟨rfl,(hb02.next hb25).next (hb58.next hb9)⟩
end Go.Proofs.YtecpbcmpncgokaaGreat
