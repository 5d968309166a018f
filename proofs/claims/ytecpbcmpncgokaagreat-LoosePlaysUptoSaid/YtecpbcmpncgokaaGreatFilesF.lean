/- The walk of the law LoosePlays. Conditions: at most 3,518,437,208,780 files; names and bytes of each below 2^47; ids of at most 1048576 bytes. How an argument of files reads: a list of names and bytes, and what the second form's bound says of them. Conditions: none. -/
import Derived.Test.YtecpbcmpncgokaaGreatBoth
import Derived.Test.YtecpbcmpncgokaaGreatLoadOk
import Derived.Test.YtecpbcmpncgokaaGreatLooR
import Derived.Test.YtecpbcmpncgokaaGreatOp7
import Derived.Deep.CutBlock
import Derived.Deep.DeepCutAuto
import Derived.Test.YtecpbcmpncgokaaGreatShort
import Derived.Test.YtecpbcmpncgokaaGreatTw
import Derived.Deep.Slices
import Derived.Deep.Fields
import Derived.ChangeSame
set_option linter.unusedVariables false
namespace Go.Proofs.YtecpbcmpncgokaaGreat
open Go.RowKit Go.Dol
def Zgw (s:List Op7) (g m gr:Nat) (w:World) (i:Value) (wr:World):Prop:=
 ∃(k:Nat) (D:Dk),i= .int .i64 k∧k≤s.length∧k≤40∧OkL7 k D∧Dsk wr g m D∧Rdk wr gr D∧Below w.heap.size w wr
set_option maxRecDepth 100000 in
set_option maxHeartbeats 25600000 in
theorem loosePlays_walk (cap:Int) (A:OA) (fs:List FilA) (c:Nat) (As:OA) (s:List Op7) (cs:Nat) (w:World) (wi:(Lit.int .i64 cap).wf=true) (hr:Rd w w.heap.size 2 A fs.length (fc fs)) (hR:Fls8 w w.heap.size fs) (hnl:fs.length≤3518437208780) (hsm: ∀x∈fs,x.n.size≤140737488351232∧x.b.length≤140737488351232)
  (hrs:Rd w w.heap.size 15 As s.length (o15 s)) (hop: ∀x∈s,OpRd w w.heap.size x) (hsl:s.length≤140737488351232) (hos: ∀x∈s,x.raw.length≤140737488351232∧x.o.en.length≤140737488351232∧x.o.pa.length≤140737488351232∧x.id.size≤1048576):
  Calls Tryz.prog 9 #[.int .i64 cap,.slice A fs.length c,.slice As s.length cs] w fun e w'=>e= .returned (.bool true)∧Below w.heap.size w w':=by
 clear wi;have HA:=qI (Z9j w);obtain ⟨cap',hcap⟩: ∃c,bits .and .i64 cap 1048575=c:=⟨_,rfl⟩;have hm:=ZeP cap 20 1048575 rfl (by omega);rw [hcap] at hm;go_in;go_wp2_with fail;refine HA.out.mono ?_;rintro e w1 ⟨rfl,hb1⟩;clear HA;have hs1:=hb1.size;have hBo:=Z98 cap A fs fs.length c rfl w1 ((hr.belowW hb1 (lR _)).more hs1) ((hR.below hb1).more hs1) (by omega) (fun x hx=>by have:=hsm x hx;omega) cap' hm hcap;obtain ⟨ld,hld⟩: ∃ld,ld=Z1o cap' (fs.map FilA.f):=⟨_,rfl⟩;rw [←hld] at hBo;have HBo:=qI hBo;obtain ⟨od,ec⟩:=ld;have hend: ∀W:World,Hid (Calls Tryz.prog 45 #[.slice none 0 0] W fun e w'=>e= .returned (.string (idO []))∧Below W.heap.size W w'):=fun W=>Z3b none [] 0 W Rd.nil (by decide);clear hBo hcap hr hR
 cases od with
 | none=>
  clear hld;go_wp2_with fail;refine HBo.out.mono ?_;rintro e w2 ⟨rfl,hb2⟩;have hb02:=hb1.next hb2;go_wp2_with fail;go_loopw [10] (fun i wr=>wr=w2) (fun i _=>0)
  case atStart=>rfl
  case round=>
   obtain rfl:=hrel;go_wp2_with fail;refine (hend _).out.mono ?_;rintro e w3 ⟨rfl,hb3⟩;go_wp2_with fail;refine (Z7k _ _).mono ?_;rintro e w4 ⟨rfl,hw4⟩;obtain rfl:=hw4.symm;go_wp2_with fail;have hlit:Rd (w3.alloc (.cells #[.int .u8 2,.int .u8 0] 5)) (w3.heap.size+1) 1 (some ⟨w3.heap.size,0,none⟩) 2 (bc [2,0]):=by
    have hB:=Blk.new w3 5 (bc [2,0]);refine ⟨rfl,fun _=>⟨w3.heap.size,0,rfl,by omega,fun j u hu=> ?_⟩⟩;rw [Nat.zero_add];exact (hB.cell j).trans hu
   have hb34:Below w3.heap.size w3 (w3.alloc (.cells #[.int .u8 2,.int .u8 0] 5)):=(bR _ _).alloc (lR _) _;refine (Z7l (some ⟨w3.heap.size,0,none⟩) [2,0] 2 (hlit.more (by simp)) (by decide) (by decide) (by decide)).mono ?_;rintro e w5 ⟨rfl,hb5⟩;go_wp2_with fail;refine (hend _).out.mono ?_;rintro e w6 ⟨rfl,hb6⟩;go_wp2_with fail;refine (Z6k _ _).mono ?_;rintro e w7 ⟨rfl,hw7⟩;obtain rfl:=hw7.symm;go_wp2_with fail;refine (Z6j _).mono ?_;rintro e w8 ⟨⟨A8,c8,rfl⟩,hb8⟩;go_wp2_with fail;go_ret;exact ⟨by simp,((((hb02.next hb3).next hb34).next hb5).next hb6).next hb8⟩
 | some D0=>
  obtain ⟨hG,_,_,_,_⟩:=ZcP hld.symm hnl hsm;have hT0:OkL7 0 D0:=hG;clear hld hG;go_wp2_with fail;refine HBo.out.mono ?_;rintro e w2 ⟨g,m,gr,rfl,hA2,hR2,hg2,hm2,hgr2,hb2⟩;have hb02:=hb1.next hb2;have hg:w.heap.size≤g:=by omega
  have hmm:w.heap.size≤m:=by omega
  have hgr:w.heap.size≤gr:=by omega
  clear hg2 hm2 hgr2 hb1 hb2 hs1 HBo;go_wp2_with fail;go_loopw [10] (fun i wr=>Zgw s g m gr w i wr) (fun i _=>s.length-(intOf i).toNat)
  case atStart=>exact ⟨0,D0,rfl,zL _,by omega,hT0,hA2,hR2,hb02⟩
  case round=>
   clear hA2 hR2 hb02 hT0;obtain ⟨k,D,rfl,hk,hk40,hT,hA,hR,hb⟩:=hrel;have hs:=hb.size;have f1:IntKind.i64.wrap ((k:Int)+1)=(k:Int)+1:=qJ _ (by omega)
   by_cases hkk:k<s.length∧k<40
   ·obtain ⟨hlt,hlt4⟩:=hkk
    have hd:decide ((k:Int)<(s.length:Int))=true:=dT (by omega);have hd':(k:Int)<(s.length:Int):=by omega
    have hd2:decide ((k:Int)<40)=true:=dT (by omega);have hd2':(k:Int)<40:=by omega
    have hk0:(0:Int)≤(k:Int):=by omega
    have hK:OkW D:=hT.mono (by omega) (by omega);obtain ⟨x,hx⟩: ∃x,s[k]?=some x:=⟨s[k],gE hlt⟩;have hxm:=List.mem_of_getElem? hx;obtain ⟨bb,off,rfl,hbb,hcell⟩:=(hrs.below hb).at_ (by omega);have hQ: ∀j u,j<15→x.cells[j]?=some u→wr.cell? ⟨bb,off+k*15+j,none⟩=some u:=fun j u hj hu=>by
     rw [Nat.add_assoc];exact hcell _ _ ((Ze5 hx j hj).trans hu)
    obtain ⟨⟨o1,o2,o3,o4⟩,⟨x1,x2,x3⟩,x4,x5,x6,x7⟩:=hop x hxm;have hnv:x.n≤9223372036854775807:=by simp [Lit.wf] at x7;omega
    obtain ⟨l1,l2,l3,l4⟩:=hos x hxm;obtain ⟨wh,iv,⟨kk,Ad,d,cd,Ae,en,ce,tr,Ap,pa,cp,ta,na,who,st,te⟩,xA,raw,xc,xid,nv⟩:=x;simp only at o1 o2 o3 o4 x1 x2 x3 x4 x5 x6 x7 l1 l2 l3 l4 hnv;have q0:wr.cell? ⟨bb,off+k*15,none⟩=some (.int .i64 wh):=hQ 0 _ (by decide) rfl;have q1:wr.cell? ⟨bb,off+k*15+1,none⟩=some (.int .i64 iv):=hQ 1 _ (by decide) rfl;have q2:wr.cell? ⟨bb,off+k*15+2,none⟩=some (.int .i64 kk):=hQ 2 _ (by decide) rfl;have q3:wr.cell? ⟨bb,off+k*15+3,none⟩=some (.slice Ad d.length cd):=hQ 3 _ (by decide) rfl;have q4:wr.cell? ⟨bb,off+k*15+4,none⟩=some (.slice Ae en.length ce):=hQ 4 _ (by decide) rfl;have q5:wr.cell? ⟨bb,off+k*15+5,none⟩=some (.string tr):=hQ 5 _ (by decide) rfl;have q6:wr.cell? ⟨bb,off+k*15+6,none⟩=some (.slice Ap pa.length cp):=hQ 6 _ (by decide) rfl;have q7:wr.cell? ⟨bb,off+k*15+7,none⟩=some (.string ta):=hQ 7 _ (by decide) rfl;have q8:wr.cell? ⟨bb,off+k*15+8,none⟩=some (.string na):=hQ 8 _ (by decide) rfl;have q9:wr.cell? ⟨bb,off+k*15+9,none⟩=some (.string who):=hQ 9 _ (by decide) rfl;have q10:wr.cell? ⟨bb,off+k*15+10,none⟩=some (.int .i64 st):=hQ 10 _ (by decide) rfl;have q11:wr.cell? ⟨bb,off+k*15+11,none⟩=some (.string te):=hQ 11 _ (by decide) rfl;have q12:wr.cell? ⟨bb,off+k*15+12,none⟩=some (.slice xA raw.length xc):=hQ 12 _ (by decide) rfl;have q13:wr.cell? ⟨bb,off+k*15+13,none⟩=some (.string xid):=hQ 13 _ (by decide) rfl;have q14:wr.cell? ⟨bb,off+k*15+14,none⟩=some (.int .i64 nv):=hQ 14 _ (by decide) rfl;clear hcell hQ hx hxm hrs hop hos;obtain ⟨W0,hW0⟩: ∃W,W=wr.alloc (.cells #[.int .i64 wh,.int .i64 iv,.int .i64 kk,.slice Ad d.length cd,.slice Ae en.length ce,.string tr,.slice Ap pa.length cp,.string ta,.string na,.string who,.int .i64 st,.string te,.slice xA raw.length xc,.string xid,.int .i64 nv] 81):=⟨_,rfl⟩;have hX0:Blk W0 wr.heap.size 81 [.int .i64 wh,.int .i64 iv,.int .i64 kk,.slice Ad d.length cd,.slice Ae en.length ce,.string tr,.slice Ap pa.length cp,.string ta,.string na,.string who,.int .i64 st,.string te,.slice xA raw.length xc,.string xid,.int .i64 nv]:=by rw [hW0];exact Blk.new wr 81 _
    have hbX0:Below wr.heap.size wr W0:=by rw [hW0];exact (bR wr.heap.size wr).alloc (lR _) _
    have hA0:=hA.below hbX0;have hR0:=hR.below hbX0;have hb0:=hb.next hbX0;have hgl:=hA.lt;have hrl:=hR.lt;have hxg:wr.heap.size≠g:=by omega
    have hxm:wr.heap.size≠m:=by omega
    have hxr:some wr.heap.size≠some gr:=fun e=>by injection e with e;omega
    go_upto_region 7 with (fail)
    rw [←hW0];clear hW0 q0 q1 q2 q3 q4 q5 q6 q7 q8 q9 q10 q11 q12 q13 q14;have y13:W0.cell? ⟨wr.heap.size,13,none⟩=some (.string xid):=by rw [hX0.cell];rfl
    have HI:=qI (Z4E hR0 hK);go_wp2_with fail;refine HI.out.mono ?_;rintro e w3 ⟨ys,A3,c3,hys,rfl,ho3,hb3⟩;have hA3:=hA0.below hb3;have hR3:=hR0.below hb3;have hX3:=hX0.below hb3 hX0.lt;have hb03:=hb0.next hb3;have y1:w3.cell? ⟨wr.heap.size,1,none⟩=some (.int .i64 iv):=by rw [hX3.cell];rfl
    clear HI y13;go_upto_region 9 with (fail)
    go_cut [69] (fun v wx=> ∃t:Bool,v= .bool t∧(t=true→0<iv∧0<ys.length)∧wx=w3)
    case first=>
     by_cases hpos:0<iv
     ·have d1:decide (iv>0)=true:=dT hpos
      have d1':decide (0<iv)=true:=dT hpos
      by_cases hyl:0<ys.length
      ·have d2:decide ((ys.length:Int)>0)=true:=dT (by omega)
       have d2':decide ((0:Int)<(ys.length:Int))=true:=dT (by omega);have d2p:(0:Int)<(ys.length:Int):=by omega
       go_wp2_with fail;go_meet;exact ⟨true,rfl,fun _=>⟨hpos,hyl⟩,rfl⟩
      ·have d2:decide ((ys.length:Int)>0)=false:=qF (by omega)
       have d2':decide ((0:Int)<(ys.length:Int))=false:=qF (by omega);have d2p: ¬(0:Int)<(ys.length:Int):=by omega
       go_wp2_with fail;go_meet;exact ⟨false,rfl,(fun h=>by cases h),rfl⟩
     ·have d1:decide (iv>0)=false:=qF hpos
      have d1':decide (0<iv)=false:=qF hpos;go_wp2_with fail;go_meet;exact ⟨false,rfl,(fun h=>by cases h),rfl⟩
    case rest=>
    obtain ⟨t,rfl,ht,hwx⟩:=hcut;obtain rfl:=hwx.symm;rename_i a9;refine a9 _ _ ?_;go_cut [12] (fun v wx=> ∃id:BA,v= .string id∧id.size≤1048576∧wx=w3)
    case first=>
     cases t with
     | false=>
      clear ht;go_wp2_with fail;go_meet;exact ⟨xid,rfl,l4,rfl⟩
     | true=>
      obtain ⟨hpos,hyl⟩:=ht rfl;obtain ⟨j,hj⟩: ∃j:Nat,(j:Int)=iv%(ys.length:Int):=⟨(iv%(ys.length:Int)).toNat,by have:=Int.emod_nonneg iv (b:=(ys.length:Int)) (by omega);omega⟩;have hjl:j<ys.length:=by have:=Int.emod_lt_of_pos iv (b:=(ys.length:Int)) (by omega);omega
      have hyb:ys.length≤3518437208880:=by
       rw [hys.out];unfold idsO;exact lT (List.length_filterMap_le _ _) (by rw [List.length_map];exact hK.len)
      have r1:((ys.length:Int)==0)=false:=beq_eq_false_iff_ne.2 (by omega);have r2:iv.tmod (ys.length:Int)=(j:Int):=by rw [Int.tmod_eq_emod_of_nonneg (by omega)];exact hj.symm
      have r3:IntKind.i64.wrap (j:Int)=(j:Int):=qJ _ (by omega);have r4:(j:Int)<(ys.length:Int):=by omega
      have r5:(0:Int)≤(j:Int):=by omega
      obtain ⟨b3,p3,rfl,_,hc3⟩:=(Rd.of_own ho3).at_ hyl;have q1:w3.cell? ⟨b3,p3+j,none⟩=some (.string ys[j]):=hc3 _ _ (by rw [sc,List.getElem?_map,gE hjl];rfl);have h32:(ys[j]).size≤1048576:=by
       have h1:ys[j]∈idsO D:=by rw [←hys.out];exact List.getElem_mem hjl
       rw [((ZdL hK.ord).1 h1).1]
       decide
      obtain ⟨y,hy⟩: ∃y,y=ys[j]:=⟨_,rfl⟩;rw [←hy] at q1 h32;clear hj hc3 hy hyl ht;go_wp2_with fail;go_meet;exact ⟨y,rfl,h32,rfl⟩
    case rest=>
    as_aux_lemma=>
    obtain ⟨id,rfl,hid,hwx⟩:=hcut;obtain rfl:=hwx.symm;have hs03:=hb03.size;obtain ⟨q,hq⟩: ∃q,bits .and .i64 wh 7=q:=⟨_,rfl⟩;have z2:w3.cell? ⟨wr.heap.size,2,none⟩=some (.int .i64 kk):=by rw [hX3.cell];rfl
    have z3:w3.cell? ⟨wr.heap.size,3,none⟩=some (.slice Ad d.length cd):=by rw [hX3.cell];rfl
    have z4:w3.cell? ⟨wr.heap.size,4,none⟩=some (.slice Ae en.length ce):=by rw [hX3.cell];rfl
    have z5:w3.cell? ⟨wr.heap.size,5,none⟩=some (.string tr):=by rw [hX3.cell];rfl
    have z6:w3.cell? ⟨wr.heap.size,6,none⟩=some (.slice Ap pa.length cp):=by rw [hX3.cell];rfl
    have z7:w3.cell? ⟨wr.heap.size,7,none⟩=some (.string ta):=by rw [hX3.cell];rfl
    have z8:w3.cell? ⟨wr.heap.size,8,none⟩=some (.string na):=by rw [hX3.cell];rfl
    have z9:w3.cell? ⟨wr.heap.size,9,none⟩=some (.string who):=by rw [hX3.cell];rfl
    have z10:w3.cell? ⟨wr.heap.size,10,none⟩=some (.int .i64 st):=by rw [hX3.cell];rfl
    have z11:w3.cell? ⟨wr.heap.size,11,none⟩=some (.string te):=by rw [hX3.cell];rfl
    have HE:=qI (Z00 kk Ad d cd Ae en ce tr Ap pa cp ta na who st te w3 ((o1.belowW hb03 (lR _)).more hs03) ((o2.belowW hb03 (lR _)).more hs03) ((o3.belowW hb03 (lR _)).more hs03) (by omega) (by omega) (qI o4.out.1));go_upto_region 11 with (fail)
    clear y1;go_cut [14] (fun v wx=> ∃(A:OA) (l:LU) (c:Nat),v= .slice A l.length c∧Far wx w.heap.size A l∧l.length≤c∧c≤maxLen∧l.length≤140737488351232∧Below w3.heap.size w3 wx)
    case first=>
     go_wp2_with fail;refine HE.out.mono ?_;rintro e w4 ⟨hb4,⟨hc,l,A4,c4,el,rfl,ho4⟩ | ⟨hc,rfl⟩⟩
     ·have hobj:ZB geS l=true:=by rw [el.out];exact (by unfold ZB;rw [Zfc hc];rfl)
      have hfew:=Z5z l hobj;have hol:=Z3w ho4;clear el hc hobj;go_wp2_with fail;go_meet;exact ⟨A4,l,c4,rfl,Far.of_seg (Seg.of_own ho4),hol.1,hol.2,by omega,hb4⟩
     ·clear hc
      go_wp2_with fail;go_meet;exact ⟨none,[],0,rfl,Far.nil,lR _,zL _,by decide,hb4⟩
    case rest=>
    as_aux_lemma=>
    obtain ⟨A4,l4,c4,rfl,hf4,hc4,hcm4,hl4,hb4⟩:=hcut;have hA4:=hA3.below hb4;have hR4:=hR3.below hb4;have hX4:=hX3.below hb4 hX3.lt;have hb04:=hb03.next hb4;have hs04:=hb04.size;have hfx:Far wc w.heap.size xA raw:=x1.below hb04;clear HE hA3 hR3 hX3 hb03 hb4 z2 z3 z4 z5 z6 z7 z8 z9 z10 z11;have z0:wc.cell? ⟨wr.heap.size,0,none⟩=some (.int .i64 wh):=by rw [hX4.cell];rfl
    have z12:wc.cell? ⟨wr.heap.size,12,none⟩=some (.slice xA raw.length xc):=by rw [hX4.cell];rfl
    go_upto_region 12 with (fail)
    go_cut [87] (fun v wx=>v= .bool (q==7)∧wx=wc)
    case first=>
     go_wp2_with fail;go_meet;exact ⟨rfl,rfl⟩
    case rest=>
    obtain ⟨rfl,hwx⟩:=hcut;obtain rfl:=hwx.symm;refine (by assumption: ∀(a:Act) (w:World),_→_) _ _ ?_;go_cut [14] (fun v wx=> ∃(A:OA) (l:LU) (c:Nat),v= .slice A l.length c∧Far wx w.heap.size A l∧l.length≤c∧c≤maxLen∧l.length≤140737488351232∧wx=wc)
    case first=>
     by_cases h7:q=7
     ·have e7:(q==7)=true:=beq_iff_eq.2 h7
      clear h7 hq;go_wp2_with fail;go_meet;exact ⟨xA,raw,xc,rfl,hfx,x2,x3,l1,rfl⟩
     ·have e7:(q==7)=false:=beq_eq_false_iff_ne.2 h7
      clear h7 hq;go_wp2_with fail;go_meet;exact ⟨A4,l4,c4,rfl,hf4,hc4,hcm4,hl4,rfl⟩
    case rest=>
    as_aux_lemma=>
    obtain ⟨A5,l5,c5,rfl,hf5,hc5,hcm5,hl5,hwx⟩:=hcut;obtain rfl:=hwx.symm;clear hf4 hc4 hcm4 hl4 hfx z12;have hlenD:=hT.len;have hX4l:=hX4.lt;go_upto_block 2 with (fail)
    go_cut [16] (fun v wx=>v= .bool true∧ ∃D9:Dk,Hid (loo7 q id l5 nv D=D9)∧Dsk wx g m D9∧Rdk wx gr D9∧Below w.heap.size w wx)
    case first=>
     by_cases h3:q=3
     ·as_aux_lemma=>
      have hsp:Hid (loo7 q id l5 nv D=D):=by unfold Hid loo7;rw [if_pos h3]
      subst h3;obtain ⟨r,hr⟩: ∃r,r=getO geS D id:=⟨_,rfl⟩;have hC1:=Z3c hA4 hK id (by omega);rw [←hr] at hC1;have HR:=qI hr;clear hr
      cases r with
      | error er=>
       have HC1:=qI hC1;clear hC1;go_wp2_with fail;refine HC1.out.mono ?_;rintro e w5 ⟨hb5,rfl⟩;have hR5:=hR4.below hb5;have hC2:=Z2J hR5 hK id (by omega);rw [←HR.out] at hC2;have HC2:=qI hC2;clear hC2;go_wp2_with fail;refine HC2.out.mono ?_;rintro e w6 ⟨hb6,rfl⟩;have cv:(convert 36 9 (.slice none 0 0)).run Tryz.prog w6= .ok (.string ⟨#[]⟩) w6:=Z0L (B:=0) (l:=[]) Rd.nil;go_wp2_with fail;go_meet;exact ⟨rfl,D,hsp,(hA4.below hb5).below hb6,hR5.below hb6,(hb04.next hb5).next hb6⟩
      | ok p=>
       have HC1:=qI hC1;clear hC1;go_wp2_with fail;refine HC1.out.mono ?_;rintro e w5 ⟨hb5,p5,A6,c6,hp5,rfl,ho5,_,_⟩;have hR5:=hR4.below hb5;have hC2:=Z2J hR5 hK id (by omega);rw [←HR.out] at hC2;have HC2:=qI hC2;clear hC2;go_wp2_with fail;refine HC2.out.mono ?_;rintro e w6 ⟨hb6,p6,A7,c7,hp6,rfl,ho6,_,_⟩;obtain rfl:p6=p5:=hp6.out.trans hp5.out.symm;have cv:(convert 36 9 (.slice A6 p6.length c6)).run Tryz.prog w6= .ok (.string (idS p6)) w6:=Z0L (Rd.of_own (Zh ho5 hb6));have cv2:(convert 36 9 (.slice A7 p6.length c7)).run Tryz.prog w6= .ok (.string (idS p6)) w6:=Z0L (Rd.of_own ho6);go_wp2_with fail;go_meet;exact ⟨rfl,D,hsp,(hA4.below hb5).below hb6,hR5.below hb6,(hb04.next hb5).next hb6⟩
     by_cases h4:q=4
     ·as_aux_lemma=>
      have hsp0:loo7 q id l5 nv D=((Go.Dol.dropO D id).2):=by unfold loo7;rw [if_neg (by rw [h4];decide),if_pos h4]
      subst h4;clear h3;obtain ⟨er,D9,hr9⟩: ∃er E,(Go.Dol.dropO D id)=(er,E):=⟨_,_,rfl⟩;rw [hr9] at hsp0;have HR:=qI hr9;clear hr9;have HSP:=qI hsp0;have hC1:=Z6h hA4 hK id (by omega);rw [HR.out] at hC1;have HC1:=qI hC1;clear hC1 hsp0;go_wp2_with fail;refine HC1.out.mono ?_;rintro e w5 ⟨rfl,hA5,ht5⟩;have hR5:=hR4.tw hA4 ht5;have hb5:=Tw.new hb04 ht5 hg hmm;have hC2:=Z7m hR5 hK id (by omega);rw [HR.out] at hC2;have HC2:=qI hC2;clear hC2;go_wp2_with fail;refine HC2.out.mono ?_;rintro e w6 ⟨rfl,hR6,hg6⟩;have hA6:=hA5.ref hR5 hg6;have hb6:=hb5.grown hg6 hb5.size (fun j e=>by injection e with e;omega);go_wp2_with fail;go_meet;exact ⟨rfl,D9,HSP,hA6,hR6,hb6⟩
     by_cases h5:q=5
     ·as_aux_lemma=>
      have hsp0:loo7 q id l5 nv D=((cutD D nv).2):=by unfold loo7;rw [if_neg (by rw [h5];decide),if_neg (by rw [h5];decide),if_pos h5]
      subst h5;clear h3 h4;obtain ⟨er,D9,hr9⟩: ∃er E,(cutD D nv)=(er,E):=⟨_,_,rfl⟩;rw [hr9] at hsp0;have HR:=qI hr9;clear hr9;have HSP:=qI hsp0;have hC1:=Z8x hA4 nv;rw [HR.out] at hC1;have HC1:=qI hC1;clear hC1 hsp0;have y5:wc.cell? ⟨wr.heap.size,14,none⟩=some (.int .i64 nv):=by rw [hX4.cell];rfl
      go_wp2_with fail
      go_region_held3 (fun w'=>w'.cell? ⟨wr.heap.size,14,none⟩=some (.int .i64 nv)) (first | go_keep | assumption)
       (first
        | (go_at_call 25;(with_reducible refine (Z8x hA4.drew nv).mono ?_);rw [HR.out];rintro e w5 ⟨rfl,hA5,ht5⟩;have hX5:=Blk.tw hX4.drew ht5 hxg hxm;have y6:w5.cell? ⟨wr.heap.size,14,none⟩=some (.int .i64 nv):=(by rw [hX5.cell];rfl);have hR5:=hR4.drew.tw hA4.drew ht5;have hb5:=Tw.new hb04.drew ht5 hg hmm)
        | (go_at_call 26;(with_reducible refine (Z9F hR5 nv).mono ?_);rw [HR.out];rintro e w6 ⟨rfl,hR6,hg6⟩;have hX6:=hX5.grown hg6 hxr;have y7:w6.cell? ⟨wr.heap.size,14,none⟩=some (.int .i64 nv):=(by rw [hX6.cell];rfl);have hA6:=hA5.ref hR5 hg6))
      have hb6:=hb5.grown hg6 hb5.size (fun j e=>by injection e with e;omega);go_wp2_with fail;go_meet;exact ⟨rfl,D9,HSP,hA6,hR6,hb6⟩
     by_cases h6:q=6
     ·as_aux_lemma=>
      have hsp0:loo7 q id l5 nv D=(onD D):=by unfold loo7;rw [if_neg (by rw [h6];decide),if_neg (by rw [h6];decide),if_neg (by rw [h6];decide),if_pos h6]
      subst h6;clear h3 h4 h5;obtain ⟨D9,hr9⟩: ∃E,onD D=E:=⟨_,rfl⟩;rw [hr9] at hsp0;have HR:=qI hr9;clear hr9;have HSP:=qI hsp0;have hC1:=ZdB hA4;rw [HR.out] at hC1;have HC1:=qI hC1;clear hC1 hsp0;go_wp2_with fail;refine HC1.out.mono ?_;rintro e w5 ⟨rfl,hA5,ht5⟩;have hR5:=hR4.tw hA4 ht5;have hb5:=Tw.new hb04 ht5 hg hmm;have hC2:=Zb6 hR5;rw [HR.out] at hC2;have HC2:=qI hC2;clear hC2;go_wp2_with fail;refine HC2.out.mono ?_;rintro e w6 ⟨rfl,hR6,hg6⟩;have hA6:=hA5.ref hR5 hg6;have hb6:=hb5.grown hg6 hb5.size (fun j e=>by injection e with e;omega);go_wp2_with fail;go_meet;exact ⟨rfl,D9,HSP,hA6,hR6,hb6⟩
     as_aux_lemma=>
     have n3:(q==3)=false:=beq_eq_false_iff_ne.2 h3;have n4:(q==4)=false:=beq_eq_false_iff_ne.2 h4;have n5:(q==5)=false:=beq_eq_false_iff_ne.2 h5;have n6:(q==6)=false:=beq_eq_false_iff_ne.2 h6;obtain ⟨r,hr⟩: ∃r,r=Go.Dol.putO geS D l5:=⟨_,rfl⟩;have hsp:Hid (loo7 q id l5 nv D=r.2):=by unfold Hid loo7;rw [if_neg h3,if_neg h4,if_neg h5,if_neg h6,hr]
     have hC1:=Z7i hA4 hK (by omega) A5 l5 c5 hf5.1 hc5 hcm5 hl5;rw [←hr] at hC1;have HR:=qI hr;clear hr h3 h4 h5 h6 hq;obtain ⟨r,D9⟩:=r
     cases r with
     | error er=>
      have HC1:=qI hC1;clear hC1;go_wp2_with fail;refine HC1.out.mono ?_;intro e w5 h9;obtain ⟨rfl,hA5,ht5⟩:=h9.err;have hR5:=hR4.tw hA4 ht5;have hb5:=Tw.new hb04 ht5 hg hmm;have hf6:=hf5.tw ht5 (hA4.others hg hmm).1 (hA4.others hg hmm).2;have hC2:=Z4D hR5 hK (by omega) A5 l5 c5 hf6.1 hc5 hcm5 hl5;rw [←HR.out] at hC2;have HC2:=qI hC2;clear hC2 h9;go_wp2_with fail;refine HC2.out.mono ?_;rintro e w6 ⟨h9,hR6,hg6⟩;obtain rfl:e= .returned (.tuple #[.string ⟨#[]⟩,.int .i64 er]):=h9;have hA6:=hA5.ref hR5 hg6;have hb6:=hb5.grown hg6 hb5.size (fun j e=>by injection e with e;omega);go_wp2_with fail;go_meet;exact ⟨rfl,D9,hsp,hA6,hR6,hb6⟩
     | ok ir=>
      have HC1:=qI hC1;clear hC1;go_wp2_with fail;refine HC1.out.mono ?_;intro e w5 h9;obtain ⟨rfl,hA5,ht5⟩:=h9.ok;have hR5:=hR4.tw hA4 ht5;have hb5:=Tw.new hb04 ht5 hg hmm;have hf6:=hf5.tw ht5 (hA4.others hg hmm).1 (hA4.others hg hmm).2;have hC2:=Z4D hR5 hK (by omega) A5 l5 c5 hf6.1 hc5 hcm5 hl5;rw [←HR.out] at hC2;have HC2:=qI hC2;clear hC2 h9;go_wp2_with fail;refine HC2.out.mono ?_;rintro e w6 ⟨h9,hR6,hg6⟩;obtain rfl:e= .returned (.tuple #[.string ir,.int .i64 0]):=h9;have hA6:=hA5.ref hR5 hg6;have hb6:=hb5.grown hg6 hb5.size (fun j e=>by injection e with e;omega);go_wp2_with fail;go_meet;exact ⟨rfl,D9,hsp,hA6,hR6,hb6⟩
    case rest=>
    as_aux_lemma=>
    obtain ⟨rfl,D9,hsp,hA5,hR5,hb5⟩:=hcut;have hT2:OkL7 (k+1) D9:=by have h9:=hT.next q id l5 (j:=nv) hnv;rw [hsp.out] at h9;exact h9
    have hKw:OkW D9:=hT2.mono (by omega) (by omega);have hKL:OkL D9:=OkW.toL hKw;have hrl:(idsO D9).length≤3518437208880:=by unfold idsO;exact lT (List.length_filterMap_le _ _) (by rw [List.length_map];exact hKw.len)
    obtain ⟨od,hod⟩: ∃od,od=opsD D9.done:=⟨_,rfl⟩;have cO: ∀W,Dsk W g m D9→Calls Tryz.prog 29 #[.pointer (some ⟨g,0,none⟩)] W fun e w'=>e= .returned (.int .i64 od)∧w'=W:=by rw [hod];exact fun W h=>ZcH h
    have cc: ∀W,Rdk W gr D9→W.cell? ⟨gr,2,none⟩=some (.int .i64 od):=by
     intro W h;obtain ⟨fs9,A9,c9,_,_,k2,_⟩:=h.row;rw [hod];exact k2
    have cL: ∀(gs:List FilA),Hid (gs.map FilA.f=D9.l)→gs.length≤3518437208880:=by
     intro gs h9;have h1:=congrArg List.length h9.out;rw [List.length_map] at h1;have:=hKL.len;omega
    have hA6:=hA5.drew;have hR6:=hR5.drew;have y6:=cc _ hR6;clear hod hT hf5 hc5 hcm5 hl5 hA4 hR4 hX4 z0 hsp hA5 hR5 hK;go_upto_region 30 with (fail)
    go_region_held3 (fun w'=>w'.cell? ⟨gr,2,none⟩=some (.int .i64 od)) (first | go_keep | assumption)
     (first
      | (go_at_call 29;(with_reducible refine (cO _ hA6).mono ?_);rintro e u0 ⟨rfl,hu0⟩;obtain rfl:=hu0.symm)
      | (go_at_call 46;(with_reducible refine (Z4X hA6 hKw).mono ?_);rintro e u1 ⟨xs,A1,c1,hxs,rfl,ho1,hb1⟩;have hR7:=hR6.below hb1;have y7:=cc _ hR7;have hxl:xs.length≤3518437208880:=(by rw [hxs.out];exact hrl))
      | (go_at_call 50;(with_reducible refine (Z4E hR7 hKw).mono ?_);rintro e u2 ⟨ys,A2,c2,hys,rfl,ho2,hb2⟩;have hR8:=hR7.below hb2;have y8:=cc _ hR8;have hyl:ys.length≤3518437208880:=(by rw [hys.out];exact hrl);have hxy:Hid (xs=ys):=(by unfold Hid;rw [hxs.out,hys.out]))
      | (go_at_call 20;(with_reducible refine (Z6D A1 xs c1 A2 ys c2 u2 _ _ (Rd.of_own (Zh ho1 hb2)) (Rd.of_own ho2) (by omega) (by omega)).mono ?_);rintro e u3 ⟨ub,nq,rfl,hu,hz3⟩;obtain rfl:ub=true:=hu.2 hxy.out;have hb3:Below u2.heap.size u2 u3:=(by rw [hz3];exact (bR _ _).drewN' nq);have hR9:=hR8.below hb3;have y9:=cc _ hR9;have hA9:=((hA6.below hb1).below hb2).below hb3;clear hu hz3)
      | (go_at_call 34;(with_reducible refine (Za7 hA9 hKL).mono ?_);rintro e u4 ⟨gs,A3,c3,hgs,rfl,ho4,hF4,hb4⟩;have hRa:=hR9.below hb4;have ya:=cc _ hRa;have hgl2:=cL gs hgs)
      | (go_at_call 55;(with_reducible refine (Z8q A3 gs c3 u4 (Rd.of_own ho4) hgl2).mono ?_);rintro e u5 ⟨zs,A4,c4,hzs,rfl,ho5,hb6⟩;have hRb:=hRa.below hb6;have yb:=cc _ hRb;have hF5:=hF4.below hb6)
      | (go_at_call 35;(with_reducible refine (Z7G hRb hKL).mono ?_);rintro e u6 ⟨hs7,A5,c5,hhs,rfl,ho6,hF6,hb7⟩;have hRc:=hRb.below hb7;have yc:=cc _ hRc;have hhl:=cL hs7 hhs;have hzl:zs.length≤3518437208880:=(by rw [hzs.out];exact hgl2);have hF7:Fls8 u6 0 zs:=(by rw [hzs.out];exact hF5.below hb7);have hSM:Hid (zs.map FilA.f=hs7.map FilA.f):=(by unfold Hid;rw [hzs.out,hgs.out,hhs.out]))
      | (go_at_call 32;(with_reducible refine (Z6C A4 zs c4 A5 hs7 c5 u6 _ _ _ _ (Rd.of_own (Zh ho5 hb7)) (Rd.of_own ho6) hF7 hF6 (by omega) (by omega)).mono ?_);rintro e u7 ⟨uc,nq2,rfl,hu2,hz7⟩;obtain rfl:uc=true:=hu2.2 hSM.out;have hb8:Below u6.heap.size u6 u7:=(by rw [hz7];exact (bR _ _).drewN' nq2);have hRd:=hRc.below hb8;have yd:=cc _ hRd;have hAd:=(((hA9.below hb4).below hb6).below hb7).below hb8;clear hu2 hz7)
      | (go_at_call 41;(with_reducible refine (Z1C id u7 (by omega)).mono ?_);rintro e u8 ⟨rfl,hb9⟩;have hRe:=hRd.below hb9;have ye:=cc _ hRe)
      | (go_at_call 56;(with_reducible refine (Z12 id u8 (by omega)).mono ?_);rintro e u9 ⟨rfl,hba⟩;have hRf:=hRe.below hba;have yf:=cc _ hRf;have hAf:=(hAd.below hb9).below hba))
    go_wp2_with fail;exact ⟨⟨k+1,D9,by go_num,by omega,by omega,hT2,hAf,hRf,(((((((((hb5.drew).next hb1).next hb2).next hb3).next hb4).next hb6).next hb7).next hb8).next hb9).next hba⟩,by simp [intOf];omega⟩
   ·have hfin: ¬((k:Int)<(s.length:Int)∧(k:Int)<40):=fun h=>hkk ⟨by omega,by omega⟩
    go_upto_region 4 with (fail)
    go_cut [51] (fun v wx=>v= .bool false∧wx=wr)
    case first=>
     by_cases hks:k<s.length
     ·have hd:decide ((k:Int)<(s.length:Int))=true:=dT (by omega)
      have hd':(k:Int)<(s.length:Int):=by omega
      have hd2:decide ((k:Int)<40)=false:=qF (by omega);have hd2': ¬(k:Int)<40:=by omega
      clear hfin hkk;go_wp2_with fail;go_meet;exact ⟨rfl,rfl⟩
     ·have hd:decide ((k:Int)<(s.length:Int))=false:=qF (by omega)
      have hd': ¬(k:Int)<(s.length:Int):=by omega
      clear hfin hkk;go_wp2_with fail;go_meet;exact ⟨rfl,rfl⟩
    case rest=>
    obtain ⟨rfl,hwx⟩:=hcut;obtain rfl:=hwx.symm;clear hfin hkk f1;go_wp2_with fail;refine (hend _).out.mono ?_;rintro e w3 ⟨rfl,hb3⟩;go_wp2_with fail;refine (Z7k _ _).mono ?_;rintro e w4 ⟨rfl,hw4⟩;obtain rfl:=hw4.symm;go_wp2_with fail;have hlit:Rd (w3.alloc (.cells #[.int .u8 2,.int .u8 0] 5)) (w3.heap.size+1) 1 (some ⟨w3.heap.size,0,none⟩) 2 (bc [2,0]):=by
     have hB:=Blk.new w3 5 (bc [2,0]);refine ⟨rfl,fun _=>⟨w3.heap.size,0,rfl,by omega,fun j u hu=> ?_⟩⟩;rw [Nat.zero_add];exact (hB.cell j).trans hu
    have hb34:Below w3.heap.size w3 (w3.alloc (.cells #[.int .u8 2,.int .u8 0] 5)):=(bR _ _).alloc (lR _) _;refine (Z7l (some ⟨w3.heap.size,0,none⟩) [2,0] 2 (hlit.more (by simp)) (by decide) (by decide) (by decide)).mono ?_;rintro e w5 ⟨rfl,hb5⟩;go_wp2_with fail;refine (hend _).out.mono ?_;rintro e w6 ⟨rfl,hb6⟩;go_wp2_with fail;refine (Z6k _ _).mono ?_;rintro e w7 ⟨rfl,hw7⟩;obtain rfl:=hw7.symm;go_wp2_with fail;refine (Z6j _).mono ?_;rintro e w8 ⟨⟨A8,c8,rfl⟩,hb8⟩;go_wp2_with fail;go_ret;exact ⟨by simp,((((hb.next hb3).next hb34).next hb5).next hb6).next hb8⟩
end Go.Proofs.YtecpbcmpncgokaaGreat
set_option linter.unusedVariables false
namespace Go.Proofs.YtecpbcmpncgokaaGreat
open Go.ChangeShapes Go.WideShapes Go.RowKit Go.Deep Go.Dol
section
variable {H:Type} {enc:TypeId×Value→H} {P:Program} {w:World} {base:Nat} {spare:Nat→Bool} {held:Bool}
end
section
variable {H:Type} {enc:TypeId×Value→H} {W:World}
theorem ZbE (l:List FilA): ∀D:Nat→DataW H,(∀i x,l[i]?=some x→Z2n x.f≤16*(Rows.uptoBulk (D i):Nat))→Zo (l.map FilA.f)≤16*(Rows.uptoBulkAll ((List.range l.length).map D):Nat):=by
 induction l with
 | nil=>intro D _;simp [Zo,Rows.uptoBulkAll]
 | cons x r ih=>
  intro D h;have h0:=h 0 x rfl;have h1:=ih (fun i=>D (i+1)) fun i y hy=>h (i+1) y (by simpa using hy);rw [List.length_cons,List.range_succ_eq_map];simp only [List.map_cons,List.map_map,Zo,Rows.uptoBulkAll];have e:(D∘Nat.succ)=fun i=>D (i+1):=rfl;rw [e];omega
def Z5h (x:FilA) (dd:DataW H):Prop:=∃ dz,dd= .agg [.lit (.string x.n.data.toList),dz]∧(dz= .nil∧x.b.length=0∨ ∃es sp,dz= .slice es sp∧es.length=x.b.length)
set_option maxRecDepth 100000 in
theorem ZcL {v:Value} {d:DataW H} {ps:List MemPlace} (A:OA) (len cap:Nat) (hv:v= .slice A len cap) (h:DataW.Trod enc Tryz.prog W 0 (fun _=>true) true 22 v d ps):
  ∃l:List FilA,l.length=len∧Rd W W.heap.size 2 A len (fc l)∧Fls8 W W.heap.size l∧Zo (l.map FilA.f)≤16*(Rows.uptoBulk d:Nat)∧(d= .nil∧len=0∨ ∃es sp,d= .slice es sp∧es.length=len)∧(∀x∈l,∃es sp dd,d= .slice es sp∧dd∈es∧Z5h x dd):=by
 subst hv;obtain ⟨fuel,hf⟩:=h;rcases Z2A Tryz.underlying22 Tryz.underlying110 (by kernel_rfl) (by kernel_rfl) hf with ⟨hcs,hx⟩ | ⟨a,len',cap',m,D,Pl,hcs,_,hl,hm,hmm,hx,hg⟩
 ·simp [Value.cells] at hcs
  obtain ⟨rfl,rfl,rfl⟩:=hcs;exact ⟨[],rfl,Rd.nil,fun x hx=>(List.not_mem_nil hx).elim,by show (0:Int)≤_;omega,.inl ⟨(Prod.mk.inj hx).1,rfl⟩,fun x hx=>(List.not_mem_nil hx).elim⟩
 ·simp [Value.cells] at hcs
  obtain ⟨rfl,rfl,rfl⟩:=hcs
  obtain ⟨l,hll,hle⟩:=Z6U (p:=fun i (x:FilA)=>W.cell? (a.add (i*2+0))=some (.string x.n)∧W.cell? (a.add (i*2+1))=some (.slice x.A x.b.length x.c)∧(Far W W.heap.size x.A x.b∧x.b.length≤x.c∧x.c≤maxLen)∧Z2n x.f≤16*(Rows.uptoBulk (D i):Nat)∧Z5h x (D i)) len (fun i hi=>by
   obtain ⟨ys,n,hD,_,hyl,hgg⟩:=hg i (by simp at hmm;omega);obtain ⟨u0,z0,a0,y0,t0⟩:=hgg 0 _ rfl;obtain ⟨u1,z1,a1,y1,t1⟩:=hgg 1 _ rfl;obtain ⟨s0,e0,e0',_⟩:=DataW.trod_string Tryz.underlying9 t0;obtain rfl:u0= .string s0:=by simpa using e0
   have hys:ys=[z0,z1]:=by
    match ys,hyl with
    | [p,q],_=>
     have e1:p=z0:=by simpa using y0
     have e2:q=z1:=by simpa using y1
     rw [e1,e2]
   have hz0:z0.1= .lit (.string s0.data.toList):=by rw [e0']
   have hs0:s0.data.toList.length=s0.size:=by rw [Array.length_toList];rfl
   have hDi:Rows.uptoBulk (D i)=s0.size+1+(Rows.uptoBulk z1.1+0)+1:=by
    rw [hD,hys];simp only [List.map_cons,List.map_nil,Rows.uptoBulk,Rows.uptoBulkAll,hz0,hs0]
   have key: ∀(A:OA) (ln cp:Nat),u1= .slice A ln cp→ ∃x:FilA,W.cell? (a.add (i*2+0))=some (.string x.n)∧W.cell? (a.add (i*2+1))=some (.slice x.A x.b.length x.c)∧(Far W W.heap.size x.A x.b∧x.b.length≤x.c∧x.c≤maxLen)∧Z2n x.f≤16*(Rows.uptoBulk (D i):Nat)∧Z5h x (D i):=by
    intro A ln cp hu;subst hu;obtain ⟨b,hb,hr,hc,hcm,hd⟩:=Z7f (d:=z1.1) (ps:=z1.2) ⟨n,t1⟩;subst hb;refine ⟨⟨s0,b,A,cp⟩,a0,a1,⟨Far.of_rd hr (lR _),hc,hcm⟩,?_,⟨z1.1,by rw [hD,hys,List.map_cons,List.map_cons,List.map_nil,hz0],hd⟩⟩;have hbl:b.length+1≤Rows.uptoBulk z1.1:=by
     rcases hd with ⟨e,h0⟩ | ⟨es,sp,e,h0⟩
     ·rw [e,h0];simp [Rows.uptoBulk]
     ·have:=Z2y es
      rw [e];simp only [Rows.uptoBulk];omega
    show 16+(s0.size:Int)+(b.length:Int)≤_
    rw [hDi];omega
   rcases open_ints Tryz.underlying36 Tryz.underlying5 (by kernel_rfl) t1 with ⟨hcs,_⟩ | ⟨x,l1,c1,zs,hcs,_⟩
   ·exact key none 0 0 (by simpa using hcs)
   ·exact key (some x) l1 c1 (by simpa using hcs))
  have hd:d= .slice ((List.range len).map D) ((List.range (m-len)).map fun j=>D (len+j)):=(Prod.mk.inj hx).1
  refine ⟨l,hll,?_,fun x hx=> ?_,?_,.inr ⟨_,_,hd,by simp⟩,fun x hx=>by
   obtain ⟨i,hi⟩:=List.getElem?_of_mem hx;have hil:=(List.getElem?_eq_some_iff.1 hi).1
   exact ⟨_,_,D i,hd,List.mem_map.2 ⟨i,List.mem_range.2 (by omega),rfl⟩,(hle i x hi).2.2.2.2⟩⟩
  ·refine Z2B (by omega) (by rw [Z1B,hll]) fun j u hu=> ?_
   have hj:=(List.getElem?_eq_some_iff.1 hu).1;rw [Z1B] at hj;have hk:j/2<l.length:=by omega
   obtain ⟨g0,g1⟩:=Z0X (gE hk);obtain ⟨c0,c1,_⟩:=hle (j/2) _ (gE hk);have h3:j%2=0∨j%2=1:=by omega
   rcases h3 with h3 | h3
   ·rw [show j=j/2*2 by omega] at hu ⊢
    rw [g0] at hu;rw [←hu];exact c0
   ·rw [show j=j/2*2+1 by omega] at hu ⊢
    rw [g1] at hu;rw [←hu];exact c1
  ·obtain ⟨i,hi⟩:=List.getElem?_of_mem hx
   exact (hle i x hi).2.2.1
  ·have h1:=ZbE l D fun i x hi=>(hle i x hi).2.2.2.1
   rw [hll] at h1;rw [hd];simp only [Rows.uptoBulk];omega
end
theorem ZbF {H:Type} {L:List (DataW H)} {d:DataW H} {l:List FilA} (hk:Rows.uptoSmall H L=true) (hm:d∈L) (hp: ∀x∈l,∃es sp dd,d= .slice es sp∧dd∈es∧Z5h x dd): ∀x∈l,x.n.size≤140737488351232∧x.b.length≤140737488351232:=by
 intro x hx;obtain ⟨es,sp,dd,rfl,hmm,dz,rfl,hz⟩:=hp x hx;have h1:=Z4V hk;have h2:=Z2T hm;have h3:=Z2T hmm;have e:x.n.data.toList.length=x.n.size:=by rw [Array.length_toList];rfl
 have b:x.b.length≤Rows.uptoBulk dz:=by
  rcases hz with ⟨rfl,h0⟩ | ⟨es',sp',rfl,h0⟩
  ·omega
  ·have:=Z2y es'
   simp only [Rows.uptoBulk];omega
 simp only [Rows.uptoBulk,Rows.uptoBulkAll] at h2 h3;omega
end Go.Proofs.YtecpbcmpncgokaaGreat
