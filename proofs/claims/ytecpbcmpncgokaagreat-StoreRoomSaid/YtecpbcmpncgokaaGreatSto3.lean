/- The layer 'store': the walk of clear. Conditions: a disk in good order whose files are below 2^47 - 4096 bytes. Rows of rows of bytes: what reads of them. Conditions: none. The walk of a pack's Build. Conditions: at most 2^40 rows of bytes, each of at most 2^47 - 4096. The layer 'store': the walk of Object. Conditions: a disk in good order, packs in good order. -/
import Derived.Test.YtecpbcmpncgokaaGreatSto4
import Derived.Test.YtecpbcmpncgokaaGreatSto1
import Derived.Test.YtecpbcmpncgokaaGreatSto0
import Derived.Test.YtecpbcmpncgokaaGreatIter
import Derived.Test.YtecpbcmpncgokaaGreatShort
import Derived.Test.YtecpbcmpncgokaaGreatWordsA
import Derived.Test.YtecpbcmpncgokaaGreatRegEnd
import Derived.Test.YtecpbcmpncgokaaGreatLoo2
import Derived.Deep.DeepCutAuto
set_option linter.unusedVariables false
namespace Go.Dol
open Go.RowKit
theorem ZjB (D:Dk):Z1R D []=(0,D):=rfl
theorem Z8i {D:Dk} {n:BA} {r:List BA} (h:(remD D n).1≠0):Z1R D (n::r)=remD D n:=if_pos h
theorem Z3o {D:Dk} {n:BA} {r:List BA} (h:(remD D n).1=0):Z1R D (n::r)=Z1R (remD D n).2 r:=if_neg (by rw [h];decide)
theorem Zjp (D:Dk):Z1V D []=(0,D):=rfl
theorem Z6M {D:Dk} {n:BA} {r:List BA} (h:(dropO D n).1≠0):Z1V D (n::r)=dropO D n:=if_pos h
theorem Z48 {D:Dk} {n:BA} {r:List BA} (h:(dropO D n).1=0):Z1V D (n::r)=Z1V (dropO D n).2 r:=if_neg (by rw [h];decide)
theorem ZcH (D:Dk):(idsO D).length≤D.l.length:=by
 unfold idsO;exact lT (List.length_filterMap_le _ _) (by rw [List.length_map];exact lR _)
theorem Ziv {D:Dk} {z:BA} (hz:z∈idsO D):z.size=32:=by
 unfold idsO at hz;obtain ⟨f,_,hf⟩:=List.mem_filterMap.1 hz;unfold Z0u at hf;split at hf
 ·split at hf
  ·cases hf
  ·split at hf
   ·rename_i h32
    injection hf with hf
    rw [←hf];exact h32
   ·cases hf
 ·cases hf
theorem OkG.dropd {L B:Nat} {D:Dk} (h:OkG L B D) (id:BA):OkG L B (dropO D id).2:=by
 unfold Go.Dol.dropO;split
 ·exact h
 ·split
  ·exact h.rem _
  ·exact h
theorem Z7e {α:Type} {l:List α} {k:Nat} {f:α} (hf:l[k]?=some f):l.drop k=f::l.drop (k+1):=by
 obtain ⟨h1,h2⟩:=List.getElem?_eq_some_iff.1 hf;rw [List.drop_eq_getElem_cons h1,h2]
end Go.Dol
namespace Go.Proofs.YtecpbcmpncgokaaGreat
open Go.RowKit Go.Dol
def ZjY (r:Int×Dk) (L B:Nat) (but:BA) (ns:List BA) (n g m:Nat) (w:World) (i:Value) (wr:World):Prop:=
 ∃(k:Nat) (D:Dk),i= .int .i64 k∧k≤n∧Hid (r=Z1R D (butL but (ns.drop k)))∧OkG L B D∧Dsk wr g m D∧Tw w wr g m
def Zjq (r:Int×Dk) (L B:Nat) (ids:List BA) (n g m:Nat) (w:World) (i:Value) (wr:World):Prop:=
 ∃(k:Nat) (D:Dk),i= .int .i64 k∧k≤n∧Hid (r=Z1V D (ids.drop k))∧OkG L B D∧Dsk wr g m D∧Tw w wr g m
section
variable {w w':World} {base gp gs g m:Nat} {xs:List PkA} {D:Dk}
set_option maxRecDepth 100000 in
set_option maxHeartbeats 6400000 in
theorem ZcI (h:Sto w gs g m base gp D xs) (hK:OkG 3518437208880 140737488351232 D) (but:BA):
  Calls Tryz.prog 131 #[.pointer (some ⟨gs,0,none⟩),.string but] w (Z0D w g m (Z0P geS D but)):=by
 obtain ⟨r,hr⟩: ∃r,r=Z0P geS D but:=⟨_,rfl⟩;rw [←hr];have HR:=qI hr;clear hr;have k0:w.cell? ⟨gs,0,none⟩=some (.pointer (some ⟨g,0,none⟩)):=by rw [h.st.cell];rfl
 have hst:=h.st;have hgm:=h.lt;have hd:=h.dk;have HP:=qI (Z5g hd hK);obtain ⟨q,hq⟩: ∃q,q=Zv geS D.l:=⟨_,rfl⟩;rw [←hq] at HP;clear h;go_in;go_wp2_with fail;refine HP.out.mono ?_
 cases q with
 | none=>
  have hHr:Hid (r=(2,D)):=by
   unfold Hid;rw [HR.out];unfold Z0P;rw [←hq]
  clear hq HR HP;rintro e w1 ⟨hb1,rfl⟩;go_wp2_with fail;go_ret;rw [hHr.out];exact ⟨rfl,hd.below hb1,Tw.below hb1⟩
 | some P=>
  have hHr:Hid (r=Z8r D P but):=by
   unfold Hid;rw [HR.out];unfold Z0P;rw [←hq]
  have hPn:=(Z2s hq.symm).1;have hN: ∀x∈P,Z4 x.1=true:=fun x hx=>by
   obtain ⟨b,hb,_⟩:=(Z2s hq.symm).2 x hx;exact hK.names _ hb
  have hlenD:=hK.len;clear hq HR HP;rintro e w1 ⟨hb1,base1,gp1,ys,An,cn,Aa,ca,hys,rfl,hbase1,hgp1,hpk⟩;have hd1:=hd.below hb1;have hst1:=hst.below hb1 hst.lt;have y0:w1.cell? ⟨gp1,0,none⟩=some (.slice An ys.length cn):=by rw [hpk.blk.cell];rfl
  have y1:w1.cell? ⟨gs,0,none⟩=some (.pointer (some ⟨g,0,none⟩)):=by rw [hst1.cell];rfl
  have hylen:ys.length≤3518437208880:=by
   have:=congrArg List.length hys.out;rw [List.length_map] at this;omega
  have hN: ∀x∈ys,Z4 x.n=true:=fun x hx=>hN x.pk (by rw [←hys.out];exact List.mem_map.2 ⟨x,hx,rfl⟩);obtain ⟨s,hs⟩: ∃s,s=Z1R D (butL but (ys.map (·.n))):=⟨_,rfl⟩;have hsP:P.map Prod.fst=ys.map (·.n):=by
   rw [←hys.out,List.map_map]
   rfl
  have hr2:Hid (r=if s.1≠0 then s else Z1V s.2 (idsO s.2)):=by
   unfold Hid;rw [hHr.out];unfold Z8r;rw [hsP,←hs]
  have hs0:=qI hs;obtain ⟨hg1,hm1⟩:=hd.lt;clear hs hHr hsP hys k0;go_wp2_with fail;go_loopw [29] (fun i wr=>ZjY s 3518437208880 140737488351232 but (ys.map (·.n)) ys.length g m w1 i wr) (fun i _=>ys.length-(intOf i).toNat)
  case atStart=>exact ⟨0,D,rfl,zL _,by unfold Hid;rw [hs0.out];rfl,hK,hd1,Tw.refl _ _ _⟩
  case round=>
   obtain ⟨k,D1,rfl,hk,hF,hK1,hdr,htr⟩:=hrel;have f1:IntKind.i64.wrap ((k:Int)+1)=(k:Int)+1:=qJ _ (by omega);have hstr:=hst1.keepB (htr.block gs hst1.lt hgm.2.2.2.2.1 hgm.2.2.2.2.2);have x1:wr.cell? ⟨gs,0,none⟩=some (.pointer (some ⟨g,0,none⟩)):=by rw [hstr.cell];rfl
   by_cases hlt:k<ys.length
   ·have d1:decide ((k:Int)<(ys.length:Int))=true:=dT (by omega)
    have d1':(k:Int)<(ys.length:Int):=by omega
    have hk0:(0:Int)≤(k:Int):=by omega
    obtain ⟨x,hx⟩: ∃x,ys[k]?=some x:=⟨ys[k],gE hlt⟩;obtain ⟨bb,off,rfl,hbb,hcell⟩:=(Rd.of_own (Z1w hpk.names (fun j hj hl=>htr.block j hl (by omega) (by omega)))).at_ (by omega);have q0:wr.cell? ⟨bb,off+k,none⟩=some (.string x.n):=hcell _ _ (by rw [sc,List.getElem?_map,List.getElem?_map,hx];rfl);have hdr2:(ys.map (·.n)).drop k=x.n::(ys.map (·.n)).drop (k+1):=Z7e (by rw [List.getElem?_map,hx];rfl);have hF2:=hF.out;rw [hdr2] at hF2;clear hcell hdr2 hF
    by_cases hxb:x.n=but
    ·have q1:(x.n.toList==but.toList)=true:=Z2M hxb
     have hF3:Hid (s=Z1R D1 (butL but ((ys.map (·.n)).drop (k+1)))):=by
      unfold Hid;rw [hF2];unfold butL;rw [List.filter_cons_of_neg (by simpa using hxb)]
     clear hF2 hxb;go_wp2_with fail;exact ⟨⟨k+1,D1,by go_num,by omega,hF3,hK1,hdr,htr⟩,by simp [intOf];omega⟩
    ·have q1:(x.n.toList==but.toList)=false:=Z2N hxb
     have hF3:s=Z1R D1 (x.n::butL but ((ys.map (·.n)).drop (k+1))):=by
      rw [hF2];unfold butL;rw [List.filter_cons_of_pos (by simpa using hxb)]
     have hRm:=Z1m hdr (hK1.mono (lR _) (by decide)) x.n (by have:=Z03 (hN _ (List.mem_of_getElem? hx));unfold maxLen;omega);obtain ⟨t,ht⟩: ∃t,t=remD D1 x.n:=⟨_,rfl⟩;rw [←ht] at hRm;have HRm:=qI hRm
     by_cases ht0:t.1=0
     ·have hF4:Hid (s=Z1R t.2 (butL but ((ys.map (·.n)).drop (k+1)))):=by
       unfold Hid;rw [hF3,Z3o (by rw [←ht];exact ht0),←ht]
      have hK2:OkG 3518437208880 140737488351232 t.2:=by rw [ht];exact hK1.rem _
      clear hRm ht hF3 hF2;obtain ⟨t1,t2⟩:=t;change t1=0 at ht0;subst ht0;go_wp2_with fail;refine HRm.out.mono ?_;rintro e w3 ⟨rfl,hd3,ht3⟩;go_wp2_with fail;exact ⟨⟨k+1,t2,by go_num,by omega,hF4,hK2,hd3,htr.step ht3⟩,by simp [intOf];omega⟩
     ·have hF4:s=t:=by rw [hF3,Z8i (by rw [←ht];exact ht0),←ht]
      have hr3:Hid (r=t):=by
       unfold Hid;rw [hr2.out,hF4,if_pos ht0]
      clear hRm ht hF3 hF2 hF4;obtain ⟨t1,t2⟩:=t;change t1≠0 at ht0;have q2:(t1 !=0)=true:=bne_iff_ne.2 ht0;have q3:(t1==0)=false:=beq_eq_false_iff_ne.2 ht0;clear ht0;go_wp2_with fail;refine HRm.out.mono ?_;rintro e w3 ⟨rfl,hd3,ht3⟩;go_wp2_with fail;go_ret;rw [hr3.out];exact ⟨rfl,hd3,(Tw.below hb1).step (htr.step ht3)⟩
   ·have d1:decide ((k:Int)<(ys.length:Int))=false:=qF (by omega)
    have hs1:s=(0,D1):=by
     rw [hF.out,List.drop_eq_nil_of_le (by rw [List.length_map];omega)]
     rfl
    have hr3:Hid (r=Z1V D1 (idsO D1)):=by
     unfold Hid;rw [hr2.out,hs1]
     rfl
    have HI:=qI (Z7F hdr (hK1.mono (lR _) (by decide)));clear hs1 hF hr2 hs0;go_wp2_with fail;refine HI.out.mono ?_;rintro e w3 ⟨zs,Az,cz,hzs,rfl,hoz,hb3⟩;have hd3:=hdr.below hb3;have ht3:=htr.step (Tw.below hb3);have hst3:=hst1.keepB (ht3.block gs hst1.lt hgm.2.2.2.2.1 hgm.2.2.2.2.2);have hzl:zs.length≤3518437208880:=by
     rw [hzs.out];exact lT (ZcH D1) hK1.len
    have hz32: ∀z∈zs,z.size=32:=by rw [hzs.out];exact fun z hz=>Ziv hz
    rw [←hzs.out] at hr3;have hr4:=hr3;obtain ⟨hg3,hm3⟩:=hdr.lt;clear hzs hr3 HI;go_wp2_with fail;go_loopw [52] (fun i wr=>Zjq r 3518437208880 140737488351232 zs zs.length g m w3 i wr) (fun i _=>zs.length-(intOf i).toNat)
    case atStart=>exact ⟨0,D1,rfl,zL _,hr4,hK1,hd3,Tw.refl _ _ _⟩
    case round=>
     clear hr4;obtain ⟨k,D2,rfl,hk,hF,hK2,hdr2,htr2⟩:=hrel;have f1:IntKind.i64.wrap ((k:Int)+1)=(k:Int)+1:=qJ _ (by omega);have hstr2:=hst3.keepB (htr2.block gs hst3.lt hgm.2.2.2.2.1 hgm.2.2.2.2.2);have x2:=(hstr2.cell 0)
     by_cases hlt:k<zs.length
     ·have d1:decide ((k:Int)<(zs.length:Int))=true:=dT (by omega)
      have d1':(k:Int)<(zs.length:Int):=by omega
      have hk0:(0:Int)≤(k:Int):=by omega
      obtain ⟨x,hx⟩: ∃x,zs[k]?=some x:=⟨zs[k],gE hlt⟩;obtain ⟨bb,off,rfl,hbb,hcell⟩:=(Rd.of_own (Z1w hoz (fun j hj hl=>htr2.block j hl (by omega) (by omega)))).at_ (by omega);have q0:_=some (Value.string x):=hcell k _ (by rw [sc,List.getElem?_map,hx];rfl);have hdz:zs.drop k=x::zs.drop (k+1):=Z7e hx;have hF2:=hF.out;rw [hdz] at hF2;have hDp:=ZbH hdr2 (hK2.mono (lR _) (by decide)) x (by have:=hz32 x (List.mem_of_getElem? hx);omega);obtain ⟨t,ht⟩: ∃t,t=dropO D2 x:=⟨_,rfl⟩;rw [←ht] at hDp;have HDp:=qI hDp
      by_cases ht0:t.1=0
      ·have hF4:Hid (r=Z1V t.2 (zs.drop (k+1))):=by
        unfold Hid;rw [hF2,Z48 (by rw [←ht];exact ht0),←ht]
       have hK3:OkG 3518437208880 140737488351232 t.2:=by rw [ht];exact hK2.dropd _
       clear hDp ht hF2 hF hdz hcell;obtain ⟨t1,t2⟩:=t;change t1=0 at ht0;subst ht0;go_wp2_with fail;refine HDp.out.mono ?_;rintro e w5 ⟨rfl,hd5,ht5⟩;go_wp2_with fail;exact ⟨⟨k+1,t2,by go_num,by omega,hF4,hK3,hd5,htr2.step ht5⟩,by simp [intOf];omega⟩
      ·have hr5:Hid (r=t):=by
        unfold Hid;rw [hF2,Z6M (by rw [←ht];exact ht0),←ht]
       clear hDp ht hF2 hF hdz hcell;obtain ⟨t1,t2⟩:=t;change t1≠0 at ht0;have q2:(t1 !=0)=true:=bne_iff_ne.2 ht0;have q3:(t1==0)=false:=beq_eq_false_iff_ne.2 ht0;clear ht0;go_wp2_with fail;refine HDp.out.mono ?_;rintro e w5 ⟨rfl,hd5,ht5⟩;go_wp2_with fail;go_ret;rw [hr5.out];exact ⟨rfl,hd5,(Tw.below hb1).step (ht3.step (htr2.step ht5))⟩
     ·have d1:decide ((k:Int)<(zs.length:Int))=false:=qF (by omega)
      have hr5:Hid (r=(0,D2)):=by
       unfold Hid;rw [hF.out,List.drop_eq_nil_of_le (by omega)]
       rfl
      clear hF;go_wp2_with fail;go_ret;rw [hr5.out];exact ⟨rfl,hdr2,(Tw.below hb1).step (ht3.step htr2)⟩
end
end Go.Proofs.YtecpbcmpncgokaaGreat
set_option linter.unusedVariables false
namespace Go.Dol
open Go.RowKit
structure RowB where
 l:LU
 A:OA
 c:Nat
def RowB.v (x:RowB):Value:=.slice x.A x.l.length x.c
def rc (l:List RowB):List Value:=l.map RowB.v
theorem Zhh {l:List RowB} {i:Nat} {x:RowB} (h:l[i]?=some x):(rc l)[i]?=some (.slice x.A x.l.length x.c):=by simp [rc,RowB.v,h]
theorem Zjl (a b:List RowB):rc (a++b)=rc a++rc b:=by simp [rc]
def Rws (w:World) (B:Nat) (l:List RowB):Prop:=∀ x∈l,Rd w B 1 x.A x.l.length (bc x.l)∧x.l.length≤x.c∧x.c≤maxLen
end Go.Dol
set_option linter.unusedVariables false
namespace Go.Dol
open Go.RowKit
def sumS (x:RowB):BA:=⟨(ZC x.l).toArray⟩
def Z4M (l:List RowB):List BA:=l.map sumS
def Z9O (ge:BA→BA→Bool) (l:List RowB):Prop:=(∀x∈l,Zd ge x.l=true)∧(l.map fun x=>ZC x.l).Nodup
theorem Z9P {l:List RowB} {s:LU}:hasS (Z4M l) ⟨s.toArray⟩=true↔s∈l.map fun x=>ZC x.l:=by
  rw [Z3N];constructor
  · intro h
    obtain ⟨x,hx,e⟩:=List.mem_map.1 h;refine List.mem_map.2 ⟨x,hx, ?_⟩;unfold sumS at e;injection e with e
    simpa using congrArg Array.toList e
  · intro h
    obtain ⟨x,hx,e⟩:=List.mem_map.1 h;exact List.mem_map.2 ⟨x,hx,by unfold sumS;rw [e]⟩
theorem ZdJ {ge:BA→BA→Bool} {l:List RowB} {k:Nat} {x:RowB} (h:Z9O ge (l.take k)) (hx:l[k]?=some x) (h1:Zd ge x.l=true) (h2:hasS (Z4M (l.take k)) ⟨(ZC x.l).toArray⟩=false):Z9O ge (l.take (k+1)):=by
  obtain ⟨hk,e⟩:=List.getElem?_eq_some_iff.1 hx;rw [List.take_succ_eq_append_getElem hk,e];refine ⟨fun y hy=> ?_, ?_⟩
  · rcases List.mem_append.1 hy with hy | hy
    · exact h.1 y hy
    · obtain rfl:=List.mem_singleton.1 hy
      exact h1
  · rw [List.map_append,List.nodup_append]
    refine ⟨h.2,by simp,fun a ha b hb e2=> ?_⟩;simp only [List.map_cons,List.map_nil,List.mem_singleton] at hb;subst hb;subst e2;rw [Z9P.2 ha] at h2;cases h2
theorem ZgT {ge:BA→BA→Bool} {l:List RowB} {k:Nat} {x:RowB} (hx:l[k]?=some x) (h:hasS (Z4M (l.take k)) ⟨(ZC x.l).toArray⟩=true∨Zd ge x.l=false):ZZ ge (l.map (·.l))=none:=by
  unfold ZZ;rw [if_neg];rintro ⟨_,h2,h3⟩;have hm:=List.mem_of_getElem? hx;rcases h with h | h
  · obtain ⟨hk,e⟩:=List.getElem?_eq_some_iff.1 hx
    have h4:=Z9P.1 h;rw [List.map_map] at h3;have h5:l=l.take k++x::l.drop (k+1):=by rw [←e, ←List.drop_eq_getElem_cons hk,List.take_append_drop]
    rw [h5,List.map_append,List.map_cons,List.nodup_append] at h3;exact h3.2.2 _ h4 _ (List.mem_cons_self ..) rfl
  · have:=h2 x.l (List.mem_map.2 ⟨x,hm,rfl⟩)
    rw [h] at this;cases this
theorem ZjM {ge:BA→BA→Bool} {l:List RowB} (h:Z9O ge l) (hl:l.length≤4096):Z6e ge (l.map (·.l)):=by
  refine ⟨by rw [List.length_map];exact hl,fun r hr=> ?_, ?_⟩
  · obtain ⟨x,hx,rfl⟩:=List.mem_map.1 hr
    exact h.1 x hx
  · rw [List.map_map]
    exact h.2
end Go.Dol
namespace Go.Proofs.YtecpbcmpncgokaaGreat
open Go.RowKit Go.Dol
theorem _root_.Go.Dol.Rd.apartRow {w w':World} {B size n:Nat} {A:OA} {xs:List Value} (h:Rd w B size A n xs) (hB:B≤w.heap.size) {row:Option Nat} (hg:w.grownBy w' row) (hne:0<n→ ∀j,Z9 A=some j→some j≠row):Rd w' B size A n xs:=by
  refine ⟨h.len,fun h0=> ?_⟩;obtain ⟨b,off,e,hb,hc⟩:=h.at_ h0;exact ⟨b,off,e,hb,fun j u hu=>(World.cell?_of_block (hg.block b (by omega) (hne h0 b (by rw [e];rfl)))).trans (hc j u hu)⟩
theorem ZeG {w:World} {g base:Nat} {T:TypeId} {cs:List Value} {A:OA} {n c:Nat} {xs:List Value} (hb:Blk w g T cs) (hT:T≠5) (hs:Seg w base 5 1 A n c xs):some g≠ZP A c:=by
  intro e;unfold ZP at e;split at e
  · rcases hs.2.2.2 with h4 | ⟨k',off,cur,rfl,_,hh,_⟩
    · omega
    · have hk':g=k':=by simpa [Z9] using e
      rw [←hk'] at hh;unfold Blk at hb;rw [hb] at hh;injection hh with hh
      injection hh with _ hh
      exact hT hh
  · cases e
theorem Zil {w:World} {ops:Array Oper} {rest:List Oper} {o:Oper} {a:Act} {Q:Exit→Act→World→Prop} (hw:Region.wanted o (yielded ops a.tmps)=true) (s xo:Operand)
    (ho:o.op= .call { callee:= .builtin .append,args:= #[s,xo],argTypes:= #[36,9] })
    (base:Nat) (A:OA) (n c:Nat) (xs:LU) (hs:a.eval s= .slice A n c) (hseg:Seg w base 5 1 A n c (bc xs))
    (st:LU) (hx:a.eval xo= .string ⟨st.toArray⟩) (hlen:n+st.length≤140737488355328) (hbase:base≤w.heap.size)
    (h: ∀(l':LU) (A':OA) (c':Nat) (w':World),Hid (l'=xs++st)→Seg w' base 5 1 A' l'.length c' (bc l')→Below base w w'→w.grownBy w' (ZP A c)→((A'=A∧c'=c)∨Z9 A'=some w.heap.size)→
      wpList Tryz.prog ops Q rest (a.put o.dst (.slice A' l'.length c')) w'):wpList Tryz.prog ops Q (o::rest) a w:=by
  refine Z2K hw fun K hK=> ?_;have hsz:(⟨st.toArray⟩:BA).size=st.length:=by simp [ByteArray.size]
  have hsrc:=Src.ofString (P:=Tryz.prog) (w:=w) Tryz.underlying9 ⟨st.toArray⟩;rw [hsz,Zbc] at hsrc;refine Z4e w s xo _ _ ho base _ _ 1 1 Tryz.underlying36 Z1q rfl A n c (bc xs) hs hseg _ st.length (bc st) hx hsrc (by unfold maxLen;omega) (by omega) hbase ?_;intro A' c' w' h1 h2 h3 _ _;have e1:n=xs.length:=by have:=hseg.1;rw [Zo] at this;omega
  have e:n+st.length=(xs++st).length:=by rw [List.length_append];omega
  rw [←Z0B,e] at h1;rw [e];exact hK _ _ (h _ A' c' w' rfl h1 ((bR _ _).grown h2 hbase (fun k hk=>(hseg.row k hk).1)) h2 (h3.imp id fun h=>h.2))
theorem Zfx {w:World} {ops:Array Oper} {rest:List Oper} {o:Oper} {a:Act} {Q:Exit→Act→World→Prop} (hw:Region.wanted o (yielded ops a.tmps)=true) (s xo:Operand)
    (ho:o.op= .call { callee:= .builtin .append,args:= #[s,xo],argTypes:= #[36,36] })
    (base:Nat) (A:OA) (n c:Nat) (xs:LU) (hs:a.eval s= .slice A n c) (hseg:Seg w base 5 1 A n c (bc xs))
    (B:Nat) (A2:OA) (m c2:Nat) (news:LU) (hx:a.eval xo= .slice A2 m c2) (hr:Rd w B 1 A2 m (bc news))
    (hlen:n+m≤140737488355328) (hbase:base≤w.heap.size)
    (h: ∀(l':LU) (A':OA) (c':Nat) (w':World),Hid (l'=xs++news)→Seg w' base 5 1 A' l'.length c' (bc l')→Below base w w'→w.grownBy w' (ZP A c)→((A'=A∧c'=c)∨Z9 A'=some w.heap.size)→
      wpList Tryz.prog ops Q rest (a.put o.dst (.slice A' l'.length c')) w'):wpList Tryz.prog ops Q (o::rest) a w:=by
  refine Z2K hw fun K hK=> ?_;refine Z4e w s xo _ _ ho base _ _ 1 1 Tryz.underlying36 Z1q rfl A n c (bc xs) hs hseg _ m (bc news) hx (Src.ofRd Tryz.underlying36 hr (Z5h _)) (by unfold maxLen;omega) (by omega) hbase ?_;intro A' c' w' h1 h2 h3 _ _;have e1:n=xs.length:=by have:=hseg.1;rw [Zo] at this;omega
  have e2:m=news.length:=by have:=hr.len;rw [Zo] at this;omega
  have e:n+m=(xs++news).length:=by rw [List.length_append];omega
  rw [←Z0B,e] at h1;rw [e];exact hK _ _ (h _ A' c' w' rfl h1 ((bR _ _).grown h2 hbase (fun k hk=>(hseg.row k hk).1)) h2 (h3.imp id fun h=>h.2))
def ZgU (w:World) (r:Option (LU)) (e:Ending) (w':World):Prop:=
  Below w.heap.size w w'∧match r with
  | none=>e= .returned (.tuple #[.slice none 0 0, .int .i64 1])
  | some out=> ∃(l:LU) (A:OA) (c:Nat),Hid (l=out)∧e= .returned (.tuple #[.slice A l.length c, .int .i64 0])∧w'.ownsRow w.heap.size 5 1 (.slice A l.length c) l.length (bc l)∧l.length≤c∧c≤maxLen
def Zim (rs:List RowB) (B:Nat) (w:World) (i:Value) (wr:World):Prop:=
  ∃k:Nat,i= .int .i64 k∧k≤rs.length∧Hid (Z9O geS (rs.take k))∧MapL Tryz.prog 9 wr B (Z3v (Z4M (rs.take k)))∧Below w.heap.size w wr
def ZaJ (rs:List RowB) (g base:Nat) (w:World) (o i:Value) (wr:World):Prop:=
  ∃(k:Nat) (out:LU) (Ao:OA) (co:Nat) (pv:RowB) (d:Nat),i= .int .i64 k∧k≤rs.length∧o= .slice Ao out.length co∧wr.ownsRow base 5 1 (.slice Ao out.length co) out.length (bc out)∧Blk wr g 274 [.slice pv.A pv.l.length pv.c, .int .i64 d]∧
    Hid (out++Z1v pv.l d ((rs.drop k).map (·.l))=Z0L (rs.map (·.l)))∧Rd wr base 1 pv.A pv.l.length (bc pv.l)∧pv.l.length≤pv.c∧pv.c≤maxLen∧pv.l.length≤2097152∧d≤7∧out.length≤100+k*2097252∧Below base w wr
set_option maxRecDepth 100000 in
set_option maxHeartbeats 6400000 in
theorem Zce (A:OA) (rs:List RowB) (c:Nat) (w:World) (hr:Rd w w.heap.size 1 A rs.length (rc rs)) (hrs:Rws w w.heap.size rs) (hl:rs.length≤1099511627776) (hsz: ∀x∈rs,x.l.length≤140737488351232):
    Calls Tryz.prog 205 #[.slice A rs.length c] w (ZgU w (ZZ geS (rs.map (·.l)))):=by
  obtain ⟨r,hre⟩: ∃r,r=ZZ geS (rs.map (·.l)):=⟨_,rfl⟩;rw [←hre];have HR:=qI hre;have HSZ:=qI hsz;clear hre hsz;have hmm:= @run_makeMap Tryz.prog;go_in;go_wp2_with fail;clear hmm;obtain ⟨B,hB⟩: ∃B,B=w.heap.size:=⟨_,rfl⟩;obtain ⟨w0,hw0⟩: ∃w0,w0=w.alloc (.map #[] 0):=⟨_,rfl⟩;have hm0:MapL Tryz.prog 9 w0 B []:=by rw [hw0,hB];exact MapL.new w
  have hb0:Below w.heap.size w w0:=by rw [hw0];exact (bR _ _).alloc (lR _) _
  rw [←hw0, ←hB];have HB:=qI hB;clear hw0 hB;go_loopw [17] (fun i wr=>Zim rs B w i wr) (fun i _=>rs.length-(intOf i).toNat)
  case atStart=>exact ⟨0,rfl,zL _,qI ⟨fun x hx=>by simp at hx,by simp⟩,hm0,hb0⟩
  case round=>
    clear hm0 hb0;obtain ⟨k,rfl,hk,hup,hmap,hbel⟩:=hrel;have hs:=hbel.size;have f1:IntKind.i64.wrap ((k:Int)+1)=(k:Int)+1:=qJ _ (by omega)
    by_cases h1:k<rs.length
    · have d1:decide ((k:Int)<(rs.length:Int))=true:=dT (by omega)
      have d1':(k:Int)<(rs.length:Int):=by omega
      have hk0:(0:Int)≤(k:Int):=by omega
      have hlen1:rs.length≤9223372036854775807:=by omega
      have hrw:=hr.below hbel;obtain ⟨bb,off,rfl,hbb,hcell⟩:=hrw.at_ (by omega);have g1:rs[k]?=some rs[k]:=gE h1;obtain ⟨x,hx⟩: ∃x,x=rs[k]:=⟨_,rfl⟩;rw [←hx] at g1;have q0:=hcell _ _ (Zhh g1);have hxm:=List.mem_of_getElem? g1;obtain ⟨hxr,hxc,hxm2⟩:=hrs x hxm;have hxl:=HSZ.out x hxm;have hSum:=qI (Z2e x.A x.l x.c wr ((hxr.below hbel).more hs) (by omega));have HG1:=qI g1;have htk:Hid (Z4M (rs.take (k+1))=Z4M (rs.take k)++[⟨(ZC x.l).toArray⟩]):=by unfold Hid Z4M;rw [List.take_succ_eq_append_getElem h1,List.map_append, ←hx];rfl
      clear hx hcell g1 hxm;go_wp2_with fail;refine hSum.out.mono ?_;rintro e w1 ⟨sm,hsm,rfl,hb1⟩;rw [←hsm.out] at htk;have hsm32:(⟨sm.toArray⟩:BA).size≤maxLen:=by
        show sm.toArray.size≤_
        have:=ZX x.l;rw [←hsm.out] at this;simp [this];unfold maxLen;omega
      have hkey:=WideMaps.keyOf_string_mk Tryz.underlying9 hsm32;have hmap1:=hmap.belowW hb1;have hbel1:=hbel.next hb1;have hs1:=hbel1.size;obtain ⟨al1,w2,hup1,hm1,hput1,hg1⟩:=hmap1.update ZJ Tryz.underlying269 hkey (.int .i64 1);obtain ⟨al2,w3,hup2,hm2,hput2,hg2⟩:=hmap1.update ZJ Tryz.underlying269 hkey (.int .i64 2)
      cases hh:hasS (Z4M (rs.take k)) ⟨sm.toArray⟩ with
      | true=>
        have hr0:Hid (r=none):=by unfold Hid;rw [HR.out];exact ZgT HG1.out (.inl (by rw [←hsm.out];exact hh))
        have hlk:(Instr.lookup 269 (.map (some B)) (.string ⟨sm.toArray⟩) false).run Tryz.prog w1= .ok (.int .i64 1) w1:=by
          rcases hmap1.look ZJ Tryz.underlying269 (Z0v w1) hkey false with ⟨h2,_⟩ | ⟨v,h2,h3⟩
          · exact absurd rfl (h2 _ (Z65 hh))
          · rw [Z7M h2] at h3;exact h3
        have hlk2:(Instr.lookup 269 (.map (some B)) (.string ⟨sm.toArray⟩) false).run Tryz.prog w3= .ok (.int .i64 2) w3:=by
          rcases hm2.look ZJ Tryz.underlying269 (Z0v w3) hkey false with ⟨h2,_⟩ | ⟨v,h2,h3⟩
          · exact absurd rfl (h2 _ hput2.mem)
          · rw [key_one hm2.nodup h2 hput2.mem] at h3;exact h3
        have hb3:Below w.heap.size w w3:=hbel1.trans (Z2 hg2 (by have:=HB.out;omega) hs1);clear hup1 hm1 hput1 hg1 hh hm2 hput2 hg2;go_wp2_with fail;go_ret2;rw [hr0.out];exact ⟨hb3,rfl⟩
      | false=>
        have hlk:(Instr.lookup 269 (.map (some B)) (.string ⟨sm.toArray⟩) false).run Tryz.prog w1= .ok (.int .i64 0) w1:=by
          rcases hmap1.look ZJ Tryz.underlying269 (Z0v w1) hkey false with ⟨h2,h3⟩ | ⟨v,h2,h3⟩
          · exact h3
          · exact absurd rfl (Z2b hh _ h2)
        have hlk1:(Instr.lookup 269 (.map (some B)) (.string ⟨sm.toArray⟩) false).run Tryz.prog w2= .ok (.int .i64 1) w2:=by
          rcases hm1.look ZJ Tryz.underlying269 (Z0v w2) hkey false with ⟨h2,_⟩ | ⟨v,h2,h3⟩
          · exact absurd rfl (h2 _ hput1.mem)
          · rw [key_one hm1.nodup h2 hput1.mem] at h3;exact h3
        have hb2:Below w.heap.size w w2:=hbel1.trans (Z2 hg1 (by have:=HB.out;omega) hs1);have hs2:=hb2.size;have hal:Hid (al1=Z3v (Z4M (rs.take (k+1)))):=by
          unfold Hid;rcases hput1 with ⟨_,rfl⟩ | ⟨l1,r1,v0,e1,_⟩
          · rw [htk.out];simp [Z3v]
          · exact absurd rfl (Z2b hh (Value.string ⟨sm.toArray⟩,v0) (by rw [e1];simp))
        have hIs:=Z3U x.A x.l x.c w2 ((hxr.below hb2).more hs2) hxc hxm2 hxl;have HH:Hid (hasS (Z4M (rs.take k)) ⟨(ZC x.l).toArray⟩=false):=by rw [←hsm.out];exact hh
        clear hup2 hm2 hput2 hg2 hh hput1 hg1
        cases hi:Zd geS x.l with
        | false=>
          have hr0:Hid (r=none):=by unfold Hid;rw [HR.out];exact ZgT HG1.out (.inr hi)
          rw [hi] at hIs;have HIs:=qI hIs;clear hIs hi;go_wp2_with (go_at_call 251;refine HIs.out.mono ?_;rintro e w5 ⟨rfl,hb5⟩);go_ret2;rw [hr0.out];exact ⟨hb2.next hb5,rfl⟩
        | true=>
          have HU:Hid (Z9O geS (rs.take (k+1))):=ZdJ hup.out HG1.out hi HH.out;rw [hi] at hIs;have HIs:=qI hIs;clear hIs hi;go_wp2_with (go_at_call 251;refine HIs.out.mono ?_;rintro e w5 ⟨rfl,hb5⟩);exact ⟨⟨k+1,by go_num,by omega,HU,by rw [←hal.out];exact hm1.belowW hb5,hb2.next hb5⟩,by simp [intOf];omega⟩
    · have d1:decide ((k:Int)<(rs.length:Int))=false:=qF (by omega)
      have d1': ¬(k:Int)<(rs.length:Int):=by omega
      have hkl:k=rs.length:=by omega
      have hok:Hid (Z9O geS rs):=by unfold Hid;have:=hup.out;rw [hkl,List.take_length] at this;exact this
      clear hkl hmap hup
      by_cases h4:rs.length≤4096
      · have d4:decide ((4096:Int)<(rs.length:Int))=false:=qF (by omega)
        have d4': ¬(4096:Int)<(rs.length:Int):=by omega
        have HOK:Hid (Z6e geS (rs.map (·.l))):=ZjM hok.out h4;have kc:=Z7n wr;have hbv:Below w.heap.size w (wr.alloc (.cells #[.int .u8 68, .int .u8 80, .int .u8 75, .int .u8 49] 5 (4,5))):=hbel.alloc hs _;have hPN:=Zz (some ⟨wr.heap.size,0,none⟩) mgL 4 rs.length (wr.alloc (.cells #[.int .u8 68, .int .u8 80, .int .u8 75, .int .u8 49] 5 (4,5))) ((Zbl wr).more (by simp)) (by decide);have hcl:Zm (rs.length:Int)=rs.length:=by unfold Zm;omega
        rw [hcl] at hPN;have HPN:=qI hPN;clear hPN hcl;go_wp2_with fail;refine HPN.out.mono ?_;rintro e v1 ⟨o1,A1,c1,ho1,rfl,hO1,hb1,i1,i2⟩;have hbv1:=hbv.next hb1;have hsv:=hbv1.size;have hbw1:w.heap.size≤(wr.alloc (.cells #[.int .u8 68, .int .u8 80, .int .u8 75, .int .u8 49] 5 (4,5))).heap.size:=hbv.size;have hO1:=hO1.base hbw1;have HO1:Hid (o1=mgL++num rs.length):=ho1;have ho1n:o1.length≤100:=by
          rw [HO1.out,List.length_append];have h1:=Z5 8 rs.length (by omega);have h2:mgL.length=4:=rfl;omega
        have hBc:=Blk.new v1 274 [.slice none 0 0, .int .i64 0];obtain ⟨g,hg⟩: ∃g,g=v1.heap.size:=⟨_,rfl⟩;obtain ⟨v2,hv2⟩: ∃v2,v2=v1.alloc (.cells #[.slice none 0 0, .int .i64 0] 274):=⟨_,rfl⟩;have hBc2:Blk v2 g 274 [.slice none 0 0, .int .i64 0]:=by rw [hv2,hg];exact hBc
        have hbv2:Below w.heap.size w v2:=by rw [hv2];exact hbv1.alloc hsv _
        have hO2:v2.ownsRow w.heap.size 5 1 (.slice A1 o1.length c1) o1.length (bc o1):=by rw [hv2];exact hO1.alloc _
        have hgw:w.heap.size≤g:=by omega
        have hst:ZaJ rs g w.heap.size w (.slice A1 o1.length c1) (.int .i64 0) v2:=⟨0,o1,A1,c1,⟨[],none,0⟩,0,rfl,zL _,rfl,hO2,hBc2,by unfold Hid Z0L;rw [HO1.out,List.length_map,List.drop_zero,List.append_assoc];rfl,Rd.nil,lR _,by show 0≤maxLen;unfold maxLen;omega,by simp,by omega,by omega,hbv2⟩;have HST:=qI hst;clear hst hBc hBc2 hbv2 hO2 hbv1 hb1 hbv HPN kc hO1 hbel HB;go_wp2_with fail;rw [←hv2, ←hg];clear hv2 hg hsv hbw1;go_loopw [8,49] (fun o i wr=>ZaJ rs g w.heap.size w o i wr) (fun _ i _=>rs.length-(intOf i).toNat)
        case atStart=>exact HST.out
        case round=>
          clear HST;obtain ⟨k,out,Ao,co,pv,d,rfl,hk,rfl,hown,hblk,heq,hpr,hpc,hpm,hpl,hd,hol,hbel⟩:=hrel;have hs:=hbel.size;have f1:IntKind.i64.wrap ((k:Int)+1)=(k:Int)+1:=qJ _ (by omega)
          by_cases h1:k<rs.length
          · have d1:decide ((k:Int)<(rs.length:Int))=true:=dT (by omega)
            have d1':(k:Int)<(rs.length:Int):=by omega
            have hk0:(0:Int)≤(k:Int):=by omega
            have hlen1:rs.length≤9223372036854775807:=by omega
            have hrw:=hr.below hbel;obtain ⟨bb,off,rfl,hbb,hcell⟩:=hrw.at_ (by omega);have g1:rs[k]?=some rs[k]:=gE h1;obtain ⟨x,hx⟩: ∃x,x=rs[k]:=⟨_,rfl⟩;rw [←hx] at g1;have q0:=hcell _ _ (Zhh g1);have hxm:=List.mem_of_getElem? g1;obtain ⟨hxr,hxc,hxm2⟩:=hrs x hxm;have hxo:=hok.out.1 x hxm;have hx2:=Z17 x.l hxo;have hx0:0<x.l.length:=by obtain ⟨a,t,e⟩:=ZgP hxo;rw [e];simp
            have hdr:Hid (rs.drop k=x::rs.drop (k+1)):=by unfold Hid;rw [List.drop_eq_getElem_cons h1,hx]
            have HX2:=qI hx2;have hklen:=Z4w pv.l d x.l;have hkk:=Z7W pv.l d x.l;have hkd:=Zcc (prev:=pv.l) (raw:=x.l) hd;obtain ⟨kk,bk,hkb⟩: ∃kk bk,Z01 pv.l d x.l=(kk,bk):=⟨_,_,rfl⟩;have hkc:=Zdm w.heap.size g hgw pv.A pv.l pv.c d x.A x.l x.c wr hblk (hpr.more hgw) hpc hpm (hxr.below hbel) hxc hxm2 hpl hx2 hx0 hd;have hpt:Hid (Z1v pv.l d (x.l::(rs.drop (k+1)).map (·.l))=Z6E x.l (kk,bk)++Z1v x.l (Z0g d kk) ((rs.drop (k+1)).map (·.l))):=by unfold Hid;rw [Z1v,hkb]
            rw [hkb] at hkc hklen hkk hkd;have hkp:=qI hkc;clear hkb hkc;have hxrw:=hxr.below hbel;clear hx hcell g1 hxm hxo hrw;go_wp2_with fail;refine hkp.out.mono ?_;rintro e v3 ⟨b,A3,c3,hb3,rfl,hr3,hb3c,hb3m,hB3,hg3,hnn⟩;have hs3:=hg3.size;have hown3:=Ze hown hblk (by decide) hg3;have hbel3:Below w.heap.size w v3:=hbel.trans (Z2 hg3 hgw hs);have hSum:=qI (Z2e x.A x.l x.c v3 ((hxrw.grown hg3 hs (fun j hj=>by injection hj with hj;omega)).more (by omega)) (by have:=HX2.out;omega));have hseg3:=Seg.of_own hown3;have hgo: ∀gO,ZP Ao co=some gO→w.heap.size≤gO∧gO<wr.heap.size:=fun gO h=>(Seg.of_own hown).row gO h;have wu:IntKind.u8.wrap (kk:Int)=(kk:Int):=by
              have:kk≤2:=hkk;unfold IntKind.wrap;simp [IntKind.bits,IntKind.signed];omega
            have hbl:b.length≤2097152:=by rw [hb3.out];have:=HX2.out;have h9:bk.length≤x.l.length:=hklen;show bk.length≤_;omega
            have hkk2:kk≤2:=hkk;have hj3:0<b.length→ ∀j,Z9 A3=some j→j<v3.heap.size:=fun h0 j hj=>by
              obtain ⟨b0,o0,e0,h9,_⟩:=hr3.at_ h0;rw [e0] at hj;injection hj with hj
              have e9:b0=j:=hj;omega
            have hap:0<b.length→ ∀j,Z9 A3=some j→some j≠ZP Ao co:=fun h0 j hj e9=>by
              have h8:=hgo j e9.symm;rcases hnn h0 j hj with h9 | h9<;>omega
            have HJ3:=qI hj3;have HAP:=qI hap;clear hklen hkk hx2 hj3 hap hnn hgo
            go_wp2_with (first
              | (go_at_call 45;refine hSum.out.mono ?_;rintro e v4 ⟨sm,hsm,rfl,hb4⟩;have hsm32:sm.length≤32:=(by rw [hsm.out,ZX];exact lR _);have hs4:=hb4.size)
              | (at_builtin;refine Zil rfl (.tmp 59) (.tmp 61) rfl w.heap.size Ao out.length co out rfl (hseg3.belowW hb4) sm rfl (by omega) (by omega) ?_;intro l5 A5 c5 v5 hl5 hs5 hb5 hg5 hA5;have hs5':=hb5.size;have hl5n:l5.length≤out.length+32:=(by rw [hl5.out,List.length_append];omega))
              | (at_builtin;refine Zfx rfl (.tmp 62) (.tmp 65) rfl w.heap.size A5 l5.length c5 l5 rfl (hs5.alloc _) (v5.heap.size+1) _ 1 1 [UInt8.ofNat kk] rfl (Rd.one v5 _ kk (by omega) (by omega)) (by omega) (by simp;omega) ?_;intro l6 A6 c6 v6 hl6 hs6 hb6 hg6 hA6;
                 have hr5:Rd v5 v3.heap.size 1 A3 b.length (bc b):=(hr3.below hb4).apartRow hs4 hg5 HAP.out;have hr6:Rd v6 v3.heap.size 1 A3 b.length (bc b):=((hr5.alloc (by omega) (.cells #[.int .u8 (kk:Int)] 5)).apartRow (by simp;omega) hg6 (fun h0 j hj e9=>(hA5.elim (fun h9=>HAP.out h0 j hj (by rw [←h9.1, ←h9.2];exact e9)) (fun h9=>(by unfold ZP at e9;split at e9;(rw [h9] at e9;injection e9 with e9;have:=HJ3.out h0 j hj;omega);cases e9)))));
                 have hcv:=Z0Q (c:=c3) hr6))
            have hbsz:(⟨b.toArray⟩:BA).size=b.length:=by simp [ByteArray.size]
            have hl6n:l6.length≤out.length+33:=by rw [hl6.out,List.length_append];simp;omega
            have hbT:(⟨b.toArray⟩:BA).data.toList=b:=by simp
            refine (Z0w A6 l6 c6 ⟨b.toArray⟩ v6 hs6.rd (by rw [hbsz];omega)).mono ?_;rw [hbT];rintro e v7 ⟨l7,A7,c7,hl7,rfl,ho7,hb7,i7,i8⟩;have hs7:=hb7.size;have hs6':=hb6.size;have hB4:=hB3.below hb4 hB3.lt;have hB5:=hB4.grown hg5 (ZeG hB4 (by decide) (hseg3.belowW hb4));have hB6:=(hB5.alloc (.cells #[.int .u8 (kk:Int)] 5)).grown hg6 (ZeG (hB5.alloc (.cells #[.int .u8 (kk:Int)] 5)) (by decide) (hs5.alloc (.cells #[.int .u8 (kk:Int)] 5)));have hB7:=hB6.below hb7 hB6.lt;have hbel7:Below w.heap.size w v7:=(((hbel3.trans (hb4.mono (by omega))).trans (hb5.trans ((bR _ _).alloc (by omega) _))).trans hb6).trans (hb7.mono (by simp at hs6';omega));have hsz67:v5.heap.size+1≤v6.heap.size:=by simpa using hs6'
            have htl:=Z5 8 b.length (by omega);have hl7n:l7.length≤l6.length+9+b.length:=by rw [hl7.out,List.length_append];unfold text;rw [List.length_append];omega
            have HEQ:Hid (l7++Z1v x.l (Z0g d kk) ((rs.drop (k+1)).map (·.l))=Z0L (rs.map (·.l))):=by
              unfold Hid;rw [←heq.out,hdr.out,List.map_cons,hpt.out,hl7.out,hl6.out,hl5.out,hsm.out];unfold Z6E;rw [show b=bk from hb3.out];simp only [List.append_assoc,List.cons_append,List.nil_append]
            have hkd2:Z0g d kk≤7:=hkd;have hx2:=HX2.out;have hxr7:=hxr.below hbel7;have hst:ZaJ rs g w.heap.size w (.slice A7 l7.length c7) (.int .i64 ((k+1:Nat):Int)) v7:=
              ⟨k+1,l7,A7,c7,x,Z0g d kk,rfl,by omega,rfl,ho7.base (by omega),hB7,HEQ,hxr7,hxc,hxm2,hx2,hkd2,by omega,hbel7⟩
            have HST:=qI hst;clear hst hB4 hB5 hB6 hB7 hbel7 hxr7 HEQ hkd2 hx2 hl7n htl hs6 hs5 hb6 hb5 hb4 hr6 hr5 hcv hg5 hg6 hA5 hA6 HJ3 HAP hseg3 hSum hkp hxr hxrw ho7 hr3 hown3 hown hblk heq hpt hdr hpr;go_wp2_with fail;exact ⟨by rw [show ((k:Int)+1)=((k+1:Nat):Int) by omega];exact HST.out,by simp [intOf];omega⟩
          · have d1:decide ((k:Int)<(rs.length:Int))=false:=qF (by omega)
            have d1': ¬(k:Int)<(rs.length:Int):=by omega
            have hbody:Hid (out=Z0L (rs.map (·.l))):=by
              unfold Hid;rw [←heq.out,List.drop_eq_nil_of_le (by omega),List.map_nil,Z1v,List.append_nil]
            have hSum:=qI (Z2e Ao out co wr (Rd.of_own hown) (by omega));have hr0:Hid (r=some (Z0L (rs.map (·.l))++ZC (Z0L (rs.map (·.l))))):=by unfold Hid;rw [HR.out];unfold ZZ;rw [if_pos HOK.out]
            clear heq hpr hblk
            go_wp2_with (first
              | (go_at_call 45;refine hSum.out.mono ?_;rintro e v4 ⟨sm,hsm,rfl,hb4⟩;have hsm32:sm.length≤32:=(by rw [hsm.out,ZX];exact lR _);have hs4:=hb4.size)
              | (at_builtin;refine Zd0 rfl (.tmp 72) (.tmp 74) rfl w.heap.size _ out.length out rfl (Zi hown hb4) ⟨sm.toArray⟩ rfl (by show out.length+sm.toArray.size≤_;simp;omega) (by omega) ?_;intro l5 A5 c5 v5 hl5 hs5 hb5 hg5 i5 i6))
            go_ret2;rw [hr0.out];exact ⟨(hbel.trans (hb4.mono hs)).trans hb5,l5,A5,c5,by unfold Hid;rw [hl5.out,hbody.out,hsm.out,hbody.out],rfl,hs5,i5,i6⟩
      · have d4:decide ((4096:Int)<(rs.length:Int))=true:=dT (by omega)
        have d4':(4096:Int)<(rs.length:Int):=by omega
        have hr0:Hid (r=none):=by unfold Hid;rw [HR.out];unfold ZZ;rw [if_neg (fun h=>by have:=h.1;rw [List.length_map] at this;omega)]
        go_wp2_with fail;go_ret2;rw [hr0.out];exact ⟨hbel,rfl⟩
end Go.Proofs.YtecpbcmpncgokaaGreat
set_option linter.unusedVariables false
namespace Go.Dol
open Go.RowKit
theorem Zhp {P:List Pk} (hP:PkOk P) {id:BA} {b:LU} (h:Z4N P id=some b):b.length≤2097152:=by
 induction P with
 | nil=>cases h
 | cons p r ih=>
  rw [Z58] at h;split at h
  ·rename_i x hx
   injection h with h
   rw [←h];exact (hP p (List.mem_cons_self ..)).2 x (List.mem_of_find?_eq_some hx)
  ·exact ih (fun q hq=>hP q (List.mem_cons_of_mem _ hq)) h
theorem Zhq {ge:BA→BA→Bool} {D:Dk} {id:BA} {b:LU} (h:getO ge D id= .ok b):b.length≤2097152:=by
 unfold getO at h;split at h
 ·cases h
 ·split at h
  ·cases h
  ·split at h
   ·cases h
   ·rename_i raw hr
    split at h
    ·injection h with h
     rw [←h];have:=(Z4x hr).2;omega
    ·cases h
theorem Zhr {ge:BA→BA→Bool} {D:Dk} {P:List Pk} (hP:PkOk P) {id:BA} {b:LU} (h:getS ge D P id= .ok b):b.length≤2097152:=by
 unfold getS at h;split at h
 ·rename_i b' h1
  injection h with h
  rw [←h];exact Zhq h1
 ·split at h
  ·split at h
   ·rename_i r hr
    injection h with h
    rw [←h];exact Zhp hP hr
   ·cases h
  ·cases h
theorem Z46 {ge:BA→BA→Bool} {D:Dk} {P:List Pk} {id:BA} {k:Int} (e:getS ge D P id= .error k):k≠0:=by
 unfold getS at e;split at e
 ·cases e
 ·rename_i k' h1
  split at e
  ·split at e
   ·cases e
   ·injection e with e
    omega
  ·injection e with e
   unfold getO at h1;split at h1
   ·injection h1 with h1;omega
   ·split at h1
    ·injection h1 with h1;omega
    ·split at h1
     ·injection h1 with h1;omega
     ·split at h1
      ·cases h1
      ·injection h1 with h1;omega
end Go.Dol
namespace Go.Proofs.YtecpbcmpncgokaaGreat
open Go.RowKit Go.Dol
section
variable {w w':World} {base gp gs g m:Nat} {xs:List PkA} {D:Dk}
end
end Go.Proofs.YtecpbcmpncgokaaGreat
