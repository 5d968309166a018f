/- The layer 'store': the walk of build. Conditions: a disk and packs in good order; few ids, of at most 2^46 bytes. The layer 'store': the walks of Need and Repack. Conditions: a disk in good order with room for one more file; packs in good order; few ids. What holds of layer 'store', in plain Lean: a disk that holds just some objects; what is built, kept and cleared there. No program is in sight. Conditions: as each lemma names. -/
import Derived.Test.YtecpbcmpncgokaaGreatSto3
import Derived.Test.YtecpbcmpncgokaaGreatShort
import Derived.Test.YtecpbcmpncgokaaGreatLoo2
set_option linter.unusedVariables false
namespace Go.Dol
open Go.RowKit
theorem ZdZ {l:List BA} {x:BA} (h:l.Nodup) (hx:hasS l x=false):(l++[x]).Nodup:=by
 refine List.nodup_append.2 ⟨h,List.pairwise_singleton ..,fun a ha b hb e=> ?_⟩;obtain rfl:=List.mem_singleton.1 hb;rw [Z3N.2 (e▸ha)] at hx;cases hx
theorem ZfS {l:List BA} {k:Nat} {x:BA} (hx:l[k]?=some x) (h:hasS (l.take k) x=true): ¬l.Nodup:=fun hn=>by
 have h1:=Z3N.1 h;have h2:=List.take_append_drop k l;rw [←h2] at hn;refine (List.nodup_append.1 hn).2.2 x h1 x ?_ rfl;rw [Z7e hx];exact List.mem_cons_self ..
section
variable {ge:BA→BA→Bool} {D:Dk} {P:List Pk} {ids:List BA} {id:BA} {r:List BA}
theorem ZaY (h: ¬ids.Nodup):Z0l ge D P ids= .error 1:=if_pos h
theorem ZfT:Z15 ge D P []= .ok []:=rfl
theorem ZfU {k:Int} (h:getS ge D P id= .error k):Z15 ge D P (id::r)= .error k:=by
 rw [Z15,h]
theorem Z9V (hP:PkOk P): ∀{ids:List BA} {bs:List (LU)},Z15 ge D P ids= .ok bs→ ∀l∈bs,l.length≤2097152
 | [],bs,h,l,hl=>by
  rw [Z15] at h;injection h with h
  rw [←h] at hl;cases hl
 | id::r,bs,h,l,hl=>by
  rw [Z15] at h;split at h
  ·cases h
  ·rename_i b hb
   split at h
   ·cases h
   ·rename_i cs hc
    injection h with h
    rw [←h] at hl;rcases List.mem_cons.1 hl with rfl | hl
    ·exact Zhr hP hb
    ·exact Z9V hP hc l hl
theorem Z2t {rs:List (LU)} {b:LU} (h:ZZ ge rs=some b):32≤b.length:=by
 unfold ZZ at h;split at h
 ·injection h with h
  rw [←h,List.length_append,ZX];omega
 ·cases h
def behS (bs:List (LU)):Except Int (List (LU))→Except Int (List (LU))
 | .error k=> .error k
 | .ok cs=> .ok (bs++cs)
theorem Zht {b:LU} (bs:List (LU)) (h:getS ge D P id= .ok b):behS bs (Z15 ge D P (id::r))=behS (bs++[b]) (Z15 ge D P r):=by
 rw [Z15,h];simp only;cases Z15 ge D P r<;>simp [behS]
def Z5b (ge:BA→BA→Bool) (ids:List BA):Except Int (List (LU))→Except Int (Option (BA×LU))
 | .error k=> .error k
 | .ok bs=>match ZZ ge bs with
  | none=> .error 1
  | some b=>if ids=[] then .ok none else .ok (some (Zu b,b))
theorem Z6N (h:ids.Nodup):Z0l ge D P ids=Z5b ge ids (Z15 ge D P ids):=by
 unfold Z0l;rw [if_neg (not_not_intro h)]
 rfl
end
end Go.Dol
namespace Go.Proofs.YtecpbcmpncgokaaGreat
open Go.RowKit Go.Dol
theorem Z5c (M:Nat) (hM:M≤2097152): ∀(rs:List (LU)) (prev:LU) (d:Nat),(∀r∈rs,r.length≤M)→(Z1v prev d rs).length≤rs.length*(M+64)
 | [],_,_,_=>zL _
 | r::rs,prev,d,h=>by
  have h1:=Z5c M hM rs r (Z0g d (Z01 prev d r).1) fun q hq=>h q (List.mem_cons_of_mem _ hq);have h2:=h r (List.mem_cons_self ..);have h3:=Z4w prev d r;have h4:=Z5 8 (Z01 prev d r).2.length (by omega);have h5:=ZX r;rw [Z1v,List.length_append,Z6E,List.length_append,h5,List.length_cons,text,List.length_append,List.length_cons,Nat.add_mul];omega
theorem Z9W {rs:List (LU)} {b:LU} (h:ZZ geS rs=some b):b.length≤140737488351232:=by
 unfold ZZ at h;split at h
 ·rename_i hp
  injection h with h
  have h1:=Z5c 2097152 (lR _) rs [] 0 fun r hr=>Z17 r (hp.2.1 r hr);have h5:=hp.1;have h4:=Z5 8 rs.length (by omega);have h2:rs.length*(2097152+64)≤4096*(2097152+64):=Nat.mul_le_mul_right _ h5;rw [←h,List.length_append,ZX,Z0L,List.length_append,Z2F,List.length_append];omega
 ·cases h
def ZfV (w:World) (r:Except Int (Option (BA×LU))) (e:Ending) (w':World):Prop:=
 Below w.heap.size w w'∧match r with
 | .error k=>e= .returned (.tuple #[.string ⟨#[]⟩,.slice none 0 0,.int .i64 k])
 | .ok none=>e= .returned (.tuple #[.string ⟨#[]⟩,.slice none 0 0,.int .i64 0])
 | .ok (some (n,b))=> ∃(l:LU) (A:OA) (c:Nat),Hid (l=b)∧e= .returned (.tuple #[.string n,.slice A l.length c,.int .i64 0])∧w'.ownsRow w.heap.size 5 1 (.slice A l.length c) l.length (bc l)∧l.length≤c∧c≤maxLen
theorem Zhu:(Tryz.prog.info? 36).map (fun i=>(i.zero,i.size,i.bytes))=some (some (.slice none 0 0),1,24):=by kernel_rfl
def FarR (w:World) (l:List RowB):Prop:=∀ x∈l,Far w 0 x.A x.l∧x.l.length≤x.c∧x.c≤maxLen
def ZjZ (ge:BA→BA→Bool) (D:Dk) (P:List Pk) (q:Except Int (List (LU))) (ids:List BA) (n:Nat) (w:World) (o i:Value) (wr:World):Prop:=
 ∃(k:Nat) (ys:List RowB) (A:OA) (c:Nat),i= .int .i64 k∧k≤n∧o= .slice A k c∧wr.ownsRow w.heap.size 36 1 (.slice A k c) k (rc ys)∧FarR wr ys∧Hid (ys.length=k∧q=behS (ys.map (·.l)) (Z15 ge D P (ids.drop k)))∧Below w.heap.size w wr
def Zk0 (ids:List BA) (n B:Nat) (w:World) (i:Value) (wr:World):Prop:=
 ∃k:Nat,i= .int .i64 k∧k≤n∧Hid ((ids.take k).Nodup)∧MapL Tryz.prog 9 wr B (Z3v (ids.take k))∧Below w.heap.size w wr
section
variable {w w':World} {base gp gs g m:Nat} {xs:List PkA} {D:Dk}
set_option maxRecDepth 100000 in
set_option maxHeartbeats 6400000 in
theorem Z5J (h:Sto w gs g m base gp D xs) (hK:OkW D) (hP:PkOk (xs.map PkA.pk)) (hn:xs.length≤3518437208880) (A:OA) (n:Nat) (ids:List BA) (c:Nat) (hl:ids.length=n) (hr:Rd w w.heap.size 1 A n (sc ids)) (hnm:n≤1048576) (hid: ∀x∈ids,x.size≤70368744177600):
  Calls Tryz.prog 130 #[.pointer (some ⟨gs,0,none⟩),.slice A n c] w (ZfV w (Z0l geS D (xs.map PkA.pk) ids)):=by
 obtain ⟨r,hre⟩: ∃r,r=Z0l geS D (xs.map PkA.pk) ids:=⟨_,rfl⟩;rw [←hre];have HR:=qI hre;have HID:=qI hid;have HL:=qI hl;clear hre hid hl;have hmm:=@run_makeMap Tryz.prog;go_in;go_wp2_with fail;clear hmm;obtain ⟨B,hB⟩: ∃B,B=w.heap.size:=⟨_,rfl⟩;obtain ⟨w0,hw0⟩: ∃w0,w0=w.alloc (.map #[] 0):=⟨_,rfl⟩;have hm0:MapL Tryz.prog 9 w0 B []:=by rw [hw0,hB];exact MapL.new w
 have hb0:Below w.heap.size w w0:=by rw [hw0];exact (bR _ _).alloc (lR _) _
 rw [←hw0,←hB];have HB:=qI hB;clear hw0 hB;go_loopw [20] (fun i wr=>Zk0 ids n B w i wr) (fun i _=>n-(intOf i).toNat)
 case atStart=>exact ⟨0,rfl,zL _,List.nodup_nil,hm0,hb0⟩
 case round=>
  clear hm0 hb0;obtain ⟨k,rfl,hk,hup,hmap,hbel⟩:=hrel;have hs:=hbel.size;have f1:IntKind.i64.wrap ((k:Int)+1)=(k:Int)+1:=qJ _ (by omega)
  by_cases h1:k<n
  ·have d1:decide ((k:Int)<(n:Int))=true:=dT (by omega)
   have d1':(k:Int)<(n:Int):=by omega
   have hk0:(0:Int)≤(k:Int):=by omega
   have hkl:k<ids.length:=by rw [HL.out];exact h1
   obtain ⟨x,hx⟩: ∃x,ids[k]?=some x:=⟨ids[k],gE hkl⟩;obtain ⟨bb,off,rfl,hbb,hcell⟩:=(hr.below hbel).at_ (by omega);have q0:wr.cell? ⟨bb,off+k,none⟩=some (.string x):=hcell _ _ (by rw [sc,List.getElem?_map,hx];rfl);have hxs:=HID.out x (List.mem_of_getElem? hx);have htk:Hid (ids.take (k+1)=ids.take k++[x]):=by
    unfold Hid;rw [List.take_add_one,hx]
    rfl
   have hkey:=WideMaps.keyOf_string_mk Tryz.underlying9 (s:=x) (by unfold maxLen;omega);have HX:=qI hx;clear hkl hcell hx;obtain ⟨al1,w2,hup1,hm1,hput1,hg1⟩:=hmap.update ZJ Tryz.underlying269 hkey (.int .i64 1);obtain ⟨al2,w3,hup2,hm2,hput2,hg2⟩:=hmap.update ZJ Tryz.underlying269 hkey (.int .i64 2)
   cases hh:hasS (ids.take k) x with
   | true=>
    have hr0:Hid (r= .error 1):=by unfold Hid;rw [HR.out];exact ZaY (ZfS HX.out hh)
    have hlk:(Instr.lookup 269 (.map (some B)) (.string x) false).run Tryz.prog wr= .ok (.int .i64 1) wr:=by
     rcases hmap.look ZJ Tryz.underlying269 (Z0v wr) hkey false with ⟨h2,_⟩ | ⟨v,h2,h3⟩
     ·exact absurd rfl (h2 _ (Z65 hh))
     ·rw [Z7M h2] at h3;exact h3
    have hlk2:(Instr.lookup 269 (.map (some B)) (.string x) false).run Tryz.prog w3= .ok (.int .i64 2) w3:=by
     rcases hm2.look ZJ Tryz.underlying269 (Z0v w3) hkey false with ⟨h2,_⟩ | ⟨v,h2,h3⟩
     ·exact absurd rfl (h2 _ hput2.mem)
     ·rw [key_one hm2.nodup h2 hput2.mem] at h3;exact h3
    have hb3:Below w.heap.size w w3:=hbel.trans (Z2 hg2 (by have:=HB.out;omega) hs);clear hup1 hm1 hput1 hg1 hh hm2 hput2 hg2;go_wp2_with fail;go_ret3;rw [hr0.out];exact ⟨hb3,rfl⟩
   | false=>
    have hlk:(Instr.lookup 269 (.map (some B)) (.string x) false).run Tryz.prog wr= .ok (.int .i64 0) wr:=by
     rcases hmap.look ZJ Tryz.underlying269 (Z0v wr) hkey false with ⟨h2,h3⟩ | ⟨v,h2,h3⟩
     ·exact h3
     ·exact absurd rfl (Z2b hh _ h2)
    have hlk1:(Instr.lookup 269 (.map (some B)) (.string x) false).run Tryz.prog w2= .ok (.int .i64 1) w2:=by
     rcases hm1.look ZJ Tryz.underlying269 (Z0v w2) hkey false with ⟨h2,_⟩ | ⟨v,h2,h3⟩
     ·exact absurd rfl (h2 _ hput1.mem)
     ·rw [key_one hm1.nodup h2 hput1.mem] at h3;exact h3
    have hb2:Below w.heap.size w w2:=hbel.trans (Z2 hg1 (by have:=HB.out;omega) hs);have hal:Hid (al1=Z3v (ids.take (k+1))):=by
     unfold Hid;rcases hput1 with ⟨_,rfl⟩ | ⟨l1,r1,v0,e1,_⟩
     ·rw [htk.out];simp [Z3v]
     ·exact absurd rfl (Z2b hh (Value.string x,v0) (by rw [e1];simp))
    have hup3:Hid ((ids.take (k+1)).Nodup):=by
     unfold Hid;rw [htk.out];exact ZdZ hup hh
    have HM:=qI (Z1h (h.below (hb2.mono (lR _))));clear hup2 hm2 hput2 hg2 hh hput1 hg1;go_wp2_with fail;refine HM.out.mono ?_;rintro e w5 ⟨rfl,hw5⟩;obtain rfl:=hw5.symm;go_wp2_with fail;exact ⟨⟨k+1,by go_num,by omega,hup3,by rw [←hal.out];exact hm1,hb2⟩,by simp [intOf];omega⟩
  ·have d1:decide ((k:Int)<(n:Int))=false:=qF (by omega)
   obtain rfl:k=n:=by omega
   have hnd:ids.Nodup:=by
    have:=hup.out;rw [List.take_of_length_le (by rw [HL.out];exact lR _)] at this;exact this
   obtain ⟨q,hq⟩: ∃q,q=Z15 geS D (xs.map PkA.pk) ids:=⟨_,rfl⟩;have hr2:Hid (r=Z5b geS ids q):=by
    unfold Hid;rw [HR.out,hq];exact Z6N hnd
   have hq0:=qI hq;have hYF: ∀(l:LU) {bs:List (LU)},q= .ok bs→l∈bs→l.length≤140737488351232:=fun l bs e hl=>by
    have:=Z9V hP (hq▸e) l hl;omega
   clear hq hnd hup hmap d1;go_wp2_with fail;go_loopw [10,40] (fun o i w2=>ZjZ geS D (xs.map PkA.pk) q ids k w o i w2) (fun _ i _=>k-(intOf i).toNat)
   case atStart=>exact ⟨0,[],none,0,rfl,zL _,rfl,World.ownsRow_nil _ _ _ _,fun x hx=>(List.not_mem_nil hx).elim,⟨rfl,by rw [hq0.out,List.drop_zero];cases Z15 geS D (xs.map PkA.pk) ids<;>rfl⟩,hbel⟩
   case round=>
    clear hbel;obtain ⟨j,ys,Ay,cy,rfl,hj,rfl,hown,hfar,hq1,hbel⟩:=hrel;have hs:=hbel.size;have f1:IntKind.i64.wrap ((j:Int)+1)=(j:Int)+1:=qJ _ (by omega);have hwr:=h.below hbel
    by_cases h1:j<k
    ·have d1:decide ((j:Int)<(k:Int))=true:=dT (by omega)
     have d1':(j:Int)<(k:Int):=by omega
     have hk0:(0:Int)≤(j:Int):=by omega
     obtain ⟨x,hx⟩: ∃x,ids[j]?=some x:=⟨ids[j]'(by rw [HL.out];exact h1),gE _⟩;obtain ⟨bb,off,rfl,hbb,hcell⟩:=(hr.below hbel).at_ (by omega);have q0:=hcell j (.string x) (by rw [sc,List.getElem?_map,hx];rfl);have hxs:=HID.out x (List.mem_of_getElem? hx);have hdx:ids.drop j=x::ids.drop (j+1):=Z7e hx;have HG:=qI (Z59 hwr hK hP hn x hxs);obtain ⟨t,ht⟩: ∃t,t=getS geS D (xs.map PkA.pk) x:=⟨_,rfl⟩;rw [←ht] at HG;have hq2:=hq1.2;rw [hdx] at hq2;clear hcell hdx hx;go_wp2_with fail;refine HG.out.mono ?_;intro e w3 h3
     cases t with
     | error z=>
      obtain ⟨hb3,rfl⟩:=h3;have hq3:Hid (r= .error z):=by
       unfold Hid;rw [hr2.out,hq2,ZfU ht.symm]
       rfl
      have z1:(z !=0)=true:=bne_iff_ne.2 (Z46 ht.symm);have z2:(z==0)=false:=beq_eq_false_iff_ne.2 (Z46 ht.symm);clear ht hq2 hq1 HG;go_wp2_with fail;go_ret3;rw [hq3.out];exact ⟨hbel.next hb3,rfl⟩
     | ok b=>
      obtain ⟨hb3,l3,A3,c3,hl3,rfl,ho3,i1,i2⟩:=h3;rw [Zht _ ht.symm,←hl3.out] at hq2;have hq3:Hid ((ys++[⟨l3,A3,c3⟩]:List RowB).length=j+1∧q=behS ((ys++[(⟨l3,A3,c3⟩:RowB)]).map (·.l)) (Z15 geS D (xs.map PkA.pk) (ids.drop (j+1)))):=⟨by rw [List.length_append,hq1.1];rfl,by rw [List.map_append];exact hq2⟩;have hown3:=Zi hown hb3;have hbel3:=hbel.next hb3;have hs3:=hbel3.size;have hfar3:FarR w3 (ys++[⟨l3,A3,c3⟩]):=fun y hy=>by
       rcases List.mem_append.1 hy with h5 | h5
       ·exact ⟨(hfar y h5).1.below hb3,(hfar y h5).2⟩
       ·obtain rfl:=List.mem_singleton.1 h5
        exact ⟨Far.of_seg (Seg.of_own ho3),i1,i2⟩
      have hb4:Below w3.heap.size w3 (w3.alloc (.cells #[.slice A3 l3.length c3] 36)):=(bR _ _).alloc (lR _) _;have hO:Other (w3.alloc (.cells #[.slice A3 l3.length c3] 36)) 0 (Value.slice Ay j cy).ownBlock:=Other.own (hown3.alloc _) (by decide) (zL _);clear ht hq2 hq1 HG hl3 ho3;go_wp2_with (at_builtin;refine ZeX rfl (.tmp 53) (.tmp 55) 240 36 _ 24 rfl Tryz.underlying240 Zhu rfl w.heap.size _ j (rc ys) rfl (hown3.alloc _) (w3.heap.size+1) _ 1 1 [.slice A3 l3.length c3] rfl (Rd.new1 w3 _ _) (by intro u hu;obtain rfl:=List.mem_singleton.1 hu;rfl) (by unfold maxLen;omega) (by omega) (by simp;omega) ?_;intro A5 c5 w5 hown5 hb5 hg5 i5 i6);refine ⟨⟨j+1,ys++[⟨l3,A3,c3⟩],A5,c5,by go_num,by omega,rfl,by rw [Zjl];exact hown5,fun y hy=>⟨((hfar3 y hy).1.below hb4).keep hg5 hO,(hfar3 y hy).2⟩,hq3,(hbel3.trans (hb4.mono hs3)).trans hb5⟩,by simp [intOf];omega⟩
    ·have d1:decide ((j:Int)<(k:Int))=false:=qF (by omega)
     obtain rfl:j=k:=by omega
     have hqo:q= .ok (ys.map (·.l)):=by
      rw [hq1.2,List.drop_of_length_le (by rw [HL.out];exact lR _),ZfT];simp [behS]
     have hr3:Hid (r=Z5b geS ids (.ok (ys.map (·.l)))):=by
      unfold Hid;rw [hr2.out,hqo]
     have hyl:=hq1.1;have hBu:=Zce Ay ys cy wr (by rw [hyl];exact Rd.of_own hown) (fun y hy=>⟨(hfar y hy).1.1,(hfar y hy).2⟩) (by omega) (fun y hy=>hYF y.l hqo (List.mem_map.2 ⟨y,hy,rfl⟩));rw [hyl] at hBu;have HBU:=qI hBu;clear hBu hq1 hqo hyl;go_wp2_with fail;refine HBU.out.mono ?_;obtain ⟨z,hz⟩: ∃z,z=ZZ geS (ys.map (·.l)):=⟨_,rfl⟩;rw [←hz];clear HBU
     cases z with
     | none=>
      have hr4:Hid (r= .error 1):=by
       unfold Hid;rw [hr3.out];unfold Z5b;simp only;rw [←hz]
      clear hz;rintro e w3 ⟨hb3,rfl⟩;go_wp2_with fail;go_ret3;rw [hr4.out];exact ⟨hbel.next hb3,rfl⟩
     | some b=>
      have hbl:=Z2t hz.symm;have hbm:b.length≤140737488355328:=by have:=Z9W hz.symm;omega
      rintro e w3 ⟨hb3,l3,A3,c3,hl3,rfl,ho3,i1,i2⟩;have hbel3:=hbel.next hb3;obtain rfl:l3=b:=hl3.out
      by_cases hj0:j=0
      ·have hr4:Hid (r= .ok none):=by
        unfold Hid;rw [hr3.out];unfold Z5b;simp only;rw [←hz];exact if_pos (nZ (by rw [HL.out];exact hj0))
       have z1:((j:Int)==0)=true:=by rw [hj0];rfl
       clear hz hj0;go_wp2_with fail;go_ret3;rw [hr4.out];exact ⟨hbel3,rfl⟩
      ·have hr4:Hid (r= .ok (some (Zu l3,l3))):=by
        unfold Hid;rw [hr3.out];unfold Z5b;simp only;rw [←hz];exact if_neg (fun e=>hj0 (by rw [←HL.out,e];rfl))
       have z1:((j:Int)==0)=false:=beq_eq_false_iff_ne.2 (by omega);have hbw:=hbel.size;have HC:=qI (Z5H A3 l3 c3 w3 (Rd.of_own ho3) i1 i2 hbl hbm);clear hz hj0;go_wp2_with fail;refine HC.out.mono ?_;rintro e w4 ⟨rfl,hb4⟩;go_wp2_with fail;go_ret3;rw [hr4.out];exact ⟨hbel3.next hb4,l3,A3,c3,rfl,rfl,(Zi ho3 hb4).base hbw,i1,i2⟩
end
end Go.Proofs.YtecpbcmpncgokaaGreat
set_option linter.unusedVariables false
namespace Go.Dol
open Go.RowKit
def nowP (ge:BA→BA→Bool) (D:Dk) (P:List Pk):List Pk:=(Zv ge D.l).getD P
abbrev Bq:=Except Int (Option (BA×LU))
def Zhv (D:Dk) (q:Bq):Int×Int:=match q with
 | .error k=>(0,k)
 | .ok none=>(0,0)
 | .ok (some (n,b))=>if (Z1 D.l n).isSome=true then (0,0) else (16+(n.size+1)+b.length,0)
theorem ZeS (ge:BA→BA→Bool) (D:Dk) (P:List Pk) (ids:List BA):ZcP ge D P ids=Zhv D (Z0l ge D P ids):=rfl
def repQ (ge:BA→BA→Bool) (D:Dk) (P:List Pk) (q:Bq):(Int×Dk)×List Pk:=match q with
 | .error k=>((k,D),P)
 | .ok none=>(Z0P ge D ⟨#[]⟩,nowP ge (Z0P ge D ⟨#[]⟩).2 P)
 | .ok (some (n,b))=>if (Z1 D.l n).isSome=true then (Z0P ge D n,nowP ge (Z0P ge D n).2 P) else
  if (ZR D n b).1≠0 then (ZR D n b,P) else (Z0P ge (ZR D n b).2 n,nowP ge (Z0P ge (ZR D n b).2 n).2 P)
theorem Z9X {ge:BA→BA→Bool} {D:Dk} {P:List Pk}: ∀{ids:List BA} {k:Int},Z15 ge D P ids= .error k→k≠0
 | [],k,h=>by cases h
 | id::r,k,h=>by
  rw [Z15] at h;split at h
  ·rename_i k' hk
   injection h with h
   rw [←h];exact Z46 hk
  ·split at h
   ·rename_i k' hk
    injection h with h
    rw [←h];exact Z9X hk
   ·cases h
theorem OkG.rems {L B:Nat}: ∀{l:List BA} {D:Dk},OkG L B D→OkG L B (Z1R D l).2
 | [],_,h=>h
 | n::r,D,h=>by
  by_cases h0:(remD D n).1=0
  ·rw [Z3o h0]
   exact OkG.rems (h.rem n)
  ·rw [Z8i h0]
   exact h.rem n
theorem OkG.drops {L B:Nat}: ∀{l:List BA} {D:Dk},OkG L B D→OkG L B (Z1V D l).2
 | [],_,h=>h
 | n::r,D,h=>by
  by_cases h0:(dropO D n).1=0
  ·rw [Z48 h0]
   exact OkG.drops (h.dropd n)
  ·rw [Z6M h0]
   exact h.dropd n
theorem OkG.clear {L B:Nat} {D:Dk} (h:OkG L B D) (ge:BA→BA→Bool) (but:BA):OkG L B (Z0P ge D but).2:=by
 unfold Z0P;split
 ·exact h
 ·unfold Z8r
  split
  ·exact h.rems
  ·exact h.rems.drops
end Go.Dol
namespace Go.Proofs.YtecpbcmpncgokaaGreat
open Go.RowKit Go.Dol
theorem Z8j (b:LU):Zu b≠⟨#[]⟩:=fun h=>by
 have:=congrArg (fun x:BA=>x.data.toList) h;unfold Zu at this;simp at this
theorem Z9Y {a:BA} (h:a≠⟨#[]⟩): ¬a.toList=[]:=fun e=>h (Z3F (by rw [ByteArray.toList_eq] at e;exact e))
theorem Z1y {b:LU} (h:32≤b.length):(Zu b).size=66:=by
 unfold Zu;rw [ByteArray.size_append];show 2+(Z16 (b.drop (b.length-32))).toArray.size=66
 rw [List.size_toArray,Z1p,List.length_drop];omega
section
variable {w w':World} {base gp gs g m:Nat} {xs:List PkA} {D:Dk}
theorem Z6O {ids:List BA} {n:BA} {b:LU} (h:Z0l geS D (xs.map PkA.pk) ids= .ok (some (n,b))):n=Zu b∧32≤b.length∧b.length≤140737488351232:=by
 unfold Z0l at h;split at h
 ·cases h
 ·split at h
  ·cases h
  ·split at h
   ·cases h
   ·rename_i b' hb
    split at h
    ·cases h
    ·injection h with h
     injection h with h
     injection h with h1 h2
     rw [←h2,←h1];exact ⟨rfl,Z2t hb,Z9W hb⟩
theorem Z5d {ids:List BA} {k:Int} (h:Z0l geS D (xs.map PkA.pk) ids= .error k):k≠0:=by
 unfold Z0l at h;split at h
 ·injection h with h
  omega
 ·split at h
  ·rename_i k' hk
   injection h with h
   rw [←h];exact Z9X hk
  ·split at h
   ·injection h with h
    omega
   ·split at h<;>cases h
set_option maxRecDepth 100000 in
set_option maxHeartbeats 6400000 in
theorem ZcJ (h:Sto w gs g m base gp D xs) (hK:OkW D) (hP:PkOk (xs.map PkA.pk)) (hn:xs.length≤3518437208880) (A:OA) (n:Nat) (ids:List BA) (c:Nat) (hl:ids.length=n) (hr:Rd w w.heap.size 1 A n (sc ids)) (hnm:n≤1048576) (hid: ∀x∈ids,x.size≤70368744177600):
  Calls Tryz.prog 64 #[.pointer (some ⟨gs,0,none⟩),.slice A n c] w fun e w'=>e= .returned (.tuple #[.int .i64 (ZcP geS D (xs.map PkA.pk) ids).1,.int .i64 (ZcP geS D (xs.map PkA.pk) ids).2])∧Below w.heap.size w w':=by
 obtain ⟨r,hre⟩: ∃r,r=ZcP geS D (xs.map PkA.pk) ids:=⟨_,rfl⟩;rw [←hre];have HB:=qI (Z5J h hK hP hn A n ids c hl hr hnm hid);obtain ⟨q,hq⟩: ∃q,q=Z0l geS D (xs.map PkA.pk) ids:=⟨_,rfl⟩;rw [←hq] at HB;have hr2:Hid (r=Zhv D q):=by
  unfold Hid;rw [hre,ZeS,hq]
 clear hre;go_in;go_wp2_with fail;refine HB.out.mono ?_;rintro e w1 ⟨hb1,h1⟩;have hst1:=h.below hb1;have HM:=qI (Z1h hst1);clear HB
 cases q with
 | error k=>
  obtain rfl:=h1;have z1:(k !=0)=true:=bne_iff_ne.2 (Z5d hq.symm);have z2:(k==0)=false:=beq_eq_false_iff_ne.2 (Z5d hq.symm);have hr3:Hid (r=(0,k)):=hr2;clear hq hr2;go_wp2_with fail;refine HM.out.mono ?_;rintro e w2 ⟨rfl,hw2⟩;obtain rfl:=hw2.symm;go_wp2_with fail;go_ret2;rw [hr3.out];exact ⟨rfl,hb1⟩
 | ok o=>
  cases o with
  | none=>
   obtain rfl:=h1;have hr3:Hid (r=(0,0)):=hr2;have z1:((⟨#[]⟩:BA).toList==(⟨#[]⟩:BA).toList)=true:=Z2M rfl;clear hq hr2;go_wp2_with fail;refine HM.out.mono ?_;rintro e w2 ⟨rfl,hw2⟩;obtain rfl:=hw2.symm;go_wp2_with fail;go_ret2;rw [hr3.out];exact ⟨rfl,hb1⟩
  | some y=>
   obtain ⟨nm,b⟩:=y;obtain ⟨hnm,h32,hbl⟩:=Z6O hq.symm;obtain ⟨l,A1,c1,hlb,rfl,ho1,i1,i2⟩:=h1;obtain rfl:l=b:=hlb.out;have hns:nm.size=66:=by rw [hnm];exact Z1y h32
   have z1: ¬nm.toList=[]:=Z9Y (by rw [hnm];exact Z8j _);have z2:(nm.toList==[])=false:=beq_eq_false_iff_ne.2 z1;have HH:=qI (Z0n hst1.dk hK.ord nm (by unfold maxLen;omega));have k0:w1.cell? ⟨gs,0,none⟩=some (.pointer (some ⟨g,0,none⟩)):=by rw [hst1.st.cell];rfl
   have HNd:=qI (Z2q nm (l.length:Int) w1 (by omega) (by omega) (by omega));have hr3:Hid (r=if (Z1 D.l nm).isSome=true then ((0:Int),(0:Int)) else ((16:Int)+((nm.size:Int)+1)+(l.length:Int),(0:Int))):=hr2;clear hq hr2 hnm;go_wp2_with fail;refine HM.out.mono ?_;rintro e w2 ⟨rfl,hw2⟩;obtain rfl:=hw2.symm;go_wp2_with fail;refine HH.out.mono ?_
   cases hlk:(Z1 D.l nm).isSome with
   | true=>
    rw [hlk] at hr3;rintro e w2 ⟨rfl,hw2⟩;obtain rfl:=hw2.symm;clear hlk;go_wp2_with fail;go_ret2;rw [hr3.out];exact ⟨rfl,hb1⟩
   | false=>
    rw [hlk] at hr3;rintro e w2 ⟨rfl,hw2⟩;obtain rfl:=hw2.symm;clear hlk;go_wp2_with fail;refine HNd.out.mono ?_;rintro e w3 ⟨rfl,hw3⟩;obtain rfl:=hw3.symm;go_wp2_with fail;go_ret2;rw [hr3.out];refine ⟨?_,hb1⟩;simp;omega
end
structure Tw3 (w w':World) (g m gs:Nat):Prop where
 os:w'.os=w.os
 tape:w'.tape=w.tape
 output:w'.output=w.output
 size:w.heap.size≤w'.heap.size
 block: ∀i,i<w.heap.size→i≠g→i≠m→i≠gs→w'.heap[i]?=w.heap[i]?
end Go.Proofs.YtecpbcmpncgokaaGreat
set_option linter.unusedVariables false
namespace Go.Proofs.YtecpbcmpncgokaaGreat
open Go.RowKit Go.Dol
def Zhy (r:LU):Fil:=(Zc (idO r),Zt r)
structure Just (D:Dk) (os:List (LU)):Prop where
 calm:CalmD D
 objs: ∀r∈os,Zd geS r=true
 nodup:(os.map idO).Nodup
 files:D.l.Perm (os.map Zhy)
theorem Z5e: ∀{os:List (LU)},(∀r∈os,Zd geS r=true)→Zg (os.map Zhy)≤2621600*(os.length:Int)
 | [],_=>Int.le_refl _
 | r::os,h=>by
  have h1:=Z4p (h r (List.mem_cons_self ..));have h2:=Z5e fun q hq=>h q (List.mem_cons_of_mem _ hq);have h3:=Z2j (idO r);have h4:=ZM r;rw [List.map_cons,Zg,List.length_cons];unfold Z1n;simp only [Zhy];omega
section
variable {D:Dk} {os ks:List (LU)} {b:LU}
theorem Just.fo (h:Just D os):FO D:=fun f hf=>by
 obtain ⟨r,hr,rfl⟩:=List.mem_map.1 (h.files.mem_iff.1 hf);exact ⟨r,h.objs r hr,rfl⟩
theorem Just.get (h:Just D os) {r:LU} (hr:r∈os):getO geS D (idO r)= .ok r:=
 Zdp (h.objs r hr) rfl ((Zj h.calm.ok.ord).2 (h.files.mem_iff.2 (List.mem_map.2 ⟨r,hr,rfl⟩)))
theorem Just.room (h:Just D os):D.cap-2621600*(os.length:Int)≤frD D:=by
 have:=Z5e h.objs;rw [h.calm.free,Z38 h.files];omega
theorem Just.put (h:Just D os) {raw:LU} (h1:Zd geS raw=true) (hroom:83+((Zt raw).length:Int)≤frD D):
  (∃b,getO geS D (idO raw)= .ok b∧putO geS D raw=(if b=raw then .ok (idO raw) else .error 7,D))∨
  ∃D',getO geS D (idO raw)= .error 6∧putO geS D raw=(.ok (idO raw),D')∧Just D' (os++[raw])∧D'.cap=D.cap∧frD D'=frD D-(82+((Zt raw).length:Int)):=by
 rcases Zgq h.calm h.fo h1 hroom with ⟨b,hb,g,e⟩ | ⟨g,e⟩ | ⟨D',g,e,c1,c2,c3,c4,c5,_,_,c8⟩
 ·exact .inl ⟨b,g,by rw [if_neg hb];exact e⟩
 ·exact .inl ⟨raw,g,by rw [if_pos rfl];exact e⟩
 ·refine .inr ⟨D',g,e,⟨c1,fun r hr=> ?_,?_,?_⟩,c3,c8⟩
  ·rcases List.mem_append.1 hr with hr | hr
   ·exact h.objs r hr
   ·obtain rfl:=List.mem_singleton.1 hr
    exact h1
  ·rw [List.map_append]
   refine List.nodup_append.2 ⟨h.nodup,List.pairwise_singleton ..,fun a ha b hb e=> ?_⟩;obtain rfl:b=idO raw:=by simpa using hb
   obtain ⟨r,hr,hre⟩:=List.mem_map.1 ha;have:=h.get hr;rw [hre,e,g] at this;cases this
  ·rw [c4,List.map_append]
   refine (Z2h ..).trans ?_;rw [Z0x c5];exact (h.files.cons _).trans (List.perm_append_singleton ..).symm
theorem Z5L (D:Dk) (id:BA):getS geS D [] id=getO geS D id:=by
 unfold getS;split
 ·rename_i h
  exact h.symm
 ·rename_i k h
  split
  ·rename_i h6
   rw [h,h6]
   rfl
  ·exact h.symm
theorem Zb1 (D:Dk) (raw:LU):putS geS D [] raw=putO geS D raw:=by
 by_cases h1:Zd geS raw=true
 ·rw [ZaW h1,Z5L]
  have h2:=Zep (ge:=geS) (D:=D) h1;rw [h2]
  cases hg:getO geS D (idO raw) with
  | ok b=>rfl
  | error k=>
   simp only;split
   ·rfl
   ·rfl
 ·have h0:Zd geS raw=false:=by simpa using h1
  rw [Z8f _ _ _ _ h0,ZbI _ _ _ h0]
theorem ZcM {P:List Pk}: ∀{ks:List (LU)},(∀r∈ks,getS geS D P (idO r)= .ok r)→Z15 geS D P (ks.map idO)= .ok ks
 | [],_=>rfl
 | r::ks,h=>by
  rw [List.map_cons,Z15,h r (List.mem_cons_self ..),ZcM fun q hq=>h q (List.mem_cons_of_mem _ hq)]
theorem Z6m (hob: ∀r∈ks,Zd geS r=true) (hn:(ks.map idO).Nodup) (hl:ks.length≤4096): ∃b,ZZ geS ks=some b:=by
 refine ⟨_,if_pos ⟨hl,hob,?_⟩⟩;have e:ks.map idO=(ks.map ZC).map idS:=by rw [List.map_map];rfl
 rw [e] at hn;exact List.Pairwise.of_map idS (fun a b h e=>h (by rw [e])) hn
def pkB (ks:List (LU)) (b:LU):Option (BA×LU):=if ks=[] then none else some (Zu b,b)
theorem Z4A {P:List Pk} (hg: ∀r∈ks,getS geS D P (idO r)= .ok r) (hn:(ks.map idO).Nodup) (hb:ZZ geS ks=some b):Z0l geS D P (ks.map idO)= .ok (pkB ks b):=by
 rw [Z6N hn,ZcM hg];unfold Z5b pkB;simp only;rw [hb];simp only [List.map_eq_nil_iff];split<;>rfl
def pkF (ks:List (LU)) (b:LU):List Fil:=if ks=[] then [] else [(Zu b,b)]
def pkP (ks:List (LU)) (b:LU):List Pk:=if ks=[] then [] else [(Zu b,Z3z [] 0 ks)]
theorem Z3p (b:LU):(Zu b).data.toList=112::47::Z16 (b.drop (b.length-32)):=by
 unfold Zu;rw [ByteArray.data_append];simp
theorem Z5M (h32:32≤b.length):Z4 (Zu b)=true∧Z4 (shd (Zu b))=true∧ZO (Zu b)=false∧(Zu b).size≠0∧Z0I (Zu b)=true:=by
 have hs:=Z1y h32;have hz: ∀x∈(Zu b).data.toList,47≤x.toNat∧x.toNat≤112:=by
  intro x hx;rw [Z3p] at hx;rcases List.mem_cons.1 hx with rfl | hx
  ·decide
  ·rcases List.mem_cons.1 hx with rfl | hx
   ·decide
   ·rcases Z3H _ _ hx with h | h<;>omega
 have h0:(Zu b).data.toList.contains 0=false:=by
  rw [Bool.eq_false_iff];intro hc;have:=hz 0 (List.contains_iff_mem.1 hc);have e:(0:UInt8).toNat=0:=rfl;omega
 have hn:Z4 (Zu b)=true:=by
  unfold Z4;rw [h0,hs]
  rfl
 have hT:ZO (Zu b)=false:=by
  unfold ZO;refine qF fun e=> ?_;have:=hz 126 (List.mem_of_getLast? e);have e2:(126:UInt8).toNat=126:=rfl;omega
 have hsh:Z4 (shd (Zu b))=true:=by
  have h1:(shd (Zu b)).data.toList=(Zu b).data.toList++[126]:=by
   unfold shd;rw [ByteArray.data_append];simp
  unfold Z4;rw [Z0a,hs,h1];have h2:((Zu b).data.toList++[126]).contains 0=false:=by
   rw [Bool.eq_false_iff];intro hc;rcases List.mem_append.1 (List.contains_iff_mem.1 hc) with hm | hm
   ·have:=hz 0 hm
    have e:(0:UInt8).toNat=0:=rfl;omega
   ·cases List.mem_singleton.1 hm
  rw [h2]
  rfl
 refine ⟨hn,hsh,hT,by rw [hs];decide,?_⟩;unfold Z0I;rw [hT,Z3p]
 rfl
theorem Z7f (id:BA):Z0I (Zc id)=false:=by
 unfold Z0I;rw [Z09];simp
theorem ZcN (id:BA) (b:LU):Zc id≠Zu b:=fun e=>by
 have:=congrArg (fun x:BA=>x.data.toList) e;simp only [Z09,Z3p] at this;injection this with this
 cases this
theorem Z8m: ∀{l:List Fil},(∀f∈l,Z0I f.1=false)→Zv geS l=some []
 | [],_=>rfl
 | f::r,h=>by
  rw [Zv,if_neg (by rw [h f (List.mem_cons_self ..)];decide)];exact Z8m fun g hg=>h g (List.mem_cons_of_mem _ hg)
theorem Just.packs (h:Just D os):Zv geS D.l=some []:=Z8m fun f hf=>by
 obtain ⟨r,_,rfl⟩:=List.mem_map.1 (h.files.mem_iff.1 hf);exact Z7f _
theorem ZfX (hb:ZZ geS ks=some b):Zv geS (pkF ks b)=some (pkP ks b):=by
 unfold pkF pkP;split
 ·rfl
 ·rw [Zv,if_pos (Z5M (Z2t hb)).2.2.2.2]
  simp only;rw [Z3V Z17 hb];simp only;rw [if_pos trivial,Zv]
  rfl
theorem Z49: ∀{l:List Fil} {P:List Pk},Zv geS l=some P→P.map Prod.fst=(l.map Prod.fst).filter Z0I
 | [],P,h=>by
  injection h with h
  rw [←h]
  rfl
 | f::r,P,h=>by
  rw [Zv] at h;rw [List.map_cons];split at h
  ·rename_i hn
   rw [List.filter_cons_of_pos hn];split at h
   ·cases h
   ·split at h
    ·cases hr:Zv geS r with
     | none=>rw [hr] at h;cases h
     | some Q=>
      rw [hr] at h;injection h with h
      rw [←h,List.map_cons,Z49 hr]
    ·cases h
  ·rename_i hn
   rw [List.filter_cons_of_neg hn];exact Z49 h
theorem Zb2: ∀{ns:List BA} {D:Dk},CalmD D→(∀n∈ns,Z4 n=true∧(Z1 D.l n).isSome=true)→ns.Nodup→ ∃D',Z1R D ns=(0,D')∧CalmD D'∧D'.cap=D.cap∧ ∀n,(n∈ns→Z1 D'.l n=none)∧(n∉ns→Z1 D'.l n=Z1 D.l n)
 | [],D,h,_,_=>⟨D,rfl,h,rfl,fun n=>⟨fun h=>(List.not_mem_nil h).elim,fun _=>rfl⟩⟩
 | x::ns,D,h,hx,hn=>by
  obtain ⟨hn1,hn2⟩:=List.nodup_cons.1 hn;obtain ⟨hB,hl⟩:=hx x (List.mem_cons_self ..);obtain ⟨b,hb⟩:=Option.isSome_iff_exists.1 hl;obtain ⟨e,L⟩:=Zhl h hb hB;have hlk: ∀n,Z1 (Zr D.l x) n=if n=x then none else Z1 D.l n:=fun n=>Z0y h.ok.ord n
  obtain ⟨D',r1,r2,r3,r4⟩:=Zb2 (ns:=ns) L.calm (fun n hm=>by
   obtain ⟨h1,h2⟩:=hx n (List.mem_cons_of_mem _ hm);refine ⟨h1,?_⟩;show (Z1 (Zr D.l x) n).isSome=true
   rw [hlk,if_neg (fun e:n=x=>hn1 (e▸hm))]
   exact h2) hn2
  refine ⟨D',by rw [Z3o (by rw [e]),e];exact r1,r2,r3,fun n=>⟨fun hm=> ?_,fun hm=> ?_⟩⟩
  ·by_cases h2:n∈ns
   ·exact (r4 n).1 h2
   ·rw [(r4 n).2 h2]
    show Z1 (Zr D.l x) n=none
    rw [hlk,if_pos ((List.mem_cons.1 hm).resolve_right h2)]
  ·rw [(r4 n).2 fun h2=>hm (List.mem_cons_of_mem _ h2)]
   show Z1 (Zr D.l x) n=_
   rw [hlk,if_neg fun e:n=x=>hm (by rw [e];exact List.mem_cons_self ..)]
theorem Z8n: ∀{ids:List BA} {D:Dk},CalmD D→(∀x∈ids,x.size=32∧(Z1 D.l (Zc x)).isSome=true)→ids.Nodup→Z1V D ids=Z1R D (ids.map Zc)
 | [],D,_,_,_=>rfl
 | x::ids,D,h,hx,hn=>by
  obtain ⟨hn1,hn2⟩:=List.nodup_cons.1 hn;obtain ⟨h32,hl⟩:=hx x (List.mem_cons_self ..);obtain ⟨b,hb⟩:=Option.isSome_iff_exists.1 hl;obtain ⟨e,L⟩:=Zhl h hb (Z2x h32).1;have hd:dropO D x=remD D (Zc x):=by
   unfold Go.Dol.dropO;rw [if_neg (by rw [h32];simp),if_pos hl]
  rw [List.map_cons,Z48 (by rw [hd,e]),Z3o (by rw [e]),hd,e];refine Z8n (ids:=ids) L.calm (fun y hy=> ?_) hn2;obtain ⟨h1,h2⟩:=hx y (List.mem_cons_of_mem _ hy);refine ⟨h1,?_⟩;show (Z1 (Zr D.l (Zc x)) (Zc y)).isSome=true
  rw [Z0y h.ok.ord,if_neg (fun e=>hn1 (by rw [←Z29 e];exact hy))];exact h2
theorem Z6Q {l:List Fil} (h:InOrder l):(l.map Prod.fst).Nodup:=by
 unfold List.Nodup;rw [List.pairwise_map];exact h.imp fun h1=>Z5Y h1
theorem Z8o (h:InOrder D.l):(idsO D).Nodup:=by
 unfold idsO List.Nodup;rw [List.pairwise_filterMap];refine (Z6Q h).imp fun {a b} hab x hx y hy e=>hab ?_;rw [(Z7G hx).1,(Z7G hy).1,e]
theorem Z8p (h:CalmD D) {P:List Pk} (hP:Zv geS D.l=some P) (but:BA):
  ∃D',Z0P geS D but=(0,D')∧CalmD D'∧D'.cap=D.cap∧ ∀n,((Z0I n=true∧n≠but∨ ∃id:BA,id.size=32∧n=Zc id)→Z1 D'.l n=none)∧(¬(Z0I n=true∧n≠but∨ ∃id:BA,id.size=32∧n=Zc id)→Z1 D'.l n=Z1 D.l n):=by
 have hpn:=Z49 hP;have hthere: ∀n∈P.map Prod.fst,Z0I n=true∧(Z1 D.l n).isSome=true:=fun n hn=>by
  rw [hpn] at hn;obtain ⟨h1,h2⟩:=List.mem_filter.1 hn;obtain ⟨f,hf,rfl⟩:=List.mem_map.1 h1;refine ⟨h2,?_⟩;rw [(Zj h.ok.ord (b:=f.2)).2 hf]
  rfl
 have hmem: ∀n,n∈butL but (P.map Prod.fst)↔n∈P.map Prod.fst∧n≠but:=fun n=>by
  unfold butL;rw [List.mem_filter];simp
 obtain ⟨D1,e1,c1,k1,l1⟩:=Zb2 (ns:=butL but (P.map Prod.fst)) h (fun n hn=>by
  have hm:=((hmem n).1 hn).1;rw [hpn] at hm;obtain ⟨f,hf,rfl⟩:=List.mem_map.1 (List.mem_filter.1 hm).1
  exact ⟨h.ok.names f hf,(hthere _ ((hmem _).1 hn).1).2⟩) (by
  refine List.Pairwise.filter _ ?_;rw [hpn]
  exact (Z6Q h.ok.ord).filter _)
 have hids: ∀x∈idsO D1,x.size=32∧(Z1 D1.l (Zc x)).isSome=true:=fun x hx=>(Z7I c1.ok.ord).1 hx
 obtain ⟨D2,e2,c2,k2,l2⟩:=Zb2 (ns:=(idsO D1).map Zc) c1 (fun n hn=>by
  obtain ⟨x,hx,rfl⟩:=List.mem_map.1 hn
  exact ⟨(Z2x (hids x hx).1).1,(hids x hx).2⟩) (by
  unfold List.Nodup;rw [List.pairwise_map]
  exact (Z8o c1.ok.ord).imp fun h e=>h (Z29 e))
 refine ⟨D2,?_,c2,k2.trans k1,fun n=>⟨fun h9=> ?_,fun h9=> ?_⟩⟩
 ·unfold Z0P
  rw [hP];simp only;unfold Z8r;rw [e1,if_neg (fun h=>h rfl),Z8n c1 hids (Z8o c1.ok.ord)];exact e2
 ·by_cases hm:n∈(idsO D1).map Zc
  ·exact (l2 n).1 hm
  ·rw [(l2 n).2 hm]
   rcases h9 with h9 | ⟨id,h32,rfl⟩
   ·by_cases hb:n∈butL but (P.map Prod.fst)
    ·exact (l1 n).1 hb
    ·rw [(l1 n).2 hb]
     cases hl:Z1 D.l n with
     | none=>rfl
     | some b=>
      refine absurd ((hmem n).2 ⟨?_,h9.2⟩) hb;rw [hpn];exact List.mem_filter.2 ⟨List.mem_map.2 ⟨(n,b),(Zj h.ok.ord).1 hl,rfl⟩,h9.1⟩
   ·cases hl:Z1 D1.l (Zc id) with
    | none=>rfl
    | some b=>exact absurd (List.mem_map.2 ⟨id,(Z7I c1.ok.ord).2 ⟨h32,by rw [hl];rfl⟩,rfl⟩) hm
 ·rw [(l2 n).2 fun hm=> ?_,(l1 n).2 fun hm=> ?_]
  ·exact h9 (.inl ⟨(hthere n ((hmem n).1 hm).1).1,((hmem n).1 hm).2⟩)
  ·obtain ⟨x,hx,rfl⟩:=List.mem_map.1 hm
   exact h9 (.inr ⟨x,(hids x hx).1,rfl⟩)
structure Packed (D:Dk) (ks:List (LU)) (b:LU):Prop where
 calm:CalmD D
 build:ZZ geS ks=some b
 files:D.l=pkF ks b
theorem Packed.objs (h:Packed D ks b):Z6e geS ks:=by
 have:=h.build;unfold ZZ at this;split at this
 ·assumption
 ·cases this
theorem Packed.packs (h:Packed D ks b):Zv geS D.l=some (pkP ks b):=by
 rw [h.files];exact ZfX h.build
theorem Packed.look (h:Packed D ks b) (id:BA):Z1 D.l (Zc id)=none:=by
 rw [h.files];unfold pkF;split
 ·rfl
 ·refine (Z1e (List.pairwise_singleton ..)).2 fun f hf=> ?_
  obtain rfl:=List.mem_singleton.1 hf;exact (ZcN id b).symm
theorem Packed.ids (h:Packed D ks b):idsO D=[]:=by
 rw [List.eq_nil_iff_forall_not_mem];intro x hx;have:=((Z7I h.calm.ok.ord).1 hx).2;rw [h.look] at this;cases this
theorem Zhz {l:List Pt} (hn:(l.map (·.id)).Nodup) {p:Pt} (h:p∈l):Z1Y l p.id=some p:=by
 unfold Z1Y
 induction l with
 | nil=>cases h
 | cons q l ih=>
  rw [List.map_cons,List.nodup_cons] at hn;rw [List.find?_cons];rcases List.mem_cons.1 h with rfl | h
  ·simp
  ·have hne:q.id≠p.id:=fun e=>hn.1 (by rw [e];exact List.mem_map.2 ⟨p,h,rfl⟩)
   simp only [hne,decide_false];exact ih hn.2 h
theorem Packed.get (h:Packed D ks b) {r:LU} (hr:r∈ks):getS geS D (pkP ks b) (idO r)= .ok r:=by
 have hok:=h.objs;obtain ⟨p,hp,rfl⟩: ∃p∈Z3z [] 0 ks,p.raw=r:=by
  have:r∈(Z3z [] 0 ks).map (·.raw):=by rw [Zcd];exact hr
  exact List.mem_map.1 this
 have hid:p.id=ZC p.raw:=(Z8h (Z3V Z17 h.build)).2.1 p hp |>.2;have hl:=Zhz (l:=Z3z [] 0 ks) (by rw [Z5B];exact hok.2.2) hp;have hf:Z4N (pkP ks b) (idO p.raw)=some p.raw:=by
  unfold pkP;rw [if_neg (fun e=>by rw [e] at hr;cases hr),Z58];have e:(idO p.raw).data.toList=p.id:=by rw [hid];simp [idO,idS]
  rw [e];simp only;rw [hl]
 unfold getS;rw [Z7H (ZM _) (h.look _)];simp only [if_true];rw [hf]
theorem Z6R (h:Just D os) (hk: ∀r∈ks,r∈os) (hn:(ks.map idO).Nodup) (hb:ZZ geS ks=some b) (hroom:ks≠[]→83+(b.length:Int)≤frD D):
  ∃D',repQ geS D [] (Z0l geS D [] (ks.map idO))=((0,D'),pkP ks b)∧Packed D' ks b∧D'.cap=D.cap:=by
 have hN: ∀D':Dk,Packed D' ks b→nowP geS D' []=pkP ks b:=fun D' h'=>by
  unfold nowP;rw [h'.packs]
  rfl
 rw [Z4A (fun r hr=>by rw [Z5L];exact h.get (hk r hr)) hn hb];have ho:=h.calm.ok.ord;unfold pkB
 by_cases h0:ks=[]
 ·obtain ⟨D',e,c,k,l⟩:=Z8p h.calm h.packs ⟨#[]⟩
  have hp:Packed D' ks b:=⟨c,hb,Z3J c.ok.ord (by unfold pkF;rw [if_pos h0];exact List.Pairwise.nil) fun x=>by
   unfold pkF;rw [if_pos h0]
   by_cases hx:Z0I x=true∧x≠⟨#[]⟩∨ ∃id:BA,id.size=32∧x=Zc id
   ·exact (l x).1 hx
   ·rw [(l x).2 hx]
    cases hl:Z1 D.l x with
    | none=>rfl
    | some c=>
     obtain ⟨r,_,hr,_⟩:=h.fo.look ho hl
     exact absurd (.inr ⟨_,ZM r,hr⟩) hx⟩
  refine ⟨D',?_,hp,k⟩;rw [if_pos h0];unfold repQ;simp only;rw [e];simp only;rw [hN D' hp]
 ·have h32:=Z2t hb
  obtain ⟨b1,b2,b3,b4,b5⟩:=Z5M h32;have hnone: ∀x,Z0I x=true∨ZO x=true→Z1 D.l x=none:=fun x hx=>by
   cases hl:Z1 D.l x with
   | none=>rfl
   | some c=>
    obtain ⟨r,_,hr,_⟩:=h.fo.look ho hl;rw [hr,Z7f,(Z2x (ZM r)).2.2.1] at hx;rcases hx with hx | hx<;>cases hx
  have hsh:Z1 D.l (shd (Zu b))=none:=hnone _ (.inr (ZbK _));have hl0:Z1 D.l (Zu b)=none:=hnone _ (.inl b5);have hsz:=Z1y h32;have hr:=hroom h0;rw [if_neg h0];unfold repQ;simp only;rw [hl0,if_neg (by simp)];rcases Z6k h.calm (n:=Zu b) (b:=b) (fun _=>hsh) with e | ⟨_,e,_⟩ | ⟨_,_,_,D1,e,L,l1,l2,l3⟩
  ·have hs:=Zbj ho h.calm.dark (Zu b) b
   rcases hs with ⟨hbad,_⟩ | ⟨_,_,_,hO⟩
   ·rcases hbad with hb | hb | hb
    ·rw [b2] at hb;cases hb
    ·exact absurd hb b4
    ·rw [b3] at hb;cases hb
   ·rw [e] at hO
    rcases hO.way with ⟨h1,_⟩ | ⟨⟨h1,_⟩ | ⟨h1,_⟩,_⟩<;>cases h1
  ·rw [hsz] at e
   omega
  ·have hl':D1.l=putF D.l (Zu b) b:=Z3J L.calm.ok.ord (Z05 ho) fun x=>by
    rw [ZL ho]
    by_cases hx:x=Zu b
    ·rw [if_pos hx,hx,l1]
    ·rw [if_neg hx]
     by_cases hx2:x=shd (Zu b)
     ·rw [hx2,l2,hsh]
     ·exact l3 x hx hx2
   have hP1: ∃P,Zv geS D1.l=some P:=by
    have key: ∀{l:List Fil},(∀f∈l,f=(Zu b,b)∨Z0I f.1=false)→ ∃P,Zv geS l=some P:=by
     intro l
     induction l with
     | nil=>exact fun _=>⟨_,rfl⟩
     | cons f r ih=>
      intro hf;obtain ⟨P,hP⟩:=ih fun g hg=>hf g (List.mem_cons_of_mem _ hg);rcases hf f (List.mem_cons_self ..) with rfl | hf
      ·refine ⟨(Zu b,Z3z [] 0 ks)::P,?_⟩
       rw [Zv,if_pos b5];simp only;rw [Z3V Z17 hb];simp only;rw [if_pos trivial,hP]
       rfl
      ·exact ⟨P,by rw [Zv,if_neg (by rw [hf];decide)];exact hP⟩
    refine key fun f hf=> ?_;rw [hl'] at hf;rcases Z37 f hf with e | hm
    ·exact .inl e
    ·obtain ⟨r,_,e⟩:=h.fo f hm
     exact .inr (by rw [e];exact Z7f _)
   obtain ⟨P,hP⟩:=hP1;obtain ⟨D2,e2,c2,k2,l4⟩:=Z8p L.calm hP (Zu b)
   have hp:Packed D2 ks b:=⟨c2,hb,Z3J c2.ok.ord (by unfold pkF;rw [if_neg h0];exact List.pairwise_singleton ..) fun x=>by
    unfold pkF;rw [if_neg h0]
    by_cases hx:x=Zu b
    ·rw [(l4 x).2 fun h9=> ?_,hl',ZL ho,if_pos hx,hx]
     ·exact ((Zj (List.pairwise_singleton ..)).2 (List.mem_singleton.2 rfl)).symm
     ·rcases h9 with ⟨_,h9⟩ | ⟨id,_,h9⟩
      ·exact h9 hx
      ·exact ZcN id b (h9.symm.trans hx)
    ·have hz:Z1 [(Zu b,b)] x=none:=(Z1e (List.pairwise_singleton ..)).2 fun f hf=>by
      obtain rfl:=List.mem_singleton.1 hf;exact fun e=>hx e.symm
     rw [hz]
     by_cases hx2:Z0I x=true∧x≠Zu b∨ ∃id:BA,id.size=32∧x=Zc id
     ·exact (l4 x).1 hx2
     ·rw [(l4 x).2 hx2,hl',ZL ho,if_neg hx]
      cases hl:Z1 D.l x with
      | none=>rfl
      | some c=>
       obtain ⟨r,_,hr,_⟩:=h.fo.look ho hl
       exact absurd (.inr ⟨_,ZM r,hr⟩) hx2⟩
   refine ⟨D2,?_,hp,k2.trans L.cap⟩;rw [e,if_neg (fun h=>h rfl)];simp only;rw [e2];simp only;rw [hN D2 hp]
theorem Zb3 (h:Packed D ks b) {b0:LU} (hb0:ZZ geS []=some b0): ∃D',repQ geS D (pkP ks b) (Z0l geS D (pkP ks b) [])=((0,D'),[])∧CalmD D'∧D'.l=[]:=by
 obtain ⟨D',e,c,k,l⟩:=Z8p h.calm h.packs ⟨#[]⟩;have hl:D'.l=[]:=Z3J c.ok.ord List.Pairwise.nil fun x=>by
  by_cases hx:Z0I x=true∧x≠⟨#[]⟩∨ ∃id:BA,id.size=32∧x=Zc id
  ·exact (l x).1 hx
  ·rw [(l x).2 hx,h.files]
   unfold pkF;split
   ·rfl
   ·cases hl:Z1 [(Zu b,b)] x with
    | none=>rfl
    | some c=>
     have:=(Zj (List.pairwise_singleton ..)).1 hl;have e2:x=Zu b:=by
      have:=List.mem_singleton.1 this;injection this
     exact absurd (.inl ⟨by rw [e2];exact (Z5M (Z2t h.build)).2.2.2.2,by rw [e2];exact Z8j b⟩) hx
 refine ⟨D',?_,c,hl⟩;have hB:=Z4A (D:=D) (P:=pkP ks b) (ks:=[]) (fun r hr=>by cases hr) List.nodup_nil hb0;rw [show ([]:List (LU)).map idO=[] from rfl] at hB;rw [hB];unfold pkB repQ;simp only [if_true];rw [e];simp only;unfold nowP;rw [hl]
 rfl
end
end Go.Proofs.YtecpbcmpncgokaaGreat
