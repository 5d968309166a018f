/- The layer 'store': the walk of Object. Conditions: a disk in good order, packs in good order. The layer 'store': the walk of build. Conditions: a disk and packs in good order; few ids, of at most 2^46 bytes. The layer 'store': the walks of Need and Repack. Conditions: a disk in good order with room for one more file; packs in good order; few ids. -/
import Derived.Test.YtecpbcmpncgokaaGreatSto0
import Derived.Test.YtecpbcmpncgokaaGreatShort
import Derived.Test.YtecpbcmpncgokaaGreatPckBuild
set_option linter.unusedVariables false
namespace Go.Dol
open Go.RowKit
def objS (ge:BA→BA→Bool) (D:Dk) (P:List Pk) (id:BA) (kind:Int):Except Int Obj:=match getS ge D P id with
 | .error k=> .error k
 | .ok b=>match decO ge b with
  | none=> .error 2
  | some o=>if kind≠0∧o.kind≠kind then .error 6 else .ok o
theorem ZgW {ge:BA→BA→Bool} {D:Dk} {P:List Pk} {id:BA} {kind k:Int} (h:getS ge D P id= .error k):objS ge D P id kind= .error k:=by
 unfold objS;rw [h]
theorem Zfl {ge:BA→BA→Bool} {D:Dk} {P:List Pk} {id:BA} {kind:Int} {b:LU} (h:getS ge D P id= .ok b) (h2:decO ge b=none):objS ge D P id kind= .error 2:=by
 unfold objS;rw [h];simp only;rw [h2]
theorem Z9z {ge:BA→BA→Bool} {D:Dk} {P:List Pk} {id:BA} {kind:Int} {b:LU} {o:Obj} (h:getS ge D P id= .ok b) (h2:decO ge b=some o):objS ge D P id kind=if kind≠0∧o.kind≠kind then .error 6 else .ok o:=by
 unfold objS;rw [h];simp only;rw [h2]
theorem ZgX {P:List Pk} (hP:PkOk P) {id:BA} {b:LU} (h:Z4F P id=some b):b.length≤2097152:=by
 induction P with
 | nil=>cases h
 | cons p r ih=>
  rw [Z52] at h;split at h
  ·rename_i x hx
   injection h with h
   rw [←h];exact (hP p (List.mem_cons_self ..)).2 x (List.mem_of_find?_eq_some hx)
  ·exact ih (fun q hq=>hP q (List.mem_cons_of_mem _ hq)) h
theorem ZgY {ge:BA→BA→Bool} {D:Dk} {id:BA} {b:LU} (h:getO ge D id= .ok b):b.length≤2097152:=by
 unfold getO at h;split at h
 ·cases h
 ·split at h
  ·cases h
  ·split at h
   ·cases h
   ·rename_i raw hr
    split at h
    ·injection h with h
     rw [←h];have:=(Z4p hr).2;omega
    ·cases h
theorem Zck {ge:BA→BA→Bool} {D:Dk} {P:List Pk} (hP:PkOk P) {id:BA} {b:LU} (h:getS ge D P id= .ok b):b.length≤2097152:=by
 unfold getS at h;split at h
 ·rename_i b' h1
  injection h with h
  rw [←h];exact ZgY h1
 ·split at h
  ·split at h
   ·rename_i r hr
    injection h with h
    rw [←h];exact ZgX hP hr
   ·cases h
  ·cases h
theorem Z2P {ge:BA→BA→Bool} {D:Dk} {P:List Pk} {id:BA} {k:Int} (e:getS ge D P id= .error k):k≠0:=by
 unfold getS at e;split at e
 ·cases e
 ·rename_i k' h1
  split at e
  ·split at e
   ·cases e
   ·injection e with e
    omega
  ·injection e with e
   unfold getO at h1;split at h1
   ·injection h1 with h1;omega
   ·split at h1
    ·injection h1 with h1;omega
    ·split at h1
     ·injection h1 with h1;omega
     ·split at h1
      ·cases h1
      ·injection h1 with h1;omega
end Go.Dol
namespace Go.Proofs.YtecpbcmpncgokaaGreat
open Go.RowKit Go.Dol
def ZhZ (w:World) (r:Except Int Go.Dol.Obj) (e:Ending) (w':World):Prop:=match r with
 | .error k=>e= .returned (.tuple #[.agg zcells.toArray,.int .i64 k])∧Below w.heap.size w w'
 | .ok o=>Z4U w (some o) e w'
section
variable {w w':World} {base gp gs g m:Nat} {xs:List PkA} {D:Dk}
set_option maxRecDepth 100000 in
set_option maxHeartbeats 3200000 in
theorem Z8L (h:Sto w gs g m base gp D xs) (hK:OkW D) (hP:PkOk (xs.map PkA.pk)) (hn:xs.length≤3518437208880) (id:BA) (hid:id.size≤70368744177600) (kind:Int):
  Calls Tryz.prog 62 #[.pointer (some ⟨gs,0,none⟩),.string id,.int .i64 kind] w (ZhZ w (objS geS D (xs.map PkA.pk) id kind)):=by
 obtain ⟨r,hre⟩: ∃r,r=objS geS D (xs.map PkA.pk) id kind:=⟨_,rfl⟩;rw [←hre];have HR:=qI hre;clear hre;have ha:Below w.heap.size w (w.alloc (.cells zcells.toArray 40)):=(bR _ _).alloc (lR _) _;have hB:=Blk.new w 40 zcells;have hs0:(w.alloc (.cells zcells.toArray 40)).heap.size=w.heap.size+1:=by simp
 have HG:=qI (Z3h (h.below ha) hK hP hn id hid);obtain ⟨q,hq⟩: ∃q,q=getS geS D (xs.map PkA.pk) id:=⟨_,rfl⟩;rw [←hq] at HG;go_in;go_wp2_with fail;refine HG.out.mono ?_;intro e w1 h1
 cases q with
 | error k=>
  obtain ⟨hb1,rfl⟩:=h1;have z1:(k !=0)=true:=bne_iff_ne.2 (Z2P hq.symm);have hr2:=qI (HR.out.trans (ZgW hq.symm));have hB1:=hB.below hb1 hB.lt;have hb01:=ha.next hb1;clear hq HR;go_wp2_with ((refine Z4 (by rfl) _ (.tmp 6) (.tmp 19) rfl w.heap.size zcells rfl rfl 40 zcells hB1 (by kernel_rfl) rfl (by decide) ?_;intro w6 hB6 hg6));have hl:=Go.run_loadVar_row (P:=Tryz.prog) w6 w.heap.size 40 40 zcells.toArray (0,0) _ hB6 Tryz.underlying40 rfl (by kernel_rfl);rw [hr2.out];refine bodyPost_ret (v:=.tuple #[.agg zcells.toArray,.int .i64 k]) ?_ rfl ⟨rfl,hb01.grown hg6 hb01.size (fun k hk=>by cases hk;exact lR _)⟩;simp [results,Tryz.results62,asAddr,hl]
 | ok b=>
  obtain ⟨hb1,q',A1,c1,hq',rfl,ho1,i1,i2⟩:=h1;have hB1:=hB.below hb1 hB.lt;have hb01:=ha.next hb1;have hbl:=Zck hP hq.symm;have hD:=Z1j A1 q' c1 w1 (Rd.of_own ho1) i1 i2 (by rw [hq'.out];omega);go_wp2_with fail;rw [hq'.out] at hD
  cases hdec:decO geS b with
  | none=>
   rw [hdec] at hD;have HD:=qI hD;have hr2:=qI (HR.out.trans (Zfl hq.symm hdec));clear hD hdec HR hq;rw [←hq'.out] at HD;refine HD.out.mono ?_;rintro e w2 ⟨rfl,hb2⟩;have hB2:=hB1.below hb2 hB1.lt;have hb02:=hb01.next hb2;have hN:=Blk.new w2 40 zcells;have hB3:=hB2.alloc (.cells zcells.toArray 40);have hb03:=hb02.alloc hb02.size (.cells zcells.toArray 40)
   go_wp2_with ((first
    | (refine wpList_load_row rfl 40 _ rfl w2.heap.size rfl _ _ _ _ hN Tryz.underlying40 rfl (by kernel_rfl) ?_)
    | (refine Z4 (by rfl) _ (.tmp 6) (.tmp 39) rfl w.heap.size zcells rfl rfl 40 zcells hB3 (by kernel_rfl) rfl (by decide) ?_;intro w6 hB6 hg6)))
   have hl:=Go.run_loadVar_row (P:=Tryz.prog) w6 w.heap.size 40 40 zcells.toArray (0,0) _ hB6 Tryz.underlying40 rfl (by kernel_rfl);rw [hr2.out];refine bodyPost_ret (v:=.tuple #[.agg zcells.toArray,.int .i64 2]) ?_ rfl ⟨rfl,hb03.grown hg6 hb03.size (fun k hk=>by cases hk;exact lR _)⟩;simp [results,Tryz.results62,asAddr,hl]
  | some o=>
   rw [hdec] at hD;have HD:=qI hD;have hr2:=qI (HR.out.trans (Z9z hq.symm hdec));clear hD hdec HR hq;rw [←hq'.out] at HD;refine HD.out.mono ?_;rintro e w2 ⟨k,Ad,d,cd,Ae,en,ce,tr,Ap,pa,cp,ta,na,wh,st,te,hoE,rfl,r1,r2,r3,hb2,r5,r6,r7⟩;have hB2:=hB1.below hb2 hB1.lt;have hb02:=hb01.next hb2;have hN:=Blk.new w2 40 [.int .i64 k,.slice Ad d.length cd,.slice Ae en.length ce,.string tr,.slice Ap pa.length cp,.string ta,.string na,.string wh,.int .i64 st,.string te];have hB3:=hB2.alloc (.cells ([.int .i64 k,.slice Ad d.length cd,.slice Ae en.length ce,.string tr,.slice Ap pa.length cp,.string ta,.string na,.string wh,.int .i64 st,.string te]:List Value).toArray 40);have hbN:Below w2.heap.size w2 (w2.alloc (.cells ([.int .i64 k,.slice Ad d.length cd,.slice Ae en.length ce,.string tr,.slice Ap pa.length cp,.string ta,.string na,.string wh,.int .i64 st,.string te]:List Value).toArray 40)):=(bR _ _).alloc (lR _) _;have hb03:=hb02.alloc hb02.size (.cells ([.int .i64 k,.slice Ad d.length cd,.slice Ae en.length ce,.string tr,.slice Ap pa.length cp,.string ta,.string na,.string wh,.int .i64 st,.string te]:List Value).toArray 40);have hlt1:w.heap.size<w1.heap.size:=by have:=hb1.size;omega
   have hlt2:w.heap.size≤w1.heap.size:=by omega
   have hok:o.kind=k:=by rw [hoE.out]
   rw [hok] at hr2;have hnc:=hN.cell 0
   by_cases hk0:kind=0
   ·have hr3:Hid (r= .ok o):=by
     unfold Hid;rw [hr2.out,if_neg (fun h=>h.1 hk0)]
    subst hk0;clear hr2 hok
    go_wp2_with ((first
     | (refine wpList_load_row rfl 40 _ rfl w2.heap.size rfl _ _ _ _ hN Tryz.underlying40 rfl (by kernel_rfl) ?_)
     | (refine Z4 (by rfl) _ (.tmp 6) (.tmp 39) rfl w.heap.size [.int .i64 k,.slice Ad d.length cd,.slice Ae en.length ce,.string tr,.slice Ap pa.length cp,.string ta,.string na,.string wh,.int .i64 st,.string te] rfl rfl 40 zcells hB3 (by kernel_rfl) rfl (Z6n _ _ _ _ _ _ _ _ _ _ rfl rfl rfl) ?_;intro w6 hB6 hg6)))
    have hl:=Go.run_loadVar_row (P:=Tryz.prog) w6 w.heap.size 40 40 (#[.int .i64 k,.slice Ad d.length cd,.slice Ae en.length ce,.string tr,.slice Ap pa.length cp,.string ta,.string na,.string wh,.int .i64 st,.string te]) (0,0) _ hB6 Tryz.underlying40 rfl (by kernel_rfl);rw [hr3.out];refine bodyPost_ret (v:=.tuple #[.agg #[.int .i64 k,.slice Ad d.length cd,.slice Ae en.length ce,.string tr,.slice Ap pa.length cp,.string ta,.string na,.string wh,.int .i64 st,.string te],.int .i64 0]) ?_ rfl ⟨k,Ad,d,cd,Ae,en,ce,tr,Ap,pa,cp,ta,na,wh,st,te,hoE,rfl,(((r1.below hbN).apart hg6 hlt1).lower hlt2),(((r2.below hbN).apart hg6 hlt1).lower hlt2),(((r3.below hbN).apart hg6 hlt1).lower hlt2),hb03.grown hg6 hb03.size (fun k hk=>by cases hk;exact lR _),r5,r6,r7⟩;simp [results,Tryz.results62,asAddr,hl]
   ·have z1:(kind !=0)=true:=bne_iff_ne.2 hk0
    have z2:(kind==0)=false:=beq_eq_false_iff_ne.2 hk0
    by_cases hkk:k=kind
    ·have hr3:Hid (r= .ok o):=by
      unfold Hid;rw [hr2.out,if_neg (fun h=>h.2 hkk)]
     subst hkk;clear hr2 hok hk0
     go_wp2_with ((first
      | (refine wpList_load_row rfl 40 _ rfl w2.heap.size rfl _ _ _ _ hN Tryz.underlying40 rfl (by kernel_rfl) ?_)
      | (refine Z4 (by rfl) _ (.tmp 6) (.tmp 39) rfl w.heap.size [.int .i64 k,.slice Ad d.length cd,.slice Ae en.length ce,.string tr,.slice Ap pa.length cp,.string ta,.string na,.string wh,.int .i64 st,.string te] rfl rfl 40 zcells hB3 (by kernel_rfl) rfl (Z6n _ _ _ _ _ _ _ _ _ _ rfl rfl rfl) ?_;intro w6 hB6 hg6)))
     have hl:=Go.run_loadVar_row (P:=Tryz.prog) w6 w.heap.size 40 40 (#[.int .i64 k,.slice Ad d.length cd,.slice Ae en.length ce,.string tr,.slice Ap pa.length cp,.string ta,.string na,.string wh,.int .i64 st,.string te]) (0,0) _ hB6 Tryz.underlying40 rfl (by kernel_rfl);rw [hr3.out];refine bodyPost_ret (v:=.tuple #[.agg #[.int .i64 k,.slice Ad d.length cd,.slice Ae en.length ce,.string tr,.slice Ap pa.length cp,.string ta,.string na,.string wh,.int .i64 st,.string te],.int .i64 0]) ?_ rfl ⟨k,Ad,d,cd,Ae,en,ce,tr,Ap,pa,cp,ta,na,wh,st,te,hoE,rfl,(((r1.below hbN).apart hg6 hlt1).lower hlt2),(((r2.below hbN).apart hg6 hlt1).lower hlt2),(((r3.below hbN).apart hg6 hlt1).lower hlt2),hb03.grown hg6 hb03.size (fun k hk=>by cases hk;exact lR _),r5,r6,r7⟩;simp [results,Tryz.results62,asAddr,hl]
    ·have z3:(k !=kind)=true:=bne_iff_ne.2 hkk
     have z4:(k==kind)=false:=beq_eq_false_iff_ne.2 hkk;have hr3:Hid (r= .error 6):=by
      unfold Hid;rw [hr2.out,if_pos ⟨hk0,hkk⟩]
     clear hr2 hok hk0 hkk;go_wp2_with ((refine Z4 (by rfl) _ (.tmp 6) (.tmp 38) rfl w.heap.size zcells rfl rfl 40 zcells hB3 (by kernel_rfl) rfl (by decide) ?_;intro w6 hB6 hg6));have hl:=Go.run_loadVar_row (P:=Tryz.prog) w6 w.heap.size 40 40 zcells.toArray (0,0) _ hB6 Tryz.underlying40 rfl (by kernel_rfl);rw [hr3.out];refine bodyPost_ret (v:=.tuple #[.agg zcells.toArray,.int .i64 6]) ?_ rfl ⟨rfl,hb03.grown hg6 hb03.size (fun k hk=>by cases hk;exact lR _)⟩;simp [results,Tryz.results62,asAddr,hl]
end
end Go.Proofs.YtecpbcmpncgokaaGreat
set_option linter.unusedVariables false
namespace Go.Dol
open Go.RowKit
theorem Zdy {l:List BA} {x:BA} (h:l.Nodup) (hx:hasS l x=false):(l++[x]).Nodup:=by
 refine List.nodup_append.2 ⟨h,List.pairwise_singleton ..,fun a ha b hb e=> ?_⟩;obtain rfl:=List.mem_singleton.1 hb;rw [Z3I.2 (e▸ha)] at hx;cases hx
theorem Zfn {l:List BA} {k:Nat} {x:BA} (hx:l[k]?=some x) (h:hasS (l.take k) x=true): ¬l.Nodup:=fun hn=>by
 have h1:=Z3I.1 h;have h2:=List.take_append_drop k l;rw [←h2] at hn;refine (List.nodup_append.1 hn).2.2 x h1 x ?_ rfl;rw [Z6X hx];exact List.mem_cons_self ..
section
variable {ge:BA→BA→Bool} {D:Dk} {P:List Pk} {ids:List BA} {id:BA} {r:List BA}
theorem ZaJ (h: ¬ids.Nodup):Z0W ge D P ids= .error 1:=if_pos h
theorem Zfo:Z0Z ge D P []= .ok []:=rfl
theorem Zfp {k:Int} (h:getS ge D P id= .error k):Z0Z ge D P (id::r)= .error k:=by
 rw [Z0Z,h]
theorem Z9A (hP:PkOk P): ∀{ids:List BA} {bs:List (LU)},Z0Z ge D P ids= .ok bs→ ∀l∈bs,l.length≤2097152
 | [],bs,h,l,hl=>by
  rw [Z0Z] at h;injection h with h
  rw [←h] at hl;cases hl
 | id::r,bs,h,l,hl=>by
  rw [Z0Z] at h;split at h
  ·cases h
  ·rename_i b hb
   split at h
   ·cases h
   ·rename_i cs hc
    injection h with h
    rw [←h] at hl;rcases List.mem_cons.1 hl with rfl | hl
    ·exact Zck hP hb
    ·exact Z9A hP hc l hl
theorem Z42 {rs:List (LU)} {b:LU} (h:Z04 ge rs=some b):32≤b.length:=by
 unfold Z04 at h;split at h
 ·injection h with h
  rw [←h,List.length_append,ZX];omega
 ·cases h
def behS (bs:List (LU)):Except Int (List (LU))→Except Int (List (LU))
 | .error k=> .error k
 | .ok cs=> .ok (bs++cs)
theorem Zh0 {b:LU} (bs:List (LU)) (h:getS ge D P id= .ok b):behS bs (Z0Z ge D P (id::r))=behS (bs++[b]) (Z0Z ge D P r):=by
 rw [Z0Z,h];simp only;cases Z0Z ge D P r<;>simp [behS]
def Z54 (ge:BA→BA→Bool) (ids:List BA):Except Int (List (LU))→Except Int (Option (BA×LU))
 | .error k=> .error k
 | .ok bs=>match Z04 ge bs with
  | none=> .error 1
  | some b=>if ids=[] then .ok none else .ok (some (Zv b,b))
theorem Z6y (h:ids.Nodup):Z0W ge D P ids=Z54 ge ids (Z0Z ge D P ids):=by
 unfold Z0W;rw [if_neg (not_not_intro h)]
 rfl
end
end Go.Dol
namespace Go.Proofs.YtecpbcmpncgokaaGreat
open Go.RowKit Go.Dol
theorem Z55 (M:Nat) (hM:M≤2097152): ∀(rs:List (LU)) (prev:LU) (d:Nat),(∀r∈rs,r.length≤M)→(Z1p prev d rs).length≤rs.length*(M+64)
 | [],_,_,_=>zL _
 | r::rs,prev,d,h=>by
  have h1:=Z55 M hM rs r (Z0f d (Z00 prev d r).1) fun q hq=>h q (List.mem_cons_of_mem _ hq);have h2:=h r (List.mem_cons_self ..);have h3:=Z4o prev d r;have h4:=Z5 8 (Z00 prev d r).2.length (by omega);have h5:=ZX r;rw [Z1p,List.length_append,Z6o,List.length_append,h5,List.length_cons,text,List.length_append,List.length_cons,Nat.add_mul];omega
theorem Z9B {rs:List (LU)} {b:LU} (h:Z04 geS rs=some b):b.length≤140737488351232:=by
 unfold Z04 at h;split at h
 ·rename_i hp
  injection h with h
  have h1:=Z55 2097152 (lR _) rs [] 0 fun r hr=>Z11 r (hp.2.1 r hr);have h5:=hp.1;have h4:=Z5 8 rs.length (by omega);have h2:rs.length*(2097152+64)≤4096*(2097152+64):=Nat.mul_le_mul_right _ h5;rw [←h,List.length_append,ZX,Z0E,List.length_append,Z2y,List.length_append];omega
 ·cases h
def Zfq (w:World) (r:Except Int (Option (BA×LU))) (e:Ending) (w':World):Prop:=
 Below w.heap.size w w'∧match r with
 | .error k=>e= .returned (.tuple #[.string ⟨#[]⟩,.slice none 0 0,.int .i64 k])
 | .ok none=>e= .returned (.tuple #[.string ⟨#[]⟩,.slice none 0 0,.int .i64 0])
 | .ok (some (n,b))=> ∃(l:LU) (A:OA) (c:Nat),Hid (l=b)∧e= .returned (.tuple #[.string n,.slice A l.length c,.int .i64 0])∧w'.ownsRow w.heap.size 5 1 (.slice A l.length c) l.length (bc l)∧l.length≤c∧c≤maxLen
theorem Zh1:(Tryz.prog.info? 36).map (fun i=>(i.zero,i.size,i.bytes))=some (some (.slice none 0 0),1,24):=by kernel_rfl
def FarR (w:World) (l:List RowB):Prop:=∀ x∈l,Far w 0 x.A x.l∧x.l.length≤x.c∧x.c≤maxLen
def Zjr (ge:BA→BA→Bool) (D:Dk) (P:List Pk) (q:Except Int (List (LU))) (ids:List BA) (n:Nat) (w:World) (o i:Value) (wr:World):Prop:=
 ∃(k:Nat) (ys:List RowB) (A:OA) (c:Nat),i= .int .i64 k∧k≤n∧o= .slice A k c∧wr.ownsRow w.heap.size 36 1 (.slice A k c) k (rc ys)∧FarR wr ys∧Hid (ys.length=k∧q=behS (ys.map (·.l)) (Z0Z ge D P (ids.drop k)))∧Below w.heap.size w wr
def Zjs (ids:List BA) (n B:Nat) (w:World) (i:Value) (wr:World):Prop:=
 ∃k:Nat,i= .int .i64 k∧k≤n∧Hid ((ids.take k).Nodup)∧MapL Tryz.prog 9 wr B (Z3p (ids.take k))∧Below w.heap.size w wr
section
variable {w w':World} {base gp gs g m:Nat} {xs:List PkA} {D:Dk}
set_option maxRecDepth 100000 in
set_option maxHeartbeats 6400000 in
theorem ZaK (h:Sto w gs g m base gp D xs) (hK:OkW D) (hP:PkOk (xs.map PkA.pk)) (hn:xs.length≤3518437208880) (A:OA) (n:Nat) (ids:List BA) (c:Nat) (hl:ids.length=n) (hr:Rd w w.heap.size 1 A n (sc ids)) (hnm:n≤1048576) (hid: ∀x∈ids,x.size≤70368744177600):
  Calls Tryz.prog 130 #[.pointer (some ⟨gs,0,none⟩),.slice A n c] w (Zfq w (Z0W geS D (xs.map PkA.pk) ids)):=by
 obtain ⟨r,hre⟩: ∃r,r=Z0W geS D (xs.map PkA.pk) ids:=⟨_,rfl⟩;rw [←hre];have HR:=qI hre;have HID:=qI hid;have HL:=qI hl;clear hre hid hl;have hmm:=@run_makeMap Tryz.prog;go_in;go_wp2_with fail;clear hmm;obtain ⟨B,hB⟩: ∃B,B=w.heap.size:=⟨_,rfl⟩;obtain ⟨w0,hw0⟩: ∃w0,w0=w.alloc (.map #[] 0):=⟨_,rfl⟩;have hm0:MapL Tryz.prog 9 w0 B []:=by rw [hw0,hB];exact MapL.new w
 have hb0:Below w.heap.size w w0:=by rw [hw0];exact (bR _ _).alloc (lR _) _
 rw [←hw0,←hB];have HB:=qI hB;clear hw0 hB;go_loopw [20] (fun i wr=>Zjs ids n B w i wr) (fun i _=>n-(intOf i).toNat)
 case atStart=>exact ⟨0,rfl,zL _,List.nodup_nil,hm0,hb0⟩
 case round=>
  clear hm0 hb0;obtain ⟨k,rfl,hk,hup,hmap,hbel⟩:=hrel;have hs:=hbel.size;have f1:IntKind.i64.wrap ((k:Int)+1)=(k:Int)+1:=qJ _ (by omega)
  by_cases h1:k<n
  ·have d1:decide ((k:Int)<(n:Int))=true:=dT (by omega)
   have d1':(k:Int)<(n:Int):=by omega
   have hk0:(0:Int)≤(k:Int):=by omega
   have hkl:k<ids.length:=by rw [HL.out];exact h1
   obtain ⟨x,hx⟩: ∃x,ids[k]?=some x:=⟨ids[k],gE hkl⟩;obtain ⟨bb,off,rfl,hbb,hcell⟩:=(hr.below hbel).at_ (by omega);have q0:wr.cell? ⟨bb,off+k,none⟩=some (.string x):=hcell _ _ (by rw [sc,List.getElem?_map,hx];rfl);have hxs:=HID.out x (List.mem_of_getElem? hx);have htk:Hid (ids.take (k+1)=ids.take k++[x]):=by
    unfold Hid;rw [List.take_add_one,hx]
    rfl
   have hkey:=WideMaps.keyOf_string_mk Tryz.underlying9 (s:=x) (by unfold maxLen;omega);have HX:=qI hx;clear hkl hcell hx;obtain ⟨al1,w2,hup1,hm1,hput1,hg1⟩:=hmap.update ZJ Tryz.underlying269 hkey (.int .i64 1);obtain ⟨al2,w3,hup2,hm2,hput2,hg2⟩:=hmap.update ZJ Tryz.underlying269 hkey (.int .i64 2)
   cases hh:hasS (ids.take k) x with
   | true=>
    have hr0:Hid (r= .error 1):=by unfold Hid;rw [HR.out];exact ZaJ (Zfn HX.out hh)
    have hlk:(Instr.lookup 269 (.map (some B)) (.string x) false).run Tryz.prog wr= .ok (.int .i64 1) wr:=by
     rcases hmap.look ZJ Tryz.underlying269 (Z0r wr) hkey false with ⟨h2,_⟩ | ⟨v,h2,h3⟩
     ·exact absurd rfl (h2 _ (Z5R hh))
     ·rw [Z7s h2] at h3;exact h3
    have hlk2:(Instr.lookup 269 (.map (some B)) (.string x) false).run Tryz.prog w3= .ok (.int .i64 2) w3:=by
     rcases hm2.look ZJ Tryz.underlying269 (Z0r w3) hkey false with ⟨h2,_⟩ | ⟨v,h2,h3⟩
     ·exact absurd rfl (h2 _ hput2.mem)
     ·rw [key_one hm2.nodup h2 hput2.mem] at h3;exact h3
    have hb3:Below w.heap.size w w3:=hbel.trans (Z1 hg2 (by have:=HB.out;omega) hs);clear hup1 hm1 hput1 hg1 hh hm2 hput2 hg2;go_wp2_with fail;go_ret3;rw [hr0.out];exact ⟨hb3,rfl⟩
   | false=>
    have hlk:(Instr.lookup 269 (.map (some B)) (.string x) false).run Tryz.prog wr= .ok (.int .i64 0) wr:=by
     rcases hmap.look ZJ Tryz.underlying269 (Z0r wr) hkey false with ⟨h2,h3⟩ | ⟨v,h2,h3⟩
     ·exact h3
     ·exact absurd rfl (Z26 hh _ h2)
    have hlk1:(Instr.lookup 269 (.map (some B)) (.string x) false).run Tryz.prog w2= .ok (.int .i64 1) w2:=by
     rcases hm1.look ZJ Tryz.underlying269 (Z0r w2) hkey false with ⟨h2,_⟩ | ⟨v,h2,h3⟩
     ·exact absurd rfl (h2 _ hput1.mem)
     ·rw [key_one hm1.nodup h2 hput1.mem] at h3;exact h3
    have hb2:Below w.heap.size w w2:=hbel.trans (Z1 hg1 (by have:=HB.out;omega) hs);have hal:Hid (al1=Z3p (ids.take (k+1))):=by
     unfold Hid;rcases hput1 with ⟨_,rfl⟩ | ⟨l1,r1,v0,e1,_⟩
     ·rw [htk.out];simp [Z3p]
     ·exact absurd rfl (Z26 hh (Value.string x,v0) (by rw [e1];simp))
    have hup3:Hid ((ids.take (k+1)).Nodup):=by
     unfold Hid;rw [htk.out];exact Zdy hup hh
    have HM:=qI (Z1L (h.below (hb2.mono (lR _))));clear hup2 hm2 hput2 hg2 hh hput1 hg1;go_wp2_with fail;refine HM.out.mono ?_;rintro e w5 ⟨rfl,hw5⟩;obtain rfl:=hw5.symm;go_wp2_with fail;exact ⟨⟨k+1,by go_num,by omega,hup3,by rw [←hal.out];exact hm1,hb2⟩,by simp [intOf];omega⟩
  ·have d1:decide ((k:Int)<(n:Int))=false:=qF (by omega)
   obtain rfl:k=n:=by omega
   have hnd:ids.Nodup:=by
    have:=hup.out;rw [List.take_of_length_le (by rw [HL.out];exact lR _)] at this;exact this
   obtain ⟨q,hq⟩: ∃q,q=Z0Z geS D (xs.map PkA.pk) ids:=⟨_,rfl⟩;have hr2:Hid (r=Z54 geS ids q):=by
    unfold Hid;rw [HR.out,hq];exact Z6y hnd
   have hq0:=qI hq;have hYF: ∀(l:LU) {bs:List (LU)},q= .ok bs→l∈bs→l.length≤140737488351232:=fun l bs e hl=>by
    have:=Z9A hP (hq▸e) l hl;omega
   clear hq hnd hup hmap d1;go_wp2_with fail;go_loopw [10,40] (fun o i w2=>Zjr geS D (xs.map PkA.pk) q ids k w o i w2) (fun _ i _=>k-(intOf i).toNat)
   case atStart=>exact ⟨0,[],none,0,rfl,zL _,rfl,World.ownsRow_nil _ _ _ _,fun x hx=>(List.not_mem_nil hx).elim,⟨rfl,by rw [hq0.out,List.drop_zero];cases Z0Z geS D (xs.map PkA.pk) ids<;>rfl⟩,hbel⟩
   case round=>
    clear hbel;obtain ⟨j,ys,Ay,cy,rfl,hj,rfl,hown,hfar,hq1,hbel⟩:=hrel;have hs:=hbel.size;have f1:IntKind.i64.wrap ((j:Int)+1)=(j:Int)+1:=qJ _ (by omega);have hwr:=h.below hbel
    by_cases h1:j<k
    ·have d1:decide ((j:Int)<(k:Int))=true:=dT (by omega)
     have d1':(j:Int)<(k:Int):=by omega
     have hk0:(0:Int)≤(j:Int):=by omega
     obtain ⟨x,hx⟩: ∃x,ids[j]?=some x:=⟨ids[j]'(by rw [HL.out];exact h1),gE _⟩;obtain ⟨bb,off,rfl,hbb,hcell⟩:=(hr.below hbel).at_ (by omega);have q0:=hcell j (.string x) (by rw [sc,List.getElem?_map,hx];rfl);have hxs:=HID.out x (List.mem_of_getElem? hx);have hdx:ids.drop j=x::ids.drop (j+1):=Z6X hx;have HG:=qI (Z3h hwr hK hP hn x hxs);obtain ⟨t,ht⟩: ∃t,t=getS geS D (xs.map PkA.pk) x:=⟨_,rfl⟩;rw [←ht] at HG;have hq2:=hq1.2;rw [hdx] at hq2;clear hcell hdx hx;go_wp2_with fail;refine HG.out.mono ?_;intro e w3 h3
     cases t with
     | error z=>
      obtain ⟨hb3,rfl⟩:=h3;have hq3:Hid (r= .error z):=by
       unfold Hid;rw [hr2.out,hq2,Zfp ht.symm]
       rfl
      have z1:(z !=0)=true:=bne_iff_ne.2 (Z2P ht.symm);have z2:(z==0)=false:=beq_eq_false_iff_ne.2 (Z2P ht.symm);clear ht hq2 hq1 HG;go_wp2_with fail;go_ret3;rw [hq3.out];exact ⟨hbel.next hb3,rfl⟩
     | ok b=>
      obtain ⟨hb3,l3,A3,c3,hl3,rfl,ho3,i1,i2⟩:=h3;rw [Zh0 _ ht.symm,←hl3.out] at hq2;have hq3:Hid ((ys++[⟨l3,A3,c3⟩]:List RowB).length=j+1∧q=behS ((ys++[(⟨l3,A3,c3⟩:RowB)]).map (·.l)) (Z0Z geS D (xs.map PkA.pk) (ids.drop (j+1)))):=⟨by rw [List.length_append,hq1.1];rfl,by rw [List.map_append];exact hq2⟩;have hown3:=Zm hown hb3;have hbel3:=hbel.next hb3;have hs3:=hbel3.size;have hfar3:FarR w3 (ys++[⟨l3,A3,c3⟩]):=fun y hy=>by
       rcases List.mem_append.1 hy with h5 | h5
       ·exact ⟨(hfar y h5).1.below hb3,(hfar y h5).2⟩
       ·obtain rfl:=List.mem_singleton.1 h5
        exact ⟨Far.of_seg (Seg.of_own ho3),i1,i2⟩
      have hb4:Below w3.heap.size w3 (w3.alloc (.cells #[.slice A3 l3.length c3] 36)):=(bR _ _).alloc (lR _) _;have hO:Other (w3.alloc (.cells #[.slice A3 l3.length c3] 36)) 0 (Value.slice Ay j cy).ownBlock:=Other.own (hown3.alloc _) (by decide) (zL _);clear ht hq2 hq1 HG hl3 ho3;go_wp2_with (at_builtin;refine Zer rfl (.tmp 53) (.tmp 55) 240 36 _ 24 rfl Tryz.underlying240 Zh1 rfl w.heap.size _ j (rc ys) rfl (hown3.alloc _) (w3.heap.size+1) _ 1 1 [.slice A3 l3.length c3] rfl (Rd.new1 w3 _ _) (by intro u hu;obtain rfl:=List.mem_singleton.1 hu;rfl) (by unfold maxLen;omega) (by omega) (by simp;omega) ?_;intro A5 c5 w5 hown5 hb5 hg5 i5 i6);refine ⟨⟨j+1,ys++[⟨l3,A3,c3⟩],A5,c5,by go_num,by omega,rfl,by rw [ZiP];exact hown5,fun y hy=>⟨((hfar3 y hy).1.below hb4).keep hg5 hO,(hfar3 y hy).2⟩,hq3,(hbel3.trans (hb4.mono hs3)).trans hb5⟩,by simp [intOf];omega⟩
    ·have d1:decide ((j:Int)<(k:Int))=false:=qF (by omega)
     obtain rfl:j=k:=by omega
     have hqo:q= .ok (ys.map (·.l)):=by
      rw [hq1.2,List.drop_of_length_le (by rw [HL.out];exact lR _),Zfo];simp [behS]
     have hr3:Hid (r=Z54 geS ids (.ok (ys.map (·.l)))):=by
      unfold Hid;rw [hr2.out,hqo]
     have hyl:=hq1.1;have hBu:=ZbR Ay ys cy wr (by rw [hyl];exact Rd.of_own hown) (fun y hy=>⟨(hfar y hy).1.1,(hfar y hy).2⟩) (by omega) (fun y hy=>hYF y.l hqo (List.mem_map.2 ⟨y,hy,rfl⟩));rw [hyl] at hBu;have HBU:=qI hBu;clear hBu hq1 hqo hyl;go_wp2_with fail;refine HBU.out.mono ?_;obtain ⟨z,hz⟩: ∃z,z=Z04 geS (ys.map (·.l)):=⟨_,rfl⟩;rw [←hz];clear HBU
     cases z with
     | none=>
      have hr4:Hid (r= .error 1):=by
       unfold Hid;rw [hr3.out];unfold Z54;simp only;rw [←hz]
      clear hz;rintro e w3 ⟨hb3,rfl⟩;go_wp2_with fail;go_ret3;rw [hr4.out];exact ⟨hbel.next hb3,rfl⟩
     | some b=>
      have hbl:=Z42 hz.symm;have hbm:b.length≤140737488355328:=by have:=Z9B hz.symm;omega
      rintro e w3 ⟨hb3,l3,A3,c3,hl3,rfl,ho3,i1,i2⟩;have hbel3:=hbel.next hb3;obtain rfl:l3=b:=hl3.out
      by_cases hj0:j=0
      ·have hr4:Hid (r= .ok none):=by
        unfold Hid;rw [hr3.out];unfold Z54;simp only;rw [←hz];exact if_pos (nZ (by rw [HL.out];exact hj0))
       have z1:((j:Int)==0)=true:=by rw [hj0];rfl
       clear hz hj0;go_wp2_with fail;go_ret3;rw [hr4.out];exact ⟨hbel3,rfl⟩
      ·have hr4:Hid (r= .ok (some (Zv l3,l3))):=by
        unfold Hid;rw [hr3.out];unfold Z54;simp only;rw [←hz];exact if_neg (fun e=>hj0 (by rw [←HL.out,e];rfl))
       have z1:((j:Int)==0)=false:=beq_eq_false_iff_ne.2 (by omega);have hbw:=hbel.size;have HC:=qI (Z5z A3 l3 c3 w3 (Rd.of_own ho3) i1 i2 hbl hbm);clear hz hj0;go_wp2_with fail;refine HC.out.mono ?_;rintro e w4 ⟨rfl,hb4⟩;go_wp2_with fail;go_ret3;rw [hr4.out];exact ⟨hbel3.next hb4,l3,A3,c3,rfl,rfl,(Zm ho3 hb4).base hbw,i1,i2⟩
end
end Go.Proofs.YtecpbcmpncgokaaGreat
set_option linter.unusedVariables false
namespace Go.Dol
open Go.RowKit
def nowP (ge:BA→BA→Bool) (D:Dk) (P:List Pk):List Pk:=(Zt ge D.l).getD P
abbrev Bq:=Except Int (Option (BA×LU))
def repQ (ge:BA→BA→Bool) (D:Dk) (P:List Pk) (q:Bq):(Int×Dk)×List Pk:=match q with
 | .error k=>((k,D),P)
 | .ok none=>(Z0J ge D ⟨#[]⟩,nowP ge (Z0J ge D ⟨#[]⟩).2 P)
 | .ok (some (n,b))=>if (Z2 D.l n).isSome=true then (Z0J ge D n,nowP ge (Z0J ge D n).2 P) else
  if (ZP D n b).1≠0 then (ZP D n b,P) else (Z0J ge (ZP D n b).2 n,nowP ge (Z0J ge (ZP D n b).2 n).2 P)
theorem Z9C {ge:BA→BA→Bool} {D:Dk} {P:List Pk}: ∀{ids:List BA} {k:Int},Z0Z ge D P ids= .error k→k≠0
 | [],k,h=>by cases h
 | id::r,k,h=>by
  rw [Z0Z] at h;split at h
  ·rename_i k' hk
   injection h with h
   rw [←h];exact Z2P hk
  ·split at h
   ·rename_i k' hk
    injection h with h
    rw [←h];exact Z9C hk
   ·cases h
theorem OkG.rems {L B:Nat}: ∀{l:List BA} {D:Dk},OkG L B D→OkG L B (Z1M D l).2
 | [],_,h=>h
 | n::r,D,h=>by
  by_cases h0:(remD D n).1=0
  ·rw [Z3i h0]
   exact OkG.rems (h.rem n)
  ·rw [Z7Y h0]
   exact h.rem n
theorem OkG.drops {L B:Nat}: ∀{l:List BA} {D:Dk},OkG L B D→OkG L B (Z1Q D l).2
 | [],_,h=>h
 | n::r,D,h=>by
  by_cases h0:(dropO D n).1=0
  ·rw [Z41 h0]
   exact OkG.drops (h.dropd n)
  ·rw [Z6x h0]
   exact h.dropd n
theorem OkG.clear {L B:Nat} {D:Dk} (h:OkG L B D) (ge:BA→BA→Bool) (but:BA):OkG L B (Z0J ge D but).2:=by
 unfold Z0J;split
 ·exact h
 ·unfold Z87
  split
  ·exact h.rems
  ·exact h.rems.drops
end Go.Dol
namespace Go.Proofs.YtecpbcmpncgokaaGreat
open Go.RowKit Go.Dol
theorem Zcn (b:LU):Zv b≠⟨#[]⟩:=fun h=>by
 have:=congrArg (fun x:BA=>x.data.toList) h;unfold Zv at this;simp at this
theorem Zfr {a:BA} (h:a≠⟨#[]⟩): ¬a.toList=[]:=fun e=>h (Z3z (by rw [ByteArray.toList_eq] at e;exact e))
theorem Z56 {b:LU} (h:32≤b.length):(Zv b).size=66:=by
 unfold Zv;rw [ByteArray.size_append];show 2+(Z10 (b.drop (b.length-32))).toArray.size=66
 rw [List.size_toArray,Z1k,List.length_drop];omega
section
variable {w w':World} {base gp gs g m:Nat} {xs:List PkA} {D:Dk}
theorem Zco {ids:List BA} {n:BA} {b:LU} (h:Z0W geS D (xs.map PkA.pk) ids= .ok (some (n,b))):n=Zv b∧32≤b.length∧b.length≤140737488351232:=by
 unfold Z0W at h;split at h
 ·cases h
 ·split at h
  ·cases h
  ·split at h
   ·cases h
   ·rename_i b' hb
    split at h
    ·cases h
    ·injection h with h
     injection h with h
     injection h with h1 h2
     rw [←h2,←h1];exact ⟨rfl,Z42 hb,Z9B hb⟩
theorem Zdz {ids:List BA} {k:Int} (h:Z0W geS D (xs.map PkA.pk) ids= .error k):k≠0:=by
 unfold Z0W at h;split at h
 ·injection h with h
  omega
 ·split at h
  ·rename_i k' hk
   injection h with h
   rw [←h];exact Z9C hk
  ·split at h
   ·injection h with h
    omega
   ·split at h<;>cases h
end
structure Tw3 (w w':World) (g m gs:Nat):Prop where
 os:w'.os=w.os
 tape:w'.tape=w.tape
 output:w'.output=w.output
 size:w.heap.size≤w'.heap.size
 block: ∀i,i<w.heap.size→i≠g→i≠m→i≠gs→w'.heap[i]?=w.heap[i]?
end Go.Proofs.YtecpbcmpncgokaaGreat
