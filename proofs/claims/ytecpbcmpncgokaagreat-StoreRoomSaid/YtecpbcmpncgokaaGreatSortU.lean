/- The layer 'store': the walk of Repack. Conditions: a disk in good order with room for one more file's name; packs in good order; few ids. The layer 'store': the walks of Add and Packs. Conditions: a disk in good order, packs in good order. sync.Once in one run, for whichever function is handed to it. Conditions: the lock is free. slices.Sort and slices.Compact over a row of texts of the caller's own: the library's contracts at this seat, in rows' words. Conditions: at most 2^40 texts. -/
import Derived.Test.YtecpbcmpncgokaaGreatStoLaw
import Derived.Test.YtecpbcmpncgokaaGreatShort
import Derived.Test.YtecpbcmpncgokaaGreatSto4
import Derived.Test.YtecpbcmpncgokaaGreatSto1
import Derived.Test.YtecpbcmpncgokaaGreatIter
import Derived.Test.YtecpbcmpncgokaaGreatStoSpec
import Derived.Test.YtecpbcmpncgokaaGreatDisk2
import Derived.Shelf.Slices.CompactS
import Derived.Lib.OwnBridge
import Derived.Sort.OwnSorted
set_option linter.unusedVariables false
namespace Go.Dol
open Go.RowKit
def endQ (ge:BA→BA→Bool) (D:Dk) (P:List Pk) (n:BA):(Int×Dk)×List Pk:=(Z0P ge D n,nowP ge (Z0P ge D n).2 P)
def svB (D:Dk) (n:BA):Bool:=decide (n≠⟨#[]⟩)&& !(Z1 D.l n).isSome
end Go.Dol
namespace Go.Proofs.YtecpbcmpncgokaaGreat
open Go.RowKit Go.Dol
section
variable {w w1 w':World} {base gp gs g m:Nat} {xs:List PkA} {D:Dk}
theorem Tw3.below (hb:Below w.heap.size w w'):Tw3 w w' g m gs:=⟨hb.os,hb.tape,hb.output,hb.size,fun i hi _ _ _=>hb.block i hi⟩
theorem Tw3.tw (h:Tw w w' g m):Tw3 w w' g m gs:=⟨h.os,h.tape,h.output,h.size,fun i hi h1 h2 _=>h.block i hi h1 h2⟩
theorem Tw3.grown (h:w.grownBy w' (some gs)):Tw3 w w' g m gs:=⟨h.os,h.tape,h.output,h.size,fun i hi _ _ h1=>h.block i hi (fun e=>h1 (by injection e))⟩
theorem Tw3.step (h:Tw3 w w1 g m gs) (h2:Tw3 w1 w' g m gs):Tw3 w w' g m gs:=
 ⟨h2.os.trans h.os,h2.tape.trans h.tape,h2.output.trans h.output,lT h.size h2.size,fun i hi a b c=>(h2.block i (Nat.lt_of_lt_of_le hi h.size) a b c).trans (h.block i hi a b c)⟩
theorem Dsk.blkO (h:Dsk w g m D) {x:Nat} {T:TypeId} {cs:List Value} (hB:Blk w x T cs) (h1:T≠145) (h2:T≠5) (hg:w.grownBy w' (some x)):Dsk w' g m D:=by
 obtain ⟨al,hD,hM,hF⟩:=h;refine ⟨al,hD.grown hg (fun e=> ?_),hM.grown hg (fun e=> ?_),hF.keep hg (Other.blk hB h2 (zL _))⟩
 ·injection e with e
  subst e;unfold Blk at hD hB;rw [hD] at hB;injection hB with e
  injection e with _ e
  exact h1 e.symm
 ·injection e with e
  exact hM.blk_ne hB e.symm
def Zju (w:World) (gs g m base gp:Nat) (xs:List PkA) (r:(Int×Dk)×List Pk) (e:Ending) (w':World):Prop:=
 e= .returned (.int .i64 r.1.1)∧Tw3 w w' g m gs∧ ∃base' gp' xs',Sto w' gs g m base' gp' r.1.2 xs'∧Hid (xs'.map PkA.pk=r.2)∧(base'=base∧gp'=gp∧xs'=xs∨w.heap.size≤base'∧w.heap.size≤gp')
set_option maxRecDepth 100000 in
set_option maxHeartbeats 6400000 in
theorem Z2J (h:Sto w gs g m base gp D xs) (hK:OkG 3518437208880 140737488351232 D) (hsl:D.l.length+1≤3518437208880) (hP:PkOk (xs.map PkA.pk)) (hn:xs.length≤3518437208880) (A:OA) (n:Nat) (ids:List BA) (c:Nat) (hl:ids.length=n) (hr:Rd w w.heap.size 1 A n (sc ids)) (hnm:n≤1048576) (hid: ∀x∈ids,x.size≤70368744177600):
  Calls Tryz.prog 58 #[.pointer (some ⟨gs,0,none⟩),.slice A n c] w (Zju w gs g m base gp xs (repQ geS D (xs.map PkA.pk) (Z0l geS D (xs.map PkA.pk) ids))):=by
 have hW:OkW D:=hK.mono (lR _) (by decide);have HB:=qI (Z5J h hW hP hn A n ids c hl hr hnm hid);obtain ⟨q,hq⟩: ∃q,q=Z0l geS D (xs.map PkA.pk) ids:=⟨_,rfl⟩;obtain ⟨r,hre⟩: ∃r,r=repQ geS D (xs.map PkA.pk) q:=⟨_,rfl⟩;rw [←hq] at HB;rw [←hq,←hre];have HR:=qI hre;clear hre hl hr hid;go_in;go_wp2_with fail;refine HB.out.mono ?_;rintro e w1 ⟨hb1,h1⟩;have hst1:=h.below hb1;have HM:=qI (Z1h hst1);clear HB;have key:(∃k,k≠0∧Hid (r=((k,D),xs.map PkA.pk))∧e= .returned (.tuple #[.string ⟨#[]⟩,.slice none 0 0,.int .i64 k]))∨
   ∃(nm:BA) (b:LU) (A1:OA) (c1:Nat),e= .returned (.tuple #[.string nm,.slice A1 b.length c1,.int .i64 0])∧Hid (svB D nm=true→Far w1 0 A1 b∧b.length≤c1∧c1≤maxLen∧b.length≤140737488351232)∧nm.size≤66∧
    Hid (r=if svB D nm=true then (if (ZR D nm b).1≠0 then (ZR D nm b,xs.map PkA.pk) else endQ geS (ZR D nm b).2 (xs.map PkA.pk) nm) else endQ geS D (xs.map PkA.pk) nm):=by
  cases q with
  | error k=>exact .inl ⟨k,Z5d hq.symm,HR.out,h1⟩
  | ok o=>
   cases o with
   | none=>exact .inr ⟨⟨#[]⟩,[],none,0,h1,qI (fun h=>absurd h (by unfold svB;simp)),by decide,HR.out⟩
   | some y=>
    obtain ⟨nm,b⟩:=y;obtain ⟨hnm2,h32,hbl⟩:=Z6O hq.symm;obtain ⟨l,A1,c1,hlb,rfl,ho1,i1,i2⟩:=h1;obtain rfl:l=b:=hlb.out;have hns:nm.size=66:=by rw [hnm2];exact Z1y h32
    have hsv:svB D nm= !(Z1 D.l nm).isSome:=by
     unfold svB;rw [dT (by rw [hnm2];exact Z8j _),Bool.true_and]
    refine .inr ⟨nm,l,A1,c1,rfl,qI (fun _=>⟨Far.of_seg (Seg.of_own ho1),i1,i2,hbl⟩),by omega,?_⟩;unfold Hid;rw [HR.out,hsv];unfold repQ endQ;simp only;cases (Z1 D.l nm).isSome<;>simp
 clear h1 hq HR;rcases key with ⟨k,hk0,hr3,rfl⟩ | ⟨nm,b,A1,c1,rfl,hfar,hns,hr3⟩
 ·have z1:(k !=0)=true:=bne_iff_ne.2 hk0
  have z2:(k==0)=false:=beq_eq_false_iff_ne.2 hk0;clear hk0;go_wp2_with fail;refine HM.out.mono ?_;rintro e w2 ⟨rfl,hw2⟩;obtain rfl:=hw2.symm;go_wp2_with fail;go_ret;rw [hr3.out];exact ⟨rfl,Tw3.below hb1,base,gp,xs,hst1,rfl,.inl ⟨rfl,rfl,rfl⟩⟩
 ·obtain ⟨t,ht⟩: ∃t,t=svB D nm:=⟨_,rfl⟩
  have HT:=qI ht;rw [←ht] at hfar hr3;go_wp2_with fail;refine HM.out.mono ?_;rintro e w2 ⟨rfl,hw2⟩;obtain rfl:=hw2.symm;clear HM ht;go_upto_region 6 with (fail)
  go_cut [34] (fun v wx=>v= .bool t∧wx=w1)
  case first=>
   have k0:w1.cell? ⟨gs,0,none⟩=some (.pointer (some ⟨g,0,none⟩)):=by rw [hst1.st.cell];rfl
   have HH:=qI (Z0n hst1.dk hW.ord nm (by unfold maxLen;omega))
   by_cases hn0:nm=⟨#[]⟩
   ·subst hn0
    have q3:t=false:=HT.out;clear HH;go_wp2_with fail
    all_goals (go_meet;exact ⟨by rw [q3],rfl⟩)
   ·have q1: ¬nm.toList=[]:=Z9Y hn0
    have q2:nm.toList.isEmpty=false:=by
     cases h9:nm.toList with
     | nil=>exact absurd h9 q1
     | cons a l=>rfl
    have q3:t= !(Z1 D.l nm).isSome:=by rw [HT.out];unfold svB;rw [dT hn0,Bool.true_and]
    clear hn0;go_wp2_with fail;refine HH.out.mono ?_;rintro e w2 ⟨rfl,hw2⟩;obtain rfl:=hw2.symm;go_wp2_with fail
    all_goals (go_meet;exact ⟨by rw [q3];cases Z1 D.l nm<;>rfl,rfl⟩)
  case rest=>
  obtain ⟨rfl,hwx⟩:=hcut;obtain rfl:=hwx.symm;go_upto_if 34 with (fail)
  go_cut [4] (fun v4 wx=>v4= .int .i64 0∧ ∃D1,Sto wx gs g m base gp D1 xs∧Tw w1 wx g m∧OkG 3518437208880 140737488351232 D1∧Hid (r=endQ geS D1 (xs.map PkA.pk) nm))
  case first=>
   cases t with
   | false=>
    go_wp2_with fail
    all_goals (go_meet;exact ⟨rfl,D,hst1,Tw.refl _ _ _,hK,hr3⟩)
   | true=>
    obtain ⟨hf,i1,i2,i3⟩:=hfar.out rfl;have k0:w1.cell? ⟨gs,0,none⟩=some (.pointer (some ⟨g,0,none⟩)):=by rw [hst1.st.cell];rfl
    have hSv:=Z6I hst1.dk hW nm (by omega) A1 b c1 (by omega) hsl (by omega) 0 hf i1 i2 (zL _) (zL _) (zL _);have hK2:=hK.save nm b hsl i3;obtain ⟨s,hs⟩: ∃s,s=ZR D nm b:=⟨_,rfl⟩;rw [←hs] at hSv hr3 hK2;have HSv:=qI hSv;obtain ⟨s1,s2⟩:=s;clear hSv hs
    by_cases hs0:s1=0
    ·subst hs0
     have hr4:Hid (r=endQ geS s2 (xs.map PkA.pk) nm):=hr3;go_wp2_with fail;refine HSv.out.mono ?_;rintro e w3 ⟨rfl,hd3,ht3⟩;go_wp2_with fail
     all_goals (go_meet;exact ⟨rfl,s2,hst1.tw ht3 hd3,ht3,hK2,hr4⟩)
    ·have hr4:Hid (r=((s1,s2),xs.map PkA.pk)):=hr3.out.trans ((if_pos rfl).trans (if_pos hs0))
     have z1:(s1 !=0)=true:=bne_iff_ne.2 hs0;have z2:(s1==0)=false:=beq_eq_false_iff_ne.2 hs0;clear hs0 hr3;go_wp2_with fail;refine HSv.out.mono ?_;rintro e w3 ⟨rfl,hd3,ht3⟩;go_wp2_with fail;go_ret;rw [hr4.out];exact ⟨rfl,(Tw3.below hb1).step (Tw3.tw ht3),base,gp,xs,hst1.tw ht3 hd3,rfl,.inl ⟨rfl,rfl,rfl⟩⟩
  case rest=>
  obtain ⟨rfl,D1,hst2,ht2,hK1,hr4⟩:=hcut;have HC:=qI (ZcI hst2 hK1 nm);clear hr3 hfar hst1 HT;go_wp2_with fail;refine HC.out.mono ?_;obtain ⟨s,hs⟩: ∃s,s=Z0P geS D1 nm:=⟨_,rfl⟩;have hK2:OkG 3518437208880 140737488351232 s.2:=by rw [hs];exact hK1.clear geS nm
  have hr5:Hid (r.1=s):=by unfold Hid;rw [hr4.out,hs];rfl
  rw [←hs];have HS:=qI hs;rintro e w3 ⟨rfl,hd3,ht3⟩;have hst3:=hst2.tw ht3 hd3;have k0:w3.cell? ⟨gs,0,none⟩=some (.pointer (some ⟨g,0,none⟩)):=by rw [hst3.st.cell];rfl
  have hRd:=Z5g hd3 hK2;obtain ⟨p,hp⟩: ∃p,p=Zv geS s.2.l:=⟨_,rfl⟩;rw [←hp] at hRd;have HRd:=qI hRd;have hr6:Hid (r.2=p.getD (xs.map PkA.pk)):=by
   unfold Hid;rw [hr4.out,hp,hs]
   rfl
  obtain ⟨s1,s2⟩:=s;obtain ⟨⟨r1,r2⟩,r3⟩:=r;have hr51:Hid (r1=s1):=congrArg Prod.fst hr5.out;have hr52:Hid (r2=s2):=congrArg Prod.snd hr5.out;have ht13:=(Tw3.below (g:=g) (m:=m) (gs:=gs) hb1).step ((Tw3.tw ht2).step (Tw3.tw ht3));clear hRd hs hp hr4 hr5 HC;go_wp2_with fail;refine HRd.out.mono ?_
  cases p with
  | none=>
   rintro e w4 ⟨hb4,rfl⟩;go_wp2_with fail;go_ret;have e1:=hr51.out;have e2:=hr52.out;subst e1 e2;exact ⟨rfl,ht13.step (Tw3.below hb4),base,gp,xs,hst3.below hb4,hr6.out.symm,.inl ⟨rfl,rfl,rfl⟩⟩
  | some P=>
   rintro e w4 ⟨hb4,base4,gp4,ys,An,cn,Aa,ca,hys,rfl,hbase4,hgp4,hpk⟩;have hst4:=hst3.below hb4;have hB5:=hst4.st.set 1 (.pointer (some ⟨gp4,0,none⟩));have f1:=hst4.st.free 1;have k1:w4.cell? ⟨gs,1,none⟩=some (.pointer (some ⟨gp,0,none⟩)):=by rw [hst4.st.cell];rfl
   have hg5:w4.grownBy (w4.setCell ⟨gs,1,none⟩ (.pointer (some ⟨gp4,0,none⟩))) (some gs):=Z0 (gR _ _) 1 _;have hs3:=ht13.size;have hgs3:=hst3.st.lt;obtain ⟨hg3,hm3⟩:=hd3.lt;have hpk5:=hpk.keep (hg5.block gp4 hpk.blk.lt (fun e=>by injection e;omega)) (fun k hk hl=>hg5.block k hl (fun e=>by injection e;omega)) hg5.size;have hd5:=Dsk.blkO hst4.dk hst4.st (by decide) (by decide) hg5;have hlt:=hst3.lt;go_wp2_with fail;go_ret;have e1:=hr51.out;have e2:=hr52.out;subst e1 e2;exact ⟨rfl,(ht13.step (Tw3.below hb4)).step (Tw3.grown hg5),base4,gp4,ys,⟨hB5,hd5,by omega,An,cn,Aa,ca,0,_,hpk5⟩,hys.out.trans hr6.out.symm,.inr ⟨by omega,by omega⟩⟩
end
end Go.Proofs.YtecpbcmpncgokaaGreat
set_option linter.unusedVariables false
namespace Go.Dol
open Go.RowKit
def addS (ge:BA→BA→Bool) (D:Dk) (P:List Pk) (o:Obj):Except Int BA×Dk:=if Zf ge o=true then putS ge D P (encO o) else (.error 1,D)
end Go.Dol
namespace Go.Proofs.YtecpbcmpncgokaaGreat
open Go.RowKit Go.Dol
theorem RetPutS.ok {w w':World} {gs g m base gp:Nat} {xs:List PkA} {id:BA} {D:Dk} {e:Ending} (h:RetPutS w gs g m base gp xs (.ok id,D) e w'):e= .returned (.tuple #[.string id,.int .i64 0])∧Sto w' gs g m base gp D xs∧Tw w w' g m:=h
theorem RetPutS.err {w w':World} {gs g m base gp:Nat} {xs:List PkA} {k:Int} {D:Dk} {e:Ending} (h:RetPutS w gs g m base gp xs (.error k,D) e w'):e= .returned (.tuple #[.string ⟨#[]⟩,.int .i64 k])∧Sto w' gs g m base gp D xs∧Tw w w' g m:=h
section
variable {w w':World} {base gp gs g m:Nat} {xs:List PkA} {D:Dk}
set_option maxRecDepth 100000 in
set_option maxHeartbeats 1600000 in
theorem ZdY (h:Sto w gs g m base gp D xs) (hK:OkW D) (hsl:D.l.length+1≤3518437208880) (hP:PkOk (xs.map PkA.pk)) (hn:xs.length≤3518437208880) (k:Int) (Ad:OA) (d:LU) (cd:Nat) (Ae:OA) (en:List Ent) (ce:Nat) (tr:BA) (Ap:OA) (pa:List BA) (cp:Nat) (ta na wh:BA) (st:Int) (te:BA)
  (hE: ∀W,Below w.heap.size w W→Calls Tryz.prog 37 #[.agg #[.int .i64 k,.slice Ad d.length cd,.slice Ae en.length ce,.string tr,.slice Ap pa.length cp,.string ta,.string na,.string wh,.int .i64 st,.string te]] W (Z6a W ⟨k,d,en,tr,pa,ta,na,wh,st,te⟩)):
  Calls Tryz.prog 67 #[.pointer (some ⟨gs,0,none⟩),.agg #[.int .i64 k,.slice Ad d.length cd,.slice Ae en.length ce,.string tr,.slice Ap pa.length cp,.string ta,.string na,.string wh,.int .i64 st,.string te]] w (RetPutS w gs g m base gp xs (addS geS D (xs.map PkA.pk) ⟨k,d,en,tr,pa,ta,na,wh,st,te⟩)):=by
 obtain ⟨r,hr⟩: ∃r,r=addS geS D (xs.map PkA.pk) ⟨k,d,en,tr,pa,ta,na,wh,st,te⟩:=⟨_,rfl⟩;rw [←hr];have HR:=qI hr;clear hr;have ha:Below w.heap.size w (w.alloc (.cells [.int .i64 k,.slice Ad d.length cd,.slice Ae en.length ce,.string tr,.slice Ap pa.length cp,.string ta,.string na,.string wh,.int .i64 st,.string te].toArray 40)):=(bR _ _).alloc (lR _) _;have hB:=Blk.new w 40 [.int .i64 k,.slice Ad d.length cd,.slice Ae en.length ce,.string tr,.slice Ap pa.length cp,.string ta,.string na,.string wh,.int .i64 st,.string te];have HE:=qI (hE _ ha);have h1:=h.below ha;clear hE;go_in;go_wp2_with ((refine wpList_load_row rfl 40 _ rfl w.heap.size rfl _ _ _ _ hB Tryz.underlying40 rfl (by kernel_rfl) ?_));refine HE.out.mono ?_;rintro e w2 ⟨hb2,⟨hc,l,A,c,hl,rfl,ho⟩ | ⟨hc,rfl⟩⟩
 ·have hb02:=ha.next hb2
  have hlf:l.length≤1048577:=by rw [hl.out];exact ZeF hc
  have h2:=h1.below hb2;have hcl:=Z5i ho;have hPu:=Z5a h2 hK hsl hP hn A l c (Rd.of_own ho) hcl.1 hcl.2 (by omega);have hr2:r=putS geS D (xs.map PkA.pk) l:=by
   rw [HR.out,hl.out];exact if_pos hc
  rw [←hr2] at hPu;have HP:=qI hPu;clear hPu hr2 hc hl HR;go_wp2_with fail;refine HP.out.mono ?_;intro e w3 hm;obtain ⟨r1,r2⟩:=r
  cases r1 with
  | ok x=>
   obtain ⟨rfl,hd6,ht6⟩:=RetPutS.ok hm;go_wp2_with fail;go_ret2;exact ⟨rfl,hd6,(Tw.below hb02).step ht6⟩
  | error x=>
   obtain ⟨rfl,hd6,ht6⟩:=RetPutS.err hm;go_wp2_with fail;go_ret2;exact ⟨rfl,hd6,(Tw.below hb02).step ht6⟩
 ·have hr2:Hid (r=(.error 1,D)):=HR.out.trans (if_neg (by rw [hc];decide))
  clear hc HR;go_wp2_with fail;go_ret2;rw [hr2.out];exact ⟨rfl,h1.below hb2,Tw.below (ha.next hb2)⟩
end
end Go.Proofs.YtecpbcmpncgokaaGreat
set_option maxRecDepth 100000
set_option maxHeartbeats 1600000
set_option linter.unusedVariables false
namespace Go.Proofs.YtecpbcmpncgokaaGreat
open Go.RowKit Go.Dol
def Z7V (F:Nat) (pl:Addr) (b off:Nat) (T:TypeId) (cs:List Value) (R:List Value→World→World→Prop) (w:World):Prop:=
 ∀w1,Blk w1 b T (cs.set (off+1) (.int .i32 1))→w.grownBy w1 (some b)→w1.heap.size=w.heap.size→Calls Tryz.prog F #[.pointer (some pl)] w1 fun e w2=>e= .returned (.tuple #[])∧ ∃cs',Blk w2 b T cs'∧cs'[off]?=some (.int .u32 0)∧cs'[off+1]?=some (.int .i32 1)∧R cs' w1 w2
def Zca (b off:Nat) (T:TypeId) (R:List Value→World→World→Prop) (w:World) (e:Ending) (w':World):Prop:=
 e= .returned (.tuple #[])∧ ∃cs' w1 w2,R cs' w1 w2∧w.grownBy w1 (some b)∧w1.heap.size=w.heap.size∧Blk w2 b T cs'∧w'=(w2.drew.setCell ⟨b,off,none⟩ (.int .u32 1)).setCell ⟨b,off+1,none⟩ (.int .i32 0)
theorem Zjf (F:Nat) (eg: ∀args W,(callFunc F args).run Tryz.prog W= .ok (.enter F args) W) (b off:Nat) (T:TypeId) (cs:List Value) (pl:Addr) (R:List Value→World→World→Prop) (w:World) (hb:Blk w b T cs)
  (h0:cs[off]?=some (.int .u32 0)) (h1:cs[off+1]?=some (.int .i32 0)) (hf:Z7V F pl b off T cs R w):
  Calls Tryz.prog 214 #[.pointer (some ⟨b,off,none⟩),.func (.func F) #[] #[.pointer (some pl)]] w (Zca b off T R w):=by
 have k0:w.cell? ⟨b,off,none⟩=some (.int .u32 0):=by rw [hb.cell];exact h0
 have k1:w.cell? ⟨b,off+1,none⟩=some (.int .i32 0):=by rw [hb.cell];exact h1
 have f1:=hb.free (off+1);have hB1:=hb.set (off+1) (.int .i32 1);have hg1:w.grownBy (w.setCell ⟨b,off+1,none⟩ (.int .i32 1)) (some b):=Z0 (gR _ _) _ _;have hl:=qI (Z2k ⟨b,off,none⟩ 0 (w.setCell ⟨b,off+1,none⟩ (.int .i32 1)) ((World.cell?_setCell_other _ ⟨b,off+1,none⟩ ⟨b,off,none⟩ _ (by simp)).trans k0));have hnot: ∀(x:Bool) (w:World),(Op.unary .not (.bool x)).run Tryz.prog w= .ok (.bool (!x)) w:=fun _ _=>rfl;have eg1:=eg #[.pointer (some pl)];have HF:=qI (hf _ hB1 hg1 (by simp [World.setCell]));clear hf h0 h1;go_enter_defers Tryz.func214,Tryz.ntmps214;go_wp2_with (first | (go_at_call 260;refine (Z9K ⟨b,off+1,none⟩ _ (by go_simp) (by go_simp)).mono ?_;rintro e w' ⟨rfl,rfl⟩));refine hl.out.mono ?_;rintro e w' ⟨rfl,rfl⟩;go_wp2_with fail;refine HF.out.mono ?_;rintro e w2 ⟨rfl,cs',hB2,i0,i1,hR⟩;have k0':w2.cell? ⟨b,off,none⟩=some (.int .u32 0):=by rw [hB2.cell];exact i0
 have k1':w2.cell? ⟨b,off+1,none⟩=some (.int .i32 1):=by rw [hB2.cell];exact i1
 have z0:=hB2.free off;have z1:=hB2.free (off+1);go_wp2_with fail;simp only [bodyPostD];refine leaves_cons (f:=262) (args:=#[.pointer (some ⟨b,off,none⟩),.bool true]) (by simp) (by simp [go_sem]) ?_;refine (Z3T ⟨b,off,none⟩ (.int .u32 0) .returning _ k0' z0).mono ?_;rintro e u' w'' ⟨rfl,rfl,rfl⟩;have hB3:=hB2.drew.set off (.int .u32 1);refine leaves_cons (f:=261) (args:=#[.pointer (some ⟨b,off+1,none⟩)]) (by simp [settle]) (by simp [go_sem]) ?_;refine (Z3w ⟨b,off+1,none⟩ _ (w2.drew.setCell ⟨b,off,none⟩ (.int .u32 1)) ((World.cell?_setCell_other w2.drew ⟨b,off,none⟩ ⟨b,off+1,none⟩ _ (by simp)).trans (by rw [World.cell?_drew];exact k1')) (hB3.free _)).mono ?_;rintro e u' w'' ⟨rfl,rfl,rfl⟩;simp only [Leaves,settle,results,Tryz.results214];exact ⟨.tuple #[],by simp,rfl,cs',_,w2,hR,hg1,by simp [World.setCell],hB2,rfl⟩
theorem Zft (F:Nat) (eg: ∀args W,(callFunc F args).run Tryz.prog W= .ok (.enter F args) W) (b off:Nat) (T:TypeId) (cs:List Value) (pl:Addr) (R:List Value→World→World→Prop) (w:World) (hb:Blk w b T cs)
  (h0:cs[off]?=some (.int .u32 0)) (h1:cs[off+1]?=some (.int .i32 0)) (hf:Z7V F pl b off T cs R w):
  Calls Tryz.prog 151 #[.pointer (some ⟨b,off,none⟩),.func (.func F) #[] #[.pointer (some pl)]] w (Zca b off T R w):=by
 have hl:=qI (Z2k ⟨b,off,none⟩ 0 w (by rw [hb.cell];exact h0));have hnot: ∀(x:Bool) (w:World),(Op.unary .not (.bool x)).run Tryz.prog w= .ok (.bool (!x)) w:=fun _ _=>rfl;have HS:=qI (Zjf F eg b off T cs pl R w hb h0 h1 hf);clear hf;go_in;go_wp2_with fail;refine hl.out.mono ?_;rintro e w' ⟨rfl,rfl⟩;go_wp2_with fail;refine HS.out.mono ?_;rintro e w2 hE;have he:=hE.1;subst he;go_wp2_with fail;go_end0;exact hE
end Go.Proofs.YtecpbcmpncgokaaGreat
set_option linter.unusedVariables false
namespace Go.Proofs.YtecpbcmpncgokaaGreat
open Go.RowKit Go.Dol Go.Shelf Go.Sort
def ZcG:Go.Shelf.Ren:=⟨fun | 194=>84 | n=>n,fun | 0=>0 | 3=>3 | 4=>4 | 9=>9 | 31=>38 | n=>n,fun | n=>n⟩
theorem ZeO:Go.Proofs.Lays.n194 Tryz.prog ZcG:={
 mixed:=by kernel_rfl
 f194:=Tryz.func84.trans (congrArg some (by kernel_rfl))
 t0:=Tryz.underlying0
 a0:=Tryz.isAgg0
 z0:=Tryz.sizeOf0
 v0:=Tryz.zeroValue0
 t3:=Tryz.underlying3
 a3:=Tryz.isAgg3
 z3:=Tryz.sizeOf3
 v3:=Tryz.zeroValue3
 t4:=Tryz.underlying4
 a4:=Tryz.isAgg4
 z4:=Tryz.sizeOf4
 v4:=Tryz.zeroValue4
 t9:=Tryz.underlying9
 a9:=Tryz.isAgg9
 z9:=Tryz.sizeOf9
 v9:=Tryz.zeroValue9
 t31:=Tryz.underlying38
 a31:=Tryz.isAgg38
 z31:=Tryz.sizeOf38
 v31:=Tryz.zeroValue38 }
def lsS (l:List BA):List (LU):=l.map (·.data.toList)
def srtU (l:List BA):List BA:=(Z3W (lsS l)).map idS
def unqU (l:List BA):List BA:=(Z12 (lsS l)).map idS
theorem Z7d (l:List (LU)):l.map encStr=sc (l.map idS):=by
 rw [sc,List.map_map];exact List.map_congr_left fun x _=>rfl
theorem ZeP (l:List BA):(lsS l).map idS=l:=by
 rw [lsS,List.map_map];exact (List.map_congr_left fun x _=>Z3F (Z2l _)).trans (List.map_id l)
theorem ZeQ (l:List (LU)):lsS (l.map idS)=l:=by
 rw [lsS,List.map_map];exact (List.map_congr_left fun x _=>Z2l x).trans (List.map_id l)
theorem ZeR (l:List BA):unqU (srtU l)=(setL (lsS l)).map idS:=by
 unfold unqU srtU;rw [ZeQ]
 rfl
section
variable {w:World} {base n c:Nat} {A:OA} {l:List BA}
theorem Z9U (ho:w.ownsRow base 9 1 (.slice A n c) n (sc l)):(A=none∧n=0∧c=0∧l=[])∨
  ∃g cur,A=some ⟨g,0,none⟩∧base≤g∧g<w.heap.size∧n≤c∧c≤maxLen∧(lsS l).length=n∧Holds encStr w g 0 (lsS l).toArray∧w.heap[g]?=some (.cells cur 9 (0,0))∧cur.size=c*1:=by
 have hl:l.length=n:=by have:=ho.1;simpa [sc] using this
 rcases ho.2 with ⟨h0,h9⟩ | ⟨g,cap,cur,e,h1,h2,h3,h4,h5,h6⟩
 ·injection h0 with h1 h2 h3
  exact .inl ⟨h1,h9,h3,nZ (by omega)⟩
 ·refine .inr ?_
  have ho2:w.ownsRow base 9 1 (.slice A n c) n ((lsS l).map encStr):=by rw [Z7d,ZeP];exact ho
  obtain ⟨g',cap',e',hb,hlt,hncap,hcm,hlen,hH⟩:=Go.Lib.holds_of_ownsRow ho2 (by rw [e];intro h;cases h);injection e with e1 e2 e3
  injection e' with e1' e2' e3'
  subst e3 e3' e1;injection e1' with e1'
  injection e1' with e1'
  subst e1';exact ⟨g,cur,rfl,h1,hlt,h3,h4,hlen,hH,h2,h5⟩
theorem Z6L (ho:w.ownsRow base 9 1 (.slice A n c) n (sc l)) (hn:n≤8796093022208):
  Calls Tryz.prog 83 #[.slice A n c] w fun e w'=>e= .returned (.tuple #[])∧w'.ownsRow base 9 1 (.slice A n c) n (sc (srtU l))∧w.grownBy w' (Value.slice A n c).ownBlock:=by
 rcases Z9U ho with ⟨rfl,rfl,rfl,rfl⟩ | ⟨g,cur,rfl,hb,hlt,hnc,hcm,hlen,hH,hh,hcs⟩
 ·refine (AnyM.slices_Sort_string_none Zem none 0 w).mono ?_
  rintro e w' ⟨rfl,rfl⟩;exact ⟨rfl,by rw [show srtU []=[] by simp [srtU,Z3W,lsS]];exact World.ownsRow_nil _ _ _ _,gR _ _⟩
 ·have hs:=AnyM.slices_Sort_string Zem g 0 c (lsS l) w hH hlt (by omega)
  rw [hlen] at hs;refine hs.mono ?_;rintro e w' ⟨rfl,k,os,rfl⟩;have h1:=ownsRow_sorted (n:=k) (os:=os) (ts:=(lsS l).mergeSort fun x y=>decide (x≤y)) (ss:=lsS l) (List.length_mergeSort _) hb hh (by omega) hcm hcs;rw [hlen,Z7d] at h1;exact ⟨rfl,h1,grownBy_sorted _⟩
theorem Z45 (ho:w.ownsRow base 9 1 (.slice A n c) n (sc l)) (hn:n≤8796093022208):
  Calls Tryz.prog 84 #[.slice A n c] w fun e w'=> ∃k,e= .returned (.slice A k c)∧Hid (k=(unqU l).length)∧k≤n∧w'.ownsRow base 9 1 (.slice A k c) k (sc (unqU l))∧w.grownBy w' (Value.slice A n c).ownBlock:=by
 rcases Z9U ho with ⟨rfl,rfl,rfl,rfl⟩ | ⟨g,cur,rfl,hb,hlt,hnc,hcm,hlen,hH,hh,hcs⟩
 ·refine (Any.slices_Compact_string_empty ZeO none 0 w).mono ?_
  rintro e w' ⟨rfl,rfl⟩;exact ⟨0,rfl,rfl,lR _,World.ownsRow_nil _ _ _ _,gR _ _⟩
 ·have hs:=Any.slices_Compact_string ZeO g 0 c (lsS l) w hH (by omega) (by omega)
  have hle:=Go.Lib.compact_length_le (lsS l);rw [hlen] at hs;have ho2:w.ownsRow base 9 1 (.slice (some ⟨g,0,none⟩) n c) n ((lsS l).map encStr):=by rw [Z7d,ZeP];exact ho
  refine hs.mono ?_;rintro e w' ⟨rfl,q,rfl⟩;have h1:=Go.Lib.ownsRow_putRow (q:=q) (k:=(Lib.compact (lsS l)).length) (ys:=Lib.compact (lsS l)++List.replicate (n-(Lib.compact (lsS l)).length) []) ho2 (by simp;omega) (by omega);rw [List.take_left,Z7d] at h1;have hg:=grownBy_sorted (w:=w) (g:=g) (n:=q) (os:=#[]) (Lib.compact (lsS l)++List.replicate (n-(Lib.compact (lsS l)).length) []).toArray;have hu:unqU l=(Lib.compact (lsS l)).map idS:=by rw [Zbb];rfl
  have he: ∀W:World,grow W #[]=W:=fun W=>by cases W;simp [grow]
  rw [he] at hg;exact ⟨_,rfl,by unfold Hid;rw [hu,List.length_map],by omega,by rw [hu];exact h1,hg⟩
end
end Go.Proofs.YtecpbcmpncgokaaGreat
