/- The document's check whether two objects are one, at two equal ones. Conditions: lengths below 2^47. The walk of the law StoreKinds: what is put is an object of its kind. Conditions: objects that read. -/
import Derived.Test.YtecpbcmpncgokaaGreatObjBB
import Derived.BigQuiet
import Derived.Deep.DeepCutAuto
import Derived.Test.YtecpbcmpncgokaaGreatShort
import Derived.Test.YtecpbcmpncgokaaGreatStoAdd
import Derived.Test.YtecpbcmpncgokaaGreatSto8
set_option linter.unusedVariables false
namespace Go.Proofs.YtecpbcmpncgokaaGreat
open Go.RowKit Go.Dol
def Zjm (n:Nat) (w:World) (i:Value) (wr:World):Prop:=∃ k q:Nat,i= .int .i64 k∧k≤n∧Hid (wr=w.drewN q)
set_option maxRecDepth 100000 in
set_option maxHeartbeats 4000000 in
theorem Zaw (k:Int) (Ad:OA) (d:LU) (cd:Nat) (Ae:OA) (en:List Ent) (ce:Nat) (tr:BA) (Ap:OA) (pa:List BA) (cp:Nat) (ta na wh:BA) (st:Int) (te:BA) (Ad2:OA) (cd2:Nat) (Ae2:OA) (ce2:Nat) (Ap2:OA) (cp2:Nat) (w:World) (hd:Rd w w.heap.size 1 Ad d.length (bc d)) (he:Rd w w.heap.size 3 Ae en.length (ec en)) (hp:Rd w w.heap.size 1 Ap pa.length (pc pa)) (hel:en.length≤140737488355328) (hpl:pa.length≤140737488355328) (hd2:Rd w w.heap.size 1 Ad2 d.length (bc d)) (he2:Rd w w.heap.size 3 Ae2 en.length (ec en)) (hp2:Rd w w.heap.size 1 Ap2 pa.length (pc pa)):
  Calls Tryz.prog 63 #[.agg #[.int .i64 k,.slice Ad d.length cd,.slice Ae en.length ce,.string tr,.slice Ap pa.length cp,.string ta,.string na,.string wh,.int .i64 st,.string te],.agg #[.int .i64 k,.slice Ad2 d.length cd2,.slice Ae2 en.length ce2,.string tr,.slice Ap2 pa.length cp2,.string ta,.string na,.string wh,.int .i64 st,.string te]] w fun e w'=>e= .returned (.bool true)∧Below w.heap.size w w':=by
 obtain ⟨wa,hwa⟩: ∃wa,wa=w.alloc (.cells #[.int .i64 k,.slice Ad d.length cd,.slice Ae en.length ce,.string tr,.slice Ap pa.length cp,.string ta,.string na,.string wh,.int .i64 st,.string te] 40):=⟨_,rfl⟩;have hB0:Blk wa w.heap.size 40 (Z4P k (.slice Ad d.length cd) (.slice Ae en.length ce) tr (.slice Ap pa.length cp) ta na wh st te):=by
  rw [hwa];exact Blk.new w 40 _
 have hsz:wa.heap.size=w.heap.size+1:=by rw [hwa];simp
 have hba:Below w.heap.size w wa:=by rw [hwa];exact (bR _ _).alloc (lR _) _
 have hB1:=hB0.alloc (.cells #[.int .i64 k,.slice Ad2 d.length cd2,.slice Ae2 en.length ce2,.string tr,.slice Ap2 pa.length cp2,.string ta,.string na,.string wh,.int .i64 st,.string te] 40);have hB2:Blk (wa.alloc (.cells #[.int .i64 k,.slice Ad2 d.length cd2,.slice Ae2 en.length ce2,.string tr,.slice Ap2 pa.length cp2,.string ta,.string na,.string wh,.int .i64 st,.string te] 40)) wa.heap.size 40 (Z4P k (.slice Ad2 d.length cd2) (.slice Ae2 en.length ce2) tr (.slice Ap2 pa.length cp2) ta na wh st te):=Blk.new wa 40 _;have hb:Below w.heap.size w (wa.alloc (.cells #[.int .i64 k,.slice Ad2 d.length cd2,.slice Ae2 en.length ce2,.string tr,.slice Ap2 pa.length cp2,.string ta,.string na,.string wh,.int .i64 st,.string te] 40)):=hba.alloc hba.size _;obtain ⟨w0,hw0⟩: ∃w0,w0=wa.alloc (.cells #[.int .i64 k,.slice Ad2 d.length cd2,.slice Ae2 en.length ce2,.string tr,.slice Ap2 pa.length cp2,.string ta,.string na,.string wh,.int .i64 st,.string te] 40):=⟨_,rfl⟩;rw [←hw0] at hB1 hB2 hb;rw [hsz] at hB2;have rd:=hd.below hb;have rd2:=hd2.below hb;have re:=he.below hb;have re2:=he2.below hb;have rp:=hp.below hb;have rp2:=hp2.below hb;have g0:(k !=k)=false:=bne_self_eq_false _;have g8:(st !=st)=false:=bne_self_eq_false _;have HT: ∀W:World,Rd W w.heap.size 1 Ap pa.length (pc pa)→Rd W w.heap.size 1 Ap2 pa.length (pc pa)→Calls Tryz.prog 20 #[.slice Ap pa.length cp,.slice Ap2 pa.length cp2] W fun e w'=>e= .returned (.bool true)∧ ∃n,w'=W.drewN n:=fun W h1 h2=>
  (Z6M Ap pa cp Ap2 pa cp2 W _ _ h1 h2 hpl hpl).mono fun e w' ⟨u,n,h1,h2,h3⟩=>⟨by rw [h1,h2.2 rfl],n,h3⟩
 have HS:=qI HT;clear HT hd hd2 he he2 hp hp2 hB0 hba;go_in;go_upto_region 1 with fail
 rw [←hwa,←hw0];clear hwa hw0 hsz;obtain ⟨c0,c1,c2,c3,c4,c5,c6,c7,c8,c9⟩:=Z6 hB1;obtain ⟨e0,e1,e2,e3,e4,e5,e6,e7,e8,e9⟩:=Z6 hB2;have v1:(convert 36 9 (.slice Ad d.length cd)).run Tryz.prog w0= .ok (.string ⟨d.toArray⟩) w0:=Z0K rd;have v2:(convert 36 9 (.slice Ad2 d.length cd2)).run Tryz.prog w0= .ok (.string ⟨d.toArray⟩) w0:=Z0K rd2;simp only [List.append];go_wp2_with (first | (go_at_call 20;(with_reducible refine (HS.out w0 rp rp2).mono ?_);rintro e w4 ⟨rfl,n4,rfl⟩));have z1:=c2;have z2:=e2;clear c0 c1 c2 c3 c4 c5 c6 c7 c8 c9 e0 e1 e2 e3 e4 e5 e6 e7 e8 e9 v1 v2 g0 g8 HS rp rp2 rd rd2 hB1 hB2;go_loopw [5] (fun i wr=>Zjm en.length w0 i wr) (fun i _=>en.length-(intOf i).toNat)
 case atStart=>exact ⟨0,n4,rfl,zL _,rfl⟩
 case round=>
  obtain ⟨k',q,rfl,hk,hwr⟩:=hrel;have y1:wr.cell? ⟨w.heap.size,2,none⟩=some (.slice Ae en.length ce):=by rw [hwr.out];exact z1
  have y2:wr.cell? ⟨w.heap.size+1,2,none⟩=some (.slice Ae2 en.length ce2):=by rw [hwr.out];exact z2
  have hrw:Rd wr w.heap.size 3 Ae en.length (ec en):=by rw [hwr.out];exact re.drewN q
  have hrw2:Rd wr w.heap.size 3 Ae2 en.length (ec en):=by rw [hwr.out];exact re2.drewN q
  have f1:IntKind.i64.wrap ((k':Int)+1)=(k':Int)+1:=qJ _ (by omega);clear z1 z2 re re2
  by_cases h1:k'<en.length
  ·have d1:decide ((k':Int)<(en.length:Int))=true:=by simp;omega
   have d1':(k':Int)<(en.length:Int):=by omega
   have hk0:(0:Int)≤(k':Int):=by omega
   have hlen1:en.length≤9223372036854775807:=by omega
   obtain ⟨bb,off,rfl,hbb,hcell⟩:=hrw.at_ (by omega);obtain ⟨bb2,off2,rfl,hbb2,hcell2⟩:=hrw2.at_ (by omega);obtain ⟨p0,p1,p2⟩:=Z3H h1;have c0:=hcell _ _ p0;have c1:wr.cell? ⟨bb,off+k'*3+1,none⟩=_:=hcell _ _ p1;have c2:wr.cell? ⟨bb,off+k'*3+2,none⟩=_:=hcell _ _ p2;have e0:=hcell2 _ _ p0;have e1:wr.cell? ⟨bb2,off2+k'*3+1,none⟩=_:=hcell2 _ _ p1;have e2:wr.cell? ⟨bb2,off2+k'*3+2,none⟩=_:=hcell2 _ _ p2;obtain ⟨x,hx⟩: ∃x,x=en[k']:=⟨_,rfl⟩;rw [←hx] at c0 c1 c2 e0 e1 e2;obtain ⟨x0,x1,x2⟩:=x;simp only at c0 c1 c2 e0 e1 e2;clear hx hcell hcell2 p0 p1 p2;have heq: ∀w:World,(binOp .neq 177 (.agg #[.string x0,.bool x1,.string x2]) (.agg #[.string x0,.bool x1,.string x2])).run Tryz.prog w= .ok (.bool false) w:=fun w=>by rw [Za7];simp
   go_wp2_with fail;go_quiet (fail);go_wp2_with fail;exact ⟨⟨k'+1,q+nq,by go_num,by omega,by unfold Hid;rw [hwr.out,World.drewN_drewN]⟩,by simp [intOf];omega⟩
  ·have d1:decide ((k':Int)<(en.length:Int))=false:=by simp;omega
   have d1': ¬(k':Int)<(en.length:Int):=by omega
   go_wp2_with fail;go_ret;exact ⟨rfl,by rw [hwr.out];exact hb.drewN' _⟩
end Go.Proofs.YtecpbcmpncgokaaGreat
set_option linter.unusedVariables false
namespace Go.Proofs.YtecpbcmpncgokaaGreat
open Go.RowKit Go.Dol
theorem ZdF {w W:World} {base n:Nat} {A:OA} {c:Nat} {l:List BA} (ho:w.ownsRow base 9 1 (.slice A l.length c) l.length (sc l)) (hn:l.length=n) (hb:Below w.heap.size w W):Rd W w.heap.size 1 A n (sc l):=by
  rw [←hn];exact (Rd.of_own ho).below hb
def Zjx (n:Nat) (w:World) (i:Value) (wr:World):Prop:= ∃k:Nat,i= .int .i64 k∧k≤n∧Below w.heap.size w wr
set_option maxRecDepth 100000 in
set_option maxHeartbeats 25600000 in
theorem storeKinds_walk (A:OA) (l:List ObA) (c:Nat) (iX:Int) (w:World) (hr:Rd w w.heap.size 10 A l.length (oc l)) (hos:Obs w w.heap.size l) (hl:l.length≤140737488351232) (wi:(Lit.int .i64 iX).wf=true):
    Calls Tryz.prog 11 #[.slice A l.length c, .int .i64 iX] w fun e w'=>e= .returned (.bool true)∧Below w.heap.size w w':=by
  have HA:=qI (Z8M w);clear wi;go_in;go_wp2_with fail;refine HA.out.mono ?_;rintro e w1 ⟨rfl,hb1⟩
  have HAd:=qI (Zcp A l c w1 ((hr.below hb1).more hb1.size) (fun x hx=>by
    obtain ⟨h1,h2,h3,h4⟩:=hos.below hb1 x hx
    exact ⟨h1.more hb1.size,h2.more hb1.size,h3.more hb1.size,h4⟩) hl)
  clear HA hr hos;go_wp2_with fail;refine HAd.out.mono ?_;rintro e w2 ⟨g,m,gs,base,gp,D,ps,n,A1,c1,A2,c2,rfl,hpn,hn20,hst2,hJ,hT,hlow,hb2⟩;have hb02:=hb1.next hb2;clear HAd;have hKW:=hJ.out.1.calm.ok.toW;have e1:(ps.map idO).length=n:=by rw [List.length_map];exact hpn.out
  have hno:PkOk (([]:List PkA).map PkA.pk):=fun p hp=>(List.not_mem_nil hp).elim;go_wp2_with fail;go_loopw [10] (fun i wr=>Zjx n w2 i wr) (fun i _=>n-(intOf i).toNat)
  case atStart=>exact ⟨0,rfl,zL _,bR _ _⟩
  case round=>
    obtain ⟨k,rfl,hk,hbr⟩:=hrel;have f1:IntKind.i64.wrap ((k:Int)+1)=(k:Int)+1:=qJ _ (by omega)
    by_cases h1:k<n
    · have d1:decide ((k:Int)<(n:Int))=true:=dT (by omega)
      have d1':(k:Int)<(n:Int):=by omega
      have hk0:(0:Int)≤(k:Int):=by omega
      obtain ⟨p,hp⟩: ∃p,ps[k]?=some p:=⟨_,gE (by rw [hpn.out];exact h1)⟩;have hpm:=List.mem_of_getElem? hp;have hobj:=hJ.out.1.objs p hpm;obtain ⟨o,ho⟩: ∃o,decO geS p=some o:=by
        unfold Zd at hobj;exact Option.isSome_iff_exists.1 hobj
      have hget:getS geS D [] (idO p)= .ok p:=by rw [Z6Y];exact hJ.out.1.get hpm
      have HOb:=qI (fun kind=>Z9z (kind:=kind) hget ho);have hi32:=ZR p;have HC:=qI (fun (W:World) (hb:Below w2.heap.size w2 W) (kind:Int)=>Z8L (hst2.below hb) hKW hno (by decide) (idO p) (by omega) kind);have hg1:(sc (ps.map idO))[k]?=some (.string (idO p)):=by rw [sc,List.getElem?_map,List.getElem?_map,hp];rfl
      have HR1:=qI (fun (W:World) (hb:Below w2.heap.size w2 W)=>ZdF hT.out.one e1 hb);obtain ⟨b1,o1,hA1,_,hc1⟩:=(HR1.out wr hbr).at_ (by omega);subst hA1;have q1:wr.cell? ⟨b1,o1+k,none⟩=some (.string (idO p)):=hc1 _ _ hg1;have HO1:=HC.out wr hbr 0;rw [show ([]:List PkA).map PkA.pk=[] from rfl,HOb.out 0,if_neg (by simp)] at HO1;have HO:=qI HO1;clear HO1 hc1 hp hobj ho hget hpm;go_wp2_with fail;refine HO.out.mono ?_;rintro e w3 ⟨kk,Ad,d,cd,Ae,en,ce,tr,Ap,pa,cp,ta,na,wh,st,te,hoE,rfl,r1,r2,r3,hb3,r5,r6,r7⟩;have hs2:=hbr.size;have hs3:=hb3.size;have hs4:(w3.alloc (.cells zcells.toArray 40)).heap.size=w3.heap.size+1:=by simp
      have hN:=Blk.new w3 40 zcells;have hb34:Below w3.heap.size w3 (w3.alloc (.cells zcells.toArray 40)):=(bR _ _).alloc (lR _) _;clear HO;have hone: ∀v∈Z4P kk (.slice Ad d.length cd) (.slice Ae en.length ce) tr (.slice Ap pa.length cp) ta na wh st te,v.oneCell'=true:=Z6n _ _ _ _ _ _ _ _ _ _ rfl rfl rfl
      go_wp2_with (first
        | (refine Z4 (by rfl) _ (.tmp 11) (.tmp 42) rfl w3.heap.size (Z4P kk (.slice Ad d.length cd) (.slice Ae en.length ce) tr (.slice Ap pa.length cp) ta na wh st te) rfl rfl 40 zcells hN (by kernel_rfl) rfl hone ?_
           intro w4 hB4 hg4;have hb24:=((hbr.next hb3).next hb34).grown hg4 (by omega) (fun k hk=>by cases hk;omega);obtain ⟨b3,o3,hA3,_,hc3⟩:=(HR1.out w4 hb24).at_ (by omega);injection hA3 with hA3
           injection hA3 with hA3 hA4
           subst hA3 hA4;have q2:w4.cell? ⟨b1,o1+k,none⟩=some (.string (idO p)):=hc3 _ _ hg1
           clear hc3))
      have hok:o.kind=kk:=by rw [hoE.out]
      have HO2:=HC.out w4 hb24 iX;rw [show ([]:List PkA).map PkA.pk=[] from rfl,HOb.out iX,hok] at HO2;have hs5:=hb24.size
      by_cases hcc:iX≠0∧kk≠iX
      · rw [if_pos hcc] at HO2
        have HO:=qI HO2;have z1:(iX !=0)=true:=bne_iff_ne.2 hcc.1;have z2:(kk==iX)=false:=beq_eq_false_iff_ne.2 hcc.2;clear HO2 hcc;refine HO.out.mono ?_;rintro e w5 ⟨rfl,hb5⟩;have hB5:=hB4.below hb5 hB4.lt;have hN5:=Blk.new w5 40 zcells;have hb56:Below w5.heap.size w5 (w5.alloc (.cells zcells.toArray 40)):=(bR _ _).alloc (lR _) _;have hB6:=hB5.below hb56 hB5.lt;have hs6:(w5.alloc (.cells zcells.toArray 40)).heap.size=w5.heap.size+1:=by simp
        have hs7:=hb5.size;have hlt:=hB5.lt;clear HO
        go_wp2_with (first
          | (refine Z4 (by rfl) _ (.tmp 13) (.tmp 52) rfl w5.heap.size zcells rfl rfl 40 zcells hN5 (by kernel_rfl) rfl (by decide) ?_
             intro w6 hB7 hg7;have hb26:=((hb24.next hb5).next hb56).grown hg7 (by omega) (fun k hk=>by cases hk;omega);have hB8:=hB6.grown hg7 (fun e=>by injection e with e;omega)
             have y0:w6.cell? ⟨w3.heap.size,0,none⟩=some (.int .i64 kk):=by rw [hB8.cell];rfl))
        exact ⟨⟨k+1,by go_num,by omega,hb26⟩,by simp [intOf];omega⟩
      · rw [if_neg hcc] at HO2
        have HO:=qI HO2;have hcz:=hcc;clear HO2 hcc;refine HO.out.mono ?_;rintro e w5 ⟨kk2,Ad2,d2,cd2,Ae2,en2,ce2,tr2,Ap2,pa2,cp2,ta2,na2,wh2,st2,te2,hoE2,rfl,s1,s2,s3,hb5,s5,s6,s7⟩;have hee:=hoE.out.symm.trans hoE2.out;injection hee with x0 x1 x2 x3 x4 x5 x6 x7 x8 x9
        subst x0 x1 x2 x3 x4 x5 x6 x7 x8 x9;have hB5:=hB4.below hb5 hB4.lt;have hN5:=Blk.new w5 40 zcells;have hb56:Below w5.heap.size w5 (w5.alloc (.cells zcells.toArray 40)):=(bR _ _).alloc (lR _) _;have hB6:=hB5.below hb56 hB5.lt;have hs6:(w5.alloc (.cells zcells.toArray 40)).heap.size=w5.heap.size+1:=by simp
        have hs7:=hb5.size;have hlt:=hB5.lt;have hone2: ∀v∈Z4P kk (.slice Ad2 d.length cd2) (.slice Ae2 en.length ce2) tr (.slice Ap2 pa.length cp2) ta na wh st te,v.oneCell'=true:=Z6n _ _ _ _ _ _ _ _ _ _ rfl rfl rfl;have hb34':=hb34.grown hg4 (by omega) (fun k hk=>by cases hk;exact lR _);have hb36:=(hb34'.trans (hb5.mono hb34'.size)).trans (hb56.mono (by omega));have hz:(iX !=0)=false∨(iX !=0)=true∧(kk==iX)=true:=by
          by_cases hi:iX=0
          · exact .inl (by rw [hi];rfl)
          · exact .inr ⟨bne_iff_ne.2 hi,beq_iff_eq.2 (Classical.byContradiction fun h=>hcz ⟨hi,h⟩)⟩
        clear HO hcz;rcases hz with z1 | ⟨z1,z2⟩
        all_goals
          go_wp2_with (first
            | (refine Z4 (by rfl) _ (.tmp 13) (.tmp 52) rfl w5.heap.size (Z4P kk (.slice Ad2 d.length cd2) (.slice Ae2 en.length ce2) tr (.slice Ap2 pa.length cp2) ta na wh st te) rfl rfl 40 zcells hN5 (by kernel_rfl) rfl hone2 ?_
               intro w6 hB7 hg7;have hb26:=((hb24.next hb5).next hb56).grown hg7 (by omega) (fun k hk=>by cases hk;omega);have hB8:=hB6.grown hg7 (fun e=>by injection e with e;omega);have y0:w6.cell? ⟨w3.heap.size,0,none⟩=some (.int .i64 kk):=by rw [hB8.cell];rfl
               have hb37:=hb36.grown hg7 (by omega) (fun k hk=>by cases hk;omega);have hb57:=hb56.grown hg7 (by omega) (fun k hk=>by cases hk;omega);have HSm:=qI (Zaw kk Ad d cd Ae en ce tr Ap pa cp ta na wh st te Ad2 cd2 Ae2 ce2 Ap2 cp2 w6 ((r1.1.below hb37).more hb37.size) ((r2.1.below hb37).more hb37.size) ((r3.1.below hb37).more hb37.size) r5 r6 ((s1.1.below hb57).more hb57.size) ((s2.1.below hb57).more hb57.size) ((s3.1.below hb57).more hb57.size));obtain ⟨c0,c1',c2',c3,c4,c5,c6,c7,c8,c9⟩:=Z6 hB8
               obtain ⟨e0,e1',e2,e3,e4,e5,e6,e7,e8,e9⟩:=Z6 hB7)
            | (go_at_call 63;(with_reducible refine HSm.out.mono ?_);rintro e w7 ⟨rfl,hb7⟩))
          exact ⟨⟨k+1,by go_num,by omega,hb26.next hb7⟩,by simp [intOf];omega⟩
    · have d1:decide ((k:Int)<(n:Int))=false:=qF (by omega)
      have d1': ¬(k:Int)<(n:Int):=by omega
      go_wp2_with fail;go_ret;exact ⟨rfl,hb02.trans (hbr.mono hb02.size)⟩
end Go.Proofs.YtecpbcmpncgokaaGreat
