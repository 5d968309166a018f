/- Walks and laws. Conditions: as stated. -/
import Derived.Test.YtecpbcmpncgokaaGreatObjD
set_option maxRecDepth 99999
set_option maxHeartbeats 25600000
set_option linter.all false
open Go.Value renaming ownBlock->PN,string->th,slice->it
open Go.Proofs.Tryz renaming prog->an
open Go.RowKit Go.Dol
namespace Go.Proofs.YtecpbcmpncgokaaGreat
theorem FC (A1 l c1 A2 l2 c2 w B1 B2) (b:Rd w B1 1 A1 l.length (bc l)) (c:Rd w B2 1 A2 l2.length (bc l2)) (a: ¬l=l2):
  Calls an 24 #[.slice A1 l c1,.slice A2 l2 c2] w fun d w'=>d= .returned false/\w=w':=by
 have e:=beq_eq_false_iff_ne.2 a;clear a;have f:(convert 36 9 (.slice A1 l c1)).run an w= .ok (.string ⟨l.toArray⟩) w:=bA b;have g:(convert 36 9 (.slice A2 l2 c2)).run an w= .ok (.string ⟨l2.toArray⟩) w:=bA c;go_in;go_wp2_with fail;go_ret;exact ⟨rfl,rfl⟩
theorem FD (A c w):Calls an 124 #[.slice A 0 c] w (gW w none):=by
 have a:=bAl w (.cells #[i0,eL,eL,eS,eL,eS,eS,eS,i0,eS] 40);have b:=o9 w 40 zcells;go_in;go_wp2_with ((refine dy (by rfl) _ (.tmp 2) (.tmp 16) rfl w.heap.size zcells rfl rfl 40 zcells b qkR rfl (by decide) ?_;intro d e f));have g:=Go.run_loadVar_row (P:=an) d w 40 40 zcells.toArray (0,0) _ e Go.Proofs.Tryz.underlying40 rfl qkR;refine bodyPost_ret (v:=.tuple #[.agg zcells.toArray,.int .i64 2]) ?_ rfl ⟨rfl,a.grown f a.size (fun i h=>by cases h;exact lR _)⟩;simp [results,Tryz.results124,asAddr,g]
def FE (B g k b:Nat) (l:LU) (m:Bool) (f:Nat) (w:World) (i:Value) (wr:World):Prop:=
 ∃(c:Nat) (a:List Ent) (h:OA) (j:Nat) (d:LU) (e:Bool),i= .int .i64 c/\c<=b/\Blk wr k 40 (dP 2 eL (.slice h a j) eS eL eS eS eS 0 eS)/\wr.ownsRow B 177 3 (.slice h a j) a (ec a)/\Rr wr B g d e/\
  Hid (Sofar ds b l m a (b-c) d e)/\Below B w wr/\b<=kag/\a<=f+1/\(e=false->a.length*32+d<=f)/\Hid (∀n∈a,n.name.size<=maxLen)
def FF (B g k b:Nat) (l:BA) (m:LU) (n:Bool) (f:Nat) (w:World) (i:Value) (wr:World):Prop:=
 ∃(c:Nat) (a:List BA) (h:OA) (j:Nat) (d:LU) (e:Bool),i= .int .i64 c/\c<=b/\Blk wr k 40 (dP 3 eL eL l (.slice h a j) eS eS eS 0 eS)/\wr.ownsRow B 9 1 (.slice h a j) a (pc a)/\Rr wr B g d e/\
  Hid (Sofar dQ b m n a (b-c) d e)/\Below B w wr/\b<=kag/\a<=f+1/\(e=false->a.length*32+d<=f)/\Hid (∀o∈a,o.size<=32)
structure RM (w W3:World) (B:Nat) (W:World) (cs:List Value) (l:LU) (b:Bool):Prop where
 x:Blk W (w+2) 40 cs
 r:Rr W B (w+1) l b
 z:Blk W w 40 zcells
 b:Below B W3 W
section
variable {w W3 W W':World} {B:Nat} {cs:List Value} {l l':LU} {b b':Bool}
theorem RM.ret (a:RM w W3 B W cs l b) (e:Rr W' B (w+1) l' b') (c:W.grownBy W' (some (w.heap.size+1))) (g:B=w+1) (f:B<=W3):RM w W3 B W' cs l' b':=by
 obtain ⟨_,_,d,_⟩:=id a.r;exact ⟨a.x.grown c (bv a.x d (by decide)),e,a.z.grown c (bv a.z d (by decide)),a.b.trans (ak c qO (lT f a.b.size))⟩
theorem RM.put (a:RM w W3 B W cs l b) (i v) (f:B=w+1) (e:B<=W3):RM w W3 B (W.setCell ⟨w+2,i,none⟩ v) (cs.set i v) l b:=by
 have c:W.grownBy (W.setCell ⟨w+2,i,none⟩ v) (some (w.heap.size+2)):=ae (gR _ _) i _;exact ⟨a.x.set i v,a.r.keep c (fun d=>by injection d;omega) (v8 a.x (by decide) qO),a.z.grown c (fun d=>by injection d;omega),a.b.trans (ak c qO (lT e a.b.size))⟩
theorem RM.own {e size n u xs} (a:RM w W3 B W cs l b) (c:RM w W3 B W' cs l' b') (d:W.grownBy W' (some (w.heap.size+1))) (i v) (f:W.ownsRow B e size u n xs) (g:265≠e) (h:40≠e):(W'.setCell ⟨w+2,i,none⟩ v).ownsRow B e size u n xs:=by
 obtain ⟨_,_,j,_⟩:=id a.r;exact aE (aE f j g d) c.x h (ae (gR _ _) i _)
end
theorem FG (A x l n c w) (u1:n=l.length+1) (V0:Rd w w.heap.size 1 A n (bc (x::l))) (m5:n<=c) (b4:c<=maxLen) (v1:l.length<=140737488351231):
  Calls an 124 #[.slice A n c] w (gW w (aZ geS (x::l))):=by
 have n5:((n:Int)==0)=false:=beq_eq_false_iff_ne.2 qO;have o5:=ltI 0 n;obtain ⟨o,C0,D0,c4,d4,p5,⟨c3,e4,f4⟩,_,_,_,g4⟩:=cm (k:=1) (l:=x::l) (c:=c) 1 rfl (by rw [List.length_cons,<-u1];exact V0) (by simp) (by simp;omega) b4;rw [List.length_cons,<-u1] at g4 d4;obtain ⟨w1,x1,rfl,q5,d3⟩:=V0.at_ qO;have Z1:o=l:=by rw [c4];rfl
 obtain ⟨a2,W0⟩:=gX (w.alloc (.cells #[i0,eL,eL,eS,eL,eS,eS,eS,i0,eS] 40));obtain ⟨b2,E0⟩:=gX (a2.alloc (.cells #[.slice C0 o D0,false] 265));obtain ⟨c0,t0⟩:=gX (b2.alloc (.cells #[x.toNat,eL,eL,eS,eL,eS,eS,eS,i0,eS] 40));have c2:a2.heap.size=w+1:=by rw [W0];simp
 have d2:b2.heap.size=w+2:=by rw [E0];simp [c2]
 have r5:c0.heap.size=w+3:=by rw [t0];simp [d2]
 have e2:Below w w c0:=by rw [t0,E0,W0];exact (((bR _ _).alloc (lR _) _).alloc (by simp) _).alloc (by simp;omega) _
 obtain ⟨e,j⟩: ∃e,e=w.heap.size+1:=⟨_,rfl⟩;have f2:Blk c0 (w+1) 265 [.slice C0 o D0,.bool false]:=by rw [t0,E0,<-c2];exact (o9 a2 _ _).alloc _
 have B:RM w c0 e c0 (dP x.toNat eL eL eS eL eS eS eS 0 eS) o false:=
  ⟨by rw [t0,<-d2];exact o9 b2 _ _,⟨C0,D0,f2,Far.of_rd ((c3.below e2).more qO) qO,e4,f4,qO,qO⟩,by rw [t0,E0,W0];exact ((o9 w _ zcells).alloc _).alloc _,bR _ _⟩
 have h4:w.cell? ⟨w1,x1,none⟩=some (.int .u8 x.toNat):=d3 0 (.int .u8 x.toNat) rfl;have s5:x.toNat<256:=x.toNat_lt;have g2:IntKind.i64.wrap x.toNat=(x.toNat:Int):=qJ qO;have k:e<=c0:=qO;have e3:=qI u1;have X0:=qI Z1;have F0:Hid (o.length=l):=by unfold Hid;rw [Z1]
 clear u1 Z1 d3 c2 d2;go_in;go_upto_region 5 with (fail);rw [<-W0,<-E0,<-t0];clear W0 E0 t0;have y1:=B.x.c 0;go_upto_block 0 with (fail);clear y1 h4 g2;go_cut [] (fun j0=> ∃(t:Int) (C:OA) (d:LU) (R:Nat) (H:OA) (g:List Ent) (T:Nat) (I:BA) (D:OA) (f:List BA) (J:Nat) (K L M:BA) (N:Int) (O:BA) (d0:LU) (v:Bool),
  RM w c0 e j0 (dP t (.slice C d R) (.slice H g.length T) I (.slice D f.length J) K L M N O) d0 v/\RdN j0 e 1 C d (bc d)/\RdN j0 e 3 H g.length (ec g)/\RdN j0 e 1 D f.length (pc f)/\g.length<=kaa/\f.length<=kaa/\Hid (∀q∈f,q.size<=maxLen)/\Hid (∀a∈g,a.name.size<=maxLen)/\
  Hid (aZ geS (x::l)=if v=false/\ay geS ⟨t,d,g,I,f,K,L,M,N,O⟩=true/\ct ⟨t,d,g,I,f,K,L,M,N,O⟩=x::l then some ⟨t,d,g,I,f,K,L,M,N,O⟩ else none))
 case first=>
  clear V0;by_cases h1:x=1
  ·as_aux_lemma=>
   subst h1;have z1:=B.x.c 1;have i4:=f2.c 0;go_wp2_with fail;refine lP (S:=fun A1=>A1.cell? ⟨w+2,1,none⟩=some (.slice none 0 0)/\A1.cell? ⟨w+1,0,none⟩=some (.slice C0 o D0)) 8 _ qkR rfl qkR rfl rfl ⟨z1,i4⟩ (fun G0=> ?_);simp only [List.setIfInBounds_toArray,List.set_cons_zero,List.set_cons_succ,bU,List.getElem_toArray,List.getElem_cons_succ,List.getElem_cons_zero];refine tl 0 (.pointer (some ⟨w+2,1,none⟩)) ?_;refine tl 1 eL ?_;refine tl 2 (.pointer (some ⟨w+1,0,none⟩)) ?_;refine tl 3 (.pointer (some ⟨w+1,0,none⟩)) ?_;refine tl 4 (.pointer (some ⟨w+1,0,none⟩)) ?_;refine tl 5 (.slice C0 o D0) ?_;refine rh 6 fun i2 u0=> ?_;refine nT (by rfl) (.tmp 31) (.tmp 35) (by rfl) e _ 0 [] (by rfl) (w:=c0.drew) (j9 _ _ _ _) _ C0 o D0 o (by rfl) ((c3.below e2).drew) (by have:=F0.out;omega) k ?_;intro d C R Q j4 k4 l4 B1 _ _ _;have C1:=B.x.drew.grown B1 (by simp [PN]);have f3:=B.r.drew.keep B1 (by simp [PN]) (fun t f0=>by simp [PN] at f0);have m4:=B.z.drew.grown B1 (by simp [PN]);obtain ⟨t5,u5,v5,_⟩:=id f3;have n4:=f2.drew.grown B1 (by simp [PN]);have v0:=C1.c 1;have z2:=n4.c 0;refine hO u0 (⟨v0,z2⟩) (fun G0=> ?_);refine tl 7 (.pointer (some ⟨w+2,1,none⟩)) ?_;refine tl 8 undef ?_;refine dn ?_;have g3:=C1.free 1;simp only [dt];go_simp;have Y0:RM w c0 e Q (dP 1 eL eL eS eL eS eS eS 0 eS) o false:=⟨C1,f3,m4,(bR e _).drew.trans l4⟩;have o4:=Y0.put 1 (.slice C d R) j k;have p4:Q.grownBy (Q.setCell ⟨w+2,1,none⟩ (.slice C d R)) (some (w.heap.size+2)):=ae (gR Q _) 1 _;have D1:RdN _ e 1 C d (bc d):=RdN.own (aE k4 C1 (by decide) p4);go_wp2_with fail;go_meet;exact ⟨1,C,d,R,none,[],0,_,none,[],0,_,_,_,_,_,o,false,o4,D1,D9,D9,by decide,by decide,qI (by simp),qI (by simp),fJ (.inr ⟨rfl,by rw [tP,j4,List.nil_append,X0];rfl⟩)⟩
  by_cases U:x=4
  ·as_aux_lemma=>
   subst U;clear h1;go_wp2_with fail;refine (jM e (w+1) 32 32 rfl o false _ B.r).mono ?_;rintro a q4 ⟨Z0,j2,k2,rfl,l2,m2,n2,_,r4⟩;have w0:=B.ret l2 n2 j k;have o2:=w0.x.c 5;have E1:=w0.x.free 5;have a1:=w0.put 5 (.string ⟨Z0.toArray⟩) j k;unfold mkS;go_wp2_with fail;refine (iG e (w+1) j2 k2 _ a1.r).mono ?_;rintro a i3 ⟨s4,F1,G1,rfl,b1,p2,q2,_,w5⟩;have k0:=a1.ret b1 q2 j k;have t4:=k0.x.c 6;have x5:=k0.x.free 6;have H0:=k0.put 6 (.string ⟨s4.toArray⟩) j k;unfold mkS;go_wp2_with fail;refine (iG e (w+1) F1 G1 _ H0.r).mono ?_;rintro a u4 ⟨H1,r2,s2,rfl,t2,c1,I1,_,v4⟩;have l0:=H0.ret t2 I1 j k;have j3:=l0.x.c 7;have w4:=l0.x.free 7;have I0:=l0.put 7 (.string ⟨H1.toArray⟩) j k;unfold mkS;go_wp2_with fail;refine (lS e (w+1) r2 s2 _ I0.r).mono ?_;rintro a x4 ⟨J1,u2,v2,rfl,w2,d1,K1,_,y4⟩;have m0:=I0.ret w2 K1 j k;have k3:=m0.x.c 8;have z4:=m0.x.free 8;have J0:=m0.put 8 (.int .i64 (J1:Nat)) j k;unfold mkN;go_wp2_with fail;refine (iG e (w+1) u2 v2 _ J0.r).mono ?_;rintro a A4 ⟨L1,x2,y2,rfl,A2,e1,M1,_,B4⟩;have n0:=J0.ret A2 M1 j k;have C4:=n0.x.c 9;have g3:=n0.x.free 9;have Y0:=n0.put 9 (.string ⟨L1.toArray⟩) j k;unfold mkS;go_wp2_with fail;go_meet;exact ⟨4,none,[],0,none,[],0,_,none,[],0,_,_,_,_,_,x2,y2,Y0,D9,D9,D9,by decide,by decide,qI (by simp),qI (by simp),fJ (by
    have h:=uI m2.out p2.out (oU c1.out d1.out e1.out);rw [X0] at h;rw [oI];exact h)⟩
  by_cases h2:x=2
  ·as_aux_lemma=>
   subst h2;clear h1 U;go_wp2_with fail;refine (lS e (w+1) o false _ B.r).mono ?_;rintro a D4 ⟨s,l3,m3,rfl,B2,n3,E4,y5,C2⟩;have K0:=B.ret B2 E4 j k;have A5:=K0.b.size;have o3:=K0.x;unfold mkN;go_wp2_with fail;go_loopw [7] (fun x0 wr=>FE e (w+1) (w+2) s l3 m3 o D4 x0 wr) (fun x0 _=>s-(intOf x0).toNat)
   case atStart=>exact ⟨0,[],none,0,l3,m3,rfl,zL,o3,j9 _ _ _ _,B2,qI (Pz _ _ _ _),bR _ _,C2,by simp,fun _=>by simp;omega,qI (by simp)⟩
   case round=>
    clear o3 B2;obtain ⟨m,g,H,T,d0,v,rfl,f0,g0,L0,o0,M0,V,D2,F4,E2,f1⟩:=hrel;obtain ⟨G4,H4,E,_⟩:=id o0;have v0:=E.c 1;have I4:=V.size;by_cases F2:m<s
    ·have N1:=ltI m s;cases v with
     | true=>
      clear E;go_wp2_with fail;go_meet;exact ⟨2,none,[],0,H,g,T,_,none,[],0,_,_,_,_,_,d0,true,⟨g0,o0,K0.z.below V qO,K0.b.trans V⟩,D9,RdN.own L0,D9,by have:=F0.out;omega,by decide,qI (by simp),f1,fJ (by
       have h:=oX (jL n3.out (M0.out.done (.inr rfl)));rw [X0] at h;rw [lu];exact h)⟩
     | false=>
     have E1:=qiJ (m+1);have J4:=E2 rfl;have K4:o.length<=140737488351231:=by have:=F0.out;omega
     go_wp2_with fail;refine (iG e (w+1) d0 false wr o0).mono ?_;rintro a F ⟨y,G2,H2,rfl,p3,c1,O1,B5,C5⟩;unfold mkS;have q3:=g0.grown O1 (bv g0 E (by decide));have g1:=aE L0 E (by decide) O1;have D5:=O1.size;have h3:Below e wr F:=ak O1 qO qO;have I2:=bAl F (.cells #[.string ⟨y.toArray⟩,false,eS] 177);have J2:=p3.below I2;have K2:=o9 F 177 [.string ⟨y.toArray⟩,false,eS];have L2:=q3.alloc (.cells #[.string ⟨y.toArray⟩,false,eS] 177);have r3:=g1.alloc (.cells #[.string ⟨y.toArray⟩,false,eS] 177);obtain ⟨_,_,P1,_⟩:=id J2;have s3:=fun t f0=>(g1.lt t f0).2;go_wp2_with fail;refine (jM e (w+1) 1 1 rfl G2 H2 _ J2).mono ?_;rintro a i1 ⟨dd,L4,M4,rfl,N0,d1,j1,E5,_⟩;unfold mkS;have p0:=K2.grown j1 (bv K2 P1 (by decide));have q0:=L2.grown j1 (bv L2 P1 (by decide));have e0:=aE r3 P1 (by decide) j1;have F5:F.heap.size+1<=i1:=by have:=j1.size;simp at this;omega
     have U:=h3.trans ((I2.mono qO).trans (ak j1 qO (lT qO I2.size)));have Q1:i1.grownBy (i1.setCell ⟨F,1,none⟩ (.bool (dd==[1]))) (some F.heap.size):=ae (gR _ _) 1 _;have t3:Blk (i1.setCell ⟨F,1,none⟩ (.bool (dd==[1]))) F 177 [.string ⟨y.toArray⟩,.bool (dd==[1]),.string eS]:=p0.set 1 _;have M2:=q0.grown Q1 (bv q0 p0 (by decide));have u3:=e0.kept Q1 (.inr fun a=>by have:=s3 _ a;omega);obtain ⟨_,_,R1,_⟩:=id N0;have v3:=N0.keep Q1 (bv R1 p0 (by decide)) (v8 p0 (by decide) qO);have w3:=U.trans (ak Q1 qO qO);have G5:=p0.c 0;have H5:=p0.c 1;have I5:=p0.free 1;obtain ⟨_,_,S1,_⟩:=id v3;go_wp2_with fail;refine (jM e (w+1) 32 32 rfl L4 M4 _ v3).mono ?_;rintro a Q ⟨i,N4,O4,rfl,x3,e1,k1,J5,_⟩;unfold mkS;have y0:=t3.grown k1 (bv t3 S1 (by decide));have N2:=M2.grown k1 (bv M2 S1 (by decide));have O2:=aE u3 S1 (by decide) k1;have K5:i1.heap.size<=Q:=by have:=k1.size;simpa [World.setCell] using this
     have P4:=w3.trans (ak k1 qO (lT qO w3.size));have T1:Q.grownBy (Q.setCell ⟨F,2,none⟩ (.string ⟨i.toArray⟩)) (some F.heap.size):=ae (gR _ _) 2 _;have Q4:=N2.grown T1 (bv N2 y0 (by decide));have R4:=O2.kept T1 (.inr fun a=>by have:=s3 _ a;omega);obtain ⟨_,_,S4,_⟩:=id x3;have T4:=x3.keep T1 (bv S4 y0 (by decide)) (v8 y0 (by decide) qO);have y3:=P4.trans (ak T1 qO qO);have L5:=y0.c 0;have M5:=y0.c 1;have N5:=y0.c 2;have O5:=y0.free 2;have P5:=N2.c 2;have l1:=R4.alloc (.cells #[.string ⟨y.toArray⟩,.bool (dd==[1]),.string ⟨i.toArray⟩] 177);have P2:=Q4.alloc (.cells #[.string ⟨y.toArray⟩,.bool (dd==[1]),.string ⟨i.toArray⟩] 177);have Q2:=Rd.new3 (Q.setCell ⟨F,2,none⟩ (.string ⟨i.toArray⟩)) 177 (.string ⟨y.toArray⟩) (.bool (dd==[1])) (.string ⟨i.toArray⟩);have W:=bAl (Q.setCell ⟨F,2,none⟩ (.string ⟨i.toArray⟩)) (.cells #[.string ⟨y.toArray⟩,.bool (dd==[1]),.string ⟨i.toArray⟩] 177);have R2:=T4.below W;have U4:(Q.setCell ⟨F,2,none⟩ (.string ⟨i.toArray⟩)).heap.size=Q:=by simp [World.setCell]
     rw [U4] at Q2;have O0:=y3.trans (W.mono (lT qO y3.size));have V4: ∀u∈[th ⟨y.toArray⟩,.bool (dd==[1]),.string ⟨i.toArray⟩],u.oneCell'=true:=by
      exact z176
     clear q3 g1 L2 r3 K2 p0 q0 e0 J2 p3 N0 P1 R1 S1 u3 M2 E;go_wp2_with (at_builtin;refine FH rfl (.tmp 65) (.tmp 67) 37 177 _ 3 40 rfl Tryz.underlying37 uK rfl (by decide) e _ g.length (ec g) rfl l1 _ _ 1 1 _ rfl Q2 V4 (by unfold maxLen;omega) (by omega) (lT (by omega) O0.size) ?_);intro X Y Z P0 U1 m1 _ _;rw [<-j] at P0 U1;have W4:some (w.heap.size+2)≠(it H g.length T).ownBlock:=fun a=>own_ne l1 P2 (by decide) a.symm;have G:=P2.grown m1 W4;have Q5:=G.c 2;have R5:=G.free 2;obtain ⟨_,_,X4,_⟩:=id R2;have n1:=R2.keep m1 (fun a=>own_ne l1 X4 (by decide) a.symm) (K9 l1 (by decide) (lR _));have o1:=O0.trans U1;have z0:Z.grownBy (Z.setCell ⟨w+2,2,none⟩ (.slice X (g.length+1) Y)) (some (w.heap.size+2)):=ae (gR _ _) 2 _;have A0:Blk (Z.setCell ⟨w+2,2,none⟩ (.slice X (g.length+1) Y)) (w+2) 40 (dP 2 (.slice none 0 0) (.slice X (g.length+1) Y) ⟨#[]⟩ (.slice none 0 0) ⟨#[]⟩ ⟨#[]⟩ ⟨#[]⟩ 0 ⟨#[]⟩):=G.set 2 _;have p1:=n1.keep z0 (fun a=>by injection a;omega) (v8 G (by decide) (by omega));have h0:=aE P0 G (by decide) z0;have q1:=o1.trans (ak z0 (by omega) (by have:=o1.size;omega));clear P2 l1 G P0 R2 n1 O0 Q2;go_wp2_with fail;obtain ⟨Y4,S2⟩:=gX (Z.setCell ⟨w+2,2,none⟩ (.slice X (g.length+1) Y));rw [<-S2] at A0 p1 h0 q1 ⊢;have V1:g+1=(g++[(⟨⟨y.toArray⟩,decide (dd=[1]),⟨i.toArray⟩⟩:Ent)]).length:=by simp
     have T2:ec g++[th ⟨y.toArray⟩,.bool (dd==[1]),.string ⟨i.toArray⟩]=ec (g++[(⟨⟨y.toArray⟩,decide (dd=[1]),⟨i.toArray⟩⟩:Ent)]):=by
      exact z283
     rw [T2] at h0;rw [V1] at A0 h0;have ht:=uB c1.out d1.out e1.out;have r1:=M0.out;rw [show s-m=(s-(m+1))+1 by omega] at r1;refine ⟨⟨m+1,_,X,Y,N4,O4,by go_num,qO,A0,h0,p1,qI (r1.step ht),V.trans q1,D2,by simp;omega,fun U2=> ?_,qI ?_⟩,by simp [intOf];omega⟩
     ·have a0:=uO (ht.good U2).2;exact z85
     intro a b0;rcases l7.1 b0 with b0 | b0
     ·exact f1.out a b0
     obtain rfl:=i7.1 b0;show y.toArray.size<=maxLen;unfold maxLen;simp;omega
    have N1: ¬(m:Int)<s:=qO;clear E;go_wp2_with fail;go_meet;exact ⟨2,none,[],0,H,g,T,_,none,[],0,_,_,_,_,_,d0,v,⟨g0,o0,K0.z.below V qO,K0.b.trans V⟩,D9,RdN.own L0,D9,by have:=F0.out;omega,by decide,qI (by simp),f1,fJ (by
     have h:=oX (jL n3.out (M0.out.done (.inl qO)));rw [X0] at h;rw [lu];exact h)⟩
  by_cases h3:x=3
  ·as_aux_lemma=>
   subst h3;clear h1 h2 U;go_wp2_with fail;refine (jM e (w+1) 32 32 rfl o false _ B.r).mono ?_;rintro a q4 ⟨Z0,j2,k2,rfl,l2,m2,n2,_,r4⟩;have w0:=B.ret l2 n2 j k;have o2:=w0.x.c 3;have E1:=w0.x.free 3;have a1:=w0.put 3 (.string ⟨Z0.toArray⟩) j k;unfold mkS;go_wp2_with fail;refine (lS e (w+1) j2 k2 _ a1.r).mono ?_;rintro a i3 ⟨s,F1,G1,rfl,b1,p2,q2,S5,C2⟩;have k0:=a1.ret b1 q2 j k;have T5:=k0.b.size;have z3:=k0.x;unfold mkN;clear o2 E1;go_wp2_with fail;go_loopw [10] (fun x0 wr=>FF e (w+1) (w+2) s ⟨Z0.toArray⟩ F1 G1 o i3 x0 wr) (fun x0 _=>s-(intOf x0).toNat)
   case atStart=>exact ⟨0,[],none,0,F1,G1,rfl,zL,z3,j9 _ _ _ _,b1,qI (Pz _ _ _ _),bR _ _,C2,by simp,fun _=>by simp;omega,qI (by simp)⟩
   case round=>
    clear z3 b1;obtain ⟨m,f,D,J,d0,v,rfl,f0,g0,L0,o0,M0,V,D2,F4,E2,A3⟩:=hrel;obtain ⟨G4,H4,E,_⟩:=id o0;have v0:=E.c 1;have I4:=V.size;by_cases W1:m<s/\v=false
    ·obtain ⟨F2,rfl⟩:=W1;have N1:=ltI m s;have E1:=qiJ (m+1);have J4:=E2 rfl;have K4:o.length<=140737488351231:=by have:=F0.out;omega
     have y1:=g0.c 4;go_wp2_with fail;refine lP (S:=fun A1=>A1.cell? ⟨w+2,4,none⟩=some (.slice D f J)) 7 _ qkR rfl qkR rfl rfl y1 (fun G0=> ?_);simp only [List.setIfInBounds_toArray,List.set_cons_zero,List.set_cons_succ,bU,List.getElem_toArray,List.getElem_cons_succ,List.getElem_cons_zero];refine tl 0 (.pointer (some ⟨w+2,4,none⟩)) ?_;refine tl 1 (.slice D f J) ?_;refine tl 2 (.pointer (some ⟨w+1,0,none⟩)) ?_;refine rh 3 fun i2 u0=> ?_;go_simp;refine (jM e (w+1) 32 32 rfl d0 false wr.drew o0.drew).mono ?_;rintro a s1 ⟨i,G2,H2,rfl,Z4,a5,Q0,U5,b5⟩;have c5:=aE (w:=wr.drew) L0 E.drew (by decide) Q0;have B3:=g0.drew.grown Q0 (bv g0 E (by decide));have z1:=B3.c 4;have V5:wr.heap.size<=s1:=Q0.size;unfold mkS;refine hO u0 z1 (fun G0=> ?_);have e0:=c5.alloc (.cells #[.string ⟨i.toArray⟩] 9);have C3:=NX s1 9 (.string ⟨i.toArray⟩);have d5: ∀u∈[th ⟨i.toArray⟩],u.oneCell'=true:=by
      intro u hu;obtain rfl:=i7.1 hu;rfl
     have D3:=bAl s1 (.cells #[.string ⟨i.toArray⟩] 9);have N0:=Z4.below D3;have q0:=B3.alloc (.cells #[.string ⟨i.toArray⟩] 9);have E3:=q0.c 4;have U:Below e wr (s1.alloc (.cells #[.string ⟨i.toArray⟩] 9)):=((bR e wr).drew).trans ((ak Q0 qO (by show e<=wr;omega):Below e wr.drew s1).trans (D3.mono qO));obtain ⟨_,_,R1,_⟩:=id N0;have e5:some (w.heap.size+2)≠(it D f J).ownBlock:=fun a=>own_ne e0 q0 (by decide) a.symm;refine rh 4 fun i2 u0=> ?_;go_simp;refine hO u0 E3 (fun G0=> ?_);refine rh 5 fun i2 u0=> ?_;refine ft rfl (.tmp 90) (.tmp 93) 38 9 _ 1 16 rfl q9 uL rfl (by decide) e _ f (pc f) rfl e0 _ _ 1 1 _ rfl C3 d5 (by unfold maxLen;omega) qO (lT qO U.size) ?_;intro X Y Z P0 U1 m1 _ _;have G:=q0.grown m1 e5;have F3:=G.c 4;refine hO u0 F3 (fun G0=> ?_);refine tl 6 (.pointer (some ⟨w+2,4,none⟩)) ?_;refine tl 7 undef ?_;refine dn ?_;have W5:=G.free 4;simp only [dt];go_simp;have n1:=N0.keep m1 (fun a=>own_ne e0 R1 (by decide) a.symm) (K9 e0 (by decide) (lR _));have o1:=U.trans U1;have z0:Z.grownBy (Z.setCell ⟨w+2,4,none⟩ (.slice X (f.length+1) Y)) (some (w.heap.size+2)):=ae (gR _ _) 4 _;have A0:Blk (Z.setCell ⟨w+2,4,none⟩ (.slice X (f.length+1) Y)) (w+2) 40 (dP 3 eL eL ⟨Z0.toArray⟩ (.slice X (f.length+1) Y) eS eS eS 0 eS):=G.set 4 _;have p1:=n1.keep z0 (fun a=>by injection a;omega) (v8 G (by decide) qO);have h0:=aE P0 G (by decide) z0;have q1:=o1.trans (ak z0 qO (by have:=o1.size;omega));clear G P0 n1 C3 e0 q0 G0 y1 z1 E3 F3;go_wp2_with fail;obtain ⟨Y4,S2⟩:=gX (Z.setCell ⟨w+2,4,none⟩ (.slice X (f.length+1) Y));rw [<-S2] at A0 p1 h0 q1 ⊢;have V1:f+1=(f++[(⟨i.toArray⟩:BA)]).length:=by simp
     have T2:pc f++[th ⟨i.toArray⟩]=pc (f++[(⟨i.toArray⟩:BA)]):=by
      rw [uM];rfl
     rw [T2] at h0;rw [V1] at A0 h0;have ht:=uN a5.out;have r1:=M0.out;rw [show s-m=(s-(m+1))+1 by omega] at r1;refine ⟨⟨m+1,_,X,Y,G2,H2,by go_num,qO,A0,h0,p1,qI (r1.step ht),V.trans q1,D2,by simp;omega,fun U2=> ?_,qI ?_⟩,by simp [intOf];omega⟩
     ·have a0:=uP (ht.good U2).2;exact z85
     intro a b0;rcases l7.1 b0 with b0 | b0
     ·exact A3.out a b0
     obtain rfl:=i7.1 b0;show i.toArray.size<=32;simpa using b5
    have f5:=jL p2.out (M0.out.done (by
     by_cases a0:m<s
     ·exact .inr (by cases v with | true=>rfl | false=>exact absurd ⟨a0,rfl⟩ W1)
     ·exact .inl qO))
    have H0:RM w c0 e wr _ d0 v:=⟨g0,o0,k0.z.below V qO,k0.b.trans V⟩;have g5:=qI W1;clear W1;go_upto_region 21 with (fail);go_cut [86] (fun V2 j0=>V2= .bool false/\j0=wr)
    case first=>
     by_cases F2:m<s
     ·have N1:=ltI m s;cases v with
      | true=>
       exact z68
      | false=>exact absurd ⟨F2,rfl⟩ g5.out
     have N1: ¬(m:Int)<s:=qO;exact z68
    case rest=>
    obtain ⟨rfl,g2⟩:=hcut;obtain rfl:=g2.symm;clear E v0;go_wp2_with fail;refine (iG e (w+1) d0 v _ H0.r).mono ?_;rintro a u4 ⟨H1,r2,s2,rfl,t2,c1,I1,_,v4⟩;have l0:=H0.ret t2 I1 j k;have j3:=l0.x.c 7;have w4:=l0.x.free 7;have I0:=l0.put 7 (.string ⟨H1.toArray⟩) j k;unfold mkS;go_wp2_with fail;refine (lS e (w+1) r2 s2 _ I0.r).mono ?_;rintro a x4 ⟨J1,u2,v2,rfl,w2,d1,K1,_,y4⟩;have m0:=I0.ret w2 K1 j k;have k3:=m0.x.c 8;have z4:=m0.x.free 8;have J0:=m0.put 8 (.int .i64 (J1:Nat)) j k;unfold mkN;go_wp2_with fail;refine (iG e (w+1) u2 v2 _ J0.r).mono ?_;rintro a A4 ⟨L1,x2,y2,rfl,A2,e1,M1,_,B4⟩;have n0:=J0.ret A2 M1 j k;have C4:=n0.x.c 9;have g3:=n0.x.free 9;have Y0:=n0.put 9 (.string ⟨L1.toArray⟩) j k;unfold mkS;go_wp2_with fail;have g1:=H0.own l0 I1 7 (.string ⟨H1.toArray⟩) L0 (by decide) (by decide);have e0:=I0.own m0 K1 8 (.int .i64 (J1:Nat)) g1 (by decide) (by decide);have O2:=J0.own n0 M1 9 (.string ⟨L1.toArray⟩) e0 (by decide) (by decide);go_meet;exact ⟨3,none,[],0,none,[],0,_,D,f,J,_,_,_,_,_,x2,y2,Y0,D9,D9,RdN.own O2,by decide,by have:=F0.out;omega,qI (fun q B0=>by have:=A3.out q B0;unfold maxLen;omega),qI (by simp),fJ (by
     have h:=uG m2.out f5 (oU c1.out d1.out e1.out);rw [X0] at h;rw [oH];exact h)⟩
  have r0:Hid ( ∀n:UInt8,x≠n->((x.toNat:Nat):Int)≠n.toNat):=fun n h a=>h (C9.1 qO);have o2:((x.toNat:Int)==1)=false:=beq_eq_false_iff_ne.2 (r0 1 h1);have t4:((x.toNat:Int)==2)=false:=beq_eq_false_iff_ne.2 (r0 2 h2);have j3:((x.toNat:Int)==3)=false:=beq_eq_false_iff_ne.2 (r0 3 h3);have k3:((x.toNat:Int)==4)=false:=beq_eq_false_iff_ne.2 (r0 4 U);go_wp2_with fail;go_meet;refine ⟨x.toNat,none,[],0,none,[],0,_,none,[],0,_,_,_,_,_,o,false,B,D9,D9,D9,by decide,by decide,qI (by simp),qI (by simp),?_⟩;unfold Hid;rw [if_neg (fun h=>by
   rcases jK h.2.1 with a0 | a0 | a0 | a0
   ·exact r0.out 1 h1 a0
   ·exact r0.out 2 h2 a0
   ·exact r0.out 3 h3 a0
   ·exact r0.out 4 U a0)]
  unfold aZ;rw [show jE (x::l)=none from by show cu x l=none;unfold cu;rw [if_neg h1,if_neg h2,if_neg h3,if_neg U]]
 case rest=>
 as_aux_lemma=>
 obtain ⟨t,C,d,R,H,g,T,I,D,f,J,K,L,M,N,O,d0,v,s0,D1,G3,H3,I3,J3,h5,f1,W2⟩:=hcut;obtain ⟨K3,v0,z2,L3,M3,z5,N3,O3,P3,Q3⟩:=bg s0.x;have R3:=qI (uV t C d R H g T I D f J K L M N O wc D1.1 G3.1 H3.1 I3 J3 f1);have X5:=s0.b.size;clear B;go_wp2_with fail;refine R3.mono ?_;intro a t1 O0;obtain ⟨W,X1,S3,T3,U3,rfl,V3,R0,X2⟩:=O0.any;clear O0 R3 K3 v0 z2 L3 M3 z5 N3 O3 P3 Q3;have i5:=s0.r.below W;have W3:=s0.z.below W s0.z.lt;have j5:=s0.x.below W s0.x.lt;have S0:=e2.trans ((s0.b.mono qO).trans (W.mono qO));have Y5:=W.size;obtain ⟨Z5,a6,E,_⟩:=id i5;have V1:=E.c 1;have X3:Rd t1 t1 1 (some ⟨w1,x1,none⟩) (x::l).length (bc (x::l)):=by
  have:=(V0.below S0).more S0.size;rwa [e3] at this
 have Y3:Hid (n=(x::l).length):=qI (by rw [List.length_cons];exact e3.out);obtain ⟨Z3,a4⟩:=gX (ay geS ⟨t,d,g,I,f,K,L,M,N,O⟩);rw [<-a4] at R0 X2 W2;have HEL:=qI X2;have HDec:=qI W2.out;clear a4 X2 W2 V0;go_upto_region 34 with (fail);go_cut [140] (fun V2 j0=> ∃Y1:Bool,V2= .bool Y1/\Hid (Y1=false↔(v=false/\Z3=true/\X1=x::l))/\j0=t1)
 case first=>
  cases v with
  | true=>
   clear R0;go_wp2_with fail;go_meet;exact ⟨true,rfl,(by unfold Hid;simp),rfl⟩
  | false=>
  cases Z3 with
  | false=>
   have Q0:(U3 !=0)=true:=by rw [R0];rfl
   clear R0;go_wp2_with fail;go_meet;exact ⟨true,rfl,(by unfold Hid;simp),rfl⟩
  | true=>
  have Q0:(U3 !=0)=false:=by rw [R0];rfl
  clear R0;by_cases T0:X1=x::l
  ·have B0:=nr S3 X1 T3 (some ⟨w1,x1,none⟩) (x::l) c t1 _ _ V3 X3 (qI T0);rw [<-Y3] at B0;have Y2:=qI T0;clear T0;go_wp2_with fail;refine B0.mono ?_;rintro a Z ⟨rfl,rfl⟩;go_wp2_with fail;go_meet;exact ⟨false,rfl,(by unfold Hid;simp [Y2.out]),rfl⟩
  have B0:=FC S3 X1 T3 (some ⟨w1,x1,none⟩) (x::l) c t1 _ _ V3 X3 T0;rw [<-Y3] at B0;have Y2:=qI T0;clear T0;go_wp2_with fail;refine B0.mono ?_;rintro a Z ⟨rfl,rfl⟩;go_wp2_with fail;go_meet;exact ⟨true,rfl,(by unfold Hid;simp [Y2.out]),rfl⟩
 case rest=>
 obtain ⟨Y1,rfl,ht,k5⟩:=hcut;obtain rfl:=k5.symm;cases Y1 with
 | true=>
  have Z2:Hid (aZ geS (x::l)=none):=by
   exact z167
  go_wp2_with ((refine dy (by rfl) _ (.tmp 2) (.tmp 141) rfl w.heap.size zcells rfl rfl 40 zcells W3 qkR rfl (by decide) ?_;intro a3 b3 U0));have v1:=Go.run_loadVar_row (P:=an) a3 w 40 40 zcells.toArray (0,0) _ b3 Go.Proofs.Tryz.underlying40 rfl qkR;rw [Z2];refine bodyPost_ret (v:=.tuple #[.agg zcells.toArray,.int .i64 2]) ?_ rfl ⟨rfl,S0.grown U0 S0.size (fun t f0=>by cases f0;exact lR _)⟩;simp [results,Tryz.results124,asAddr,v1]
 | false=>
 have Z2:Hid (aZ geS (x::l)=some ⟨t,d,g,I,f,K,L,M,N,O⟩):=by
  exact z190
 obtain ⟨K3,v0,z2,L3,M3,z5,N3,O3,P3,Q3⟩:=bg j5;go_wp2_with ((refine dy (by rfl) _ (.tmp 2) (.tmp 142) rfl w.heap.size [.int .i64 t,.slice C d R,.slice H g T,.string I,.slice D f J,.string K,.string L,.string M,.int .i64 N,.string O] rfl rfl 40 zcells W3 qkR rfl (gn _ _ _ _ _ _ _ _ _ _ rfl rfl rfl) ?_;intro a3 b3 U0));have v1:=Go.run_loadVar_row (P:=an) a3 w 40 40 #[.int .i64 t,.slice C d R,.slice H g T,.string I,.slice D f J,.string K,.string L,.string M,.int .i64 N,.string O] (0,0) _ b3 Go.Proofs.Tryz.underlying40 rfl qkR;rw [Z2];have l5:=S0.grown U0 S0.size (fun t f0=>by cases f0;exact lR _);refine bodyPost_ret (v:=.tuple #[.agg #[.int .i64 t,.slice C d R,.slice H g T,I,.slice D f J,K,L,M,N,O],i0]) ?_ rfl ⟨t,C,d,R,H,g,T,I,D,f,J,K,L,M,N,O,rfl,rfl,(((D1.below W).apart U0 qO).lower qO),(((G3.below W).apart U0 qO).lower qO),(((H3.below W).apart U0 qO).lower qO),l5,I3,J3,h5⟩;simp [results,Tryz.results124,asAddr,v1]
theorem iv (A b c w) (d:Rd w w.heap.size 1 A b.length (bc b)) (e:b.length<=c) (f:c<=maxLen) (g:b.length<=kab):
  Calls an 124 #[.slice A b c] w (gW w (aZ geS b)):=by
 cases b with
 | nil=>exact FD A c w
 | cons h a=>
 have i:a.length<=140737488351231:=by rw [List.length_cons] at g;omega
 exact FG A h a _ c w rfl d e f i
