/- Walks and laws. Conditions: as stated. -/
import Derived.Test.YtecpbcmpncgokaaGreatTwo
set_option maxRecDepth 99999
set_option maxHeartbeats 25600000
set_option linter.all false
open Go.RowKit Go.Dol
namespace Go.Proofs.YtecpbcmpncgokaaGreat
def LR (s:List Op10) (gs g m c d:Nat) (w:World) (i:Value) (wr:World):Prop:=
 ∃(a:Nat) (b:Dk) (e f:Nat) (h:List PkA),i= .int .i64 a/\a<=s/\a<=20/\OkG (kad+a) 140737488351232 b/\Two wr w gs g m e f c d b h/\Below w w wr
def LS (n:Nat) (a:World) (i:Value) (wr:World):Prop:=∃ b:Nat,i= .int .i64 b/\b<=n/\Below a a wr
theorem FY (A fs c As s cs w) (Q0:Rd w w.heap.size 2 A fs.length (fc fs)) (R0:Fls8 w w.heap.size fs) (l2:fs.length<=kad) (S0: ∀x∈fs,x.n.size<=140737488351232/\x.b.length<=140737488351232)
  (P:Rd w w 15 As s.length (o10 s)) (Q: ∀x∈s,OpR10 w w x) (a4:s.length<=kab) (R: ∀x∈s,x.o.en.length<=kab/\x.o.pa.length<=kab/\x.l.length<=kab/\x.id.size<=kad):
  Calls Tryz.prog 3 #[.slice A fs c,.slice As s cs] w fun e w'=>e= .returned true/\Below w w w':=by
 have T0:=qI (yP w);go_in;go_wp2_with fail;refine T0.mono ?_;rintro e m2 ⟨rfl,hb1⟩;clear T0;have e0:=hb1.size;have HBo:=qI (ri 1048575 A fs fs c rfl m2 ((Q0.belowW hb1 (lR _)).more e0) ((R0.below hb1).more e0) qO (fun x G=>by have:=S0 x G;omega) 1048575 qO (by rfl));obtain ⟨n2,hld⟩:=gX (cE 1048575 (fs.map FilA.f));rw [<-hld] at HBo;obtain ⟨o2,ec⟩:=n2;clear Q0 R0;cases o2 with
 | none=>
  exact z141
 | some S=>
 obtain ⟨f0,_,_,_,_⟩:=tj hld.symm l2 S0;have T:OkG kac kab S:=f0.mono qO (lR _);clear hld;go_wp2_with fail;refine HBo.mono ?_;rintro e w2 ⟨g0,h0,i0,rfl,U0,U,p2,q2,r2,hb2⟩;have V:=hb1.next hb2;have s2:w<=g0:=qO;have t2:w<=h0:=qO;have u2:w<=i0:=qO;have q:=qI (ku U0 T);obtain ⟨v2,C⟩:=gX (ai geS S.l);rw [<-C] at q;clear p2 q2 r2 hb1 hb2 e0 HBo;cases v2 with
 | none=>
  have x2:=qI C;clear C P Q R;go_wp2_with fail;refine q.mono ?_;rintro e y2 ⟨v,rfl⟩;have D:=qI (kh (U.below v) T);rw [<-x2] at D;go_wp2_with fail;refine D.mono ?_;rintro e V0 ⟨H,rfl⟩;have W:=(V.next v).next H;go_wp2_with fail;go_ret;exact ⟨rfl,W⟩
 | some b4=>
 go_wp2_with fail;refine q.mono ?_;rintro e y2 ⟨v,j0,X,Y,I,W0,rfl,z2,A2,B2,X0⟩;have Y0:=U.below v;have D:=qI (kh Y0 T);rw [<-C] at D;have C2:=U.lt;go_wp2_with fail;refine D.mono ?_;rintro e V0 ⟨H,k0,rfl,D2,Z0⟩;have E2:=V.size;have F2:=v.size;have W:=(V.next v).next H;have m:Two V0 w j0 g0 h0 X Y i0 k0 S I:=⟨X0.below H,Z0,by rw [W0];exact C.symm,⟨qO,s2,t2,qO,qO,u2,qO⟩,qO⟩;clear C W0 z2 A2 B2 X0 Y0 H D2 Z0 E2 F2 U0 U V v q D T C2;go_wp2_with fail;go_loopw [12] (fun i wr=>LR s j0 g0 h0 i0 k0 w i wr) (fun i _=>s-(intOf i).toNat)
 case atStart=>exact ⟨0,S,X,Y,I,rfl,zL,qO,f0,m,W⟩
 case round=>
  clear m W f0;obtain ⟨a,E,X,Y,I,rfl,G2,H2,y,m,r⟩:=hrel;have c4:=r.size;have l0:=qiJ (a+1);by_cases J:a<s/\a<20
  ·obtain ⟨I2,d4⟩:=J;have a1:=dtX ((a:Int)<s);have b1:=ltI a s.length;have J2:=dtX ((a:Int)<20);have K2:(a:Int)<20:=qO;have e4:=zeI a;obtain ⟨x,G⟩: ∃x,s[a]?=some x:=⟨s[a],gE I2⟩;have m0:=g8 G;obtain ⟨g,j,rfl,n0,c1⟩:=(P.below r).at_ qO;have k: ∀d o0,d<15->x.cells[d]?=some o0->wr.cell? ⟨g,j+a*15+d,none⟩=some o0:=fun d o0 d1 L2=>by
    rw [OH];exact c1 _ _ ((pn G d d1).trans L2)
   have p0:=qI (yy m y qO r.size x ((Q x m0).step (R x m0) r));obtain ⟨q0,e1,f1,⟨g1,h1,i1,j1,k1,l1,m1,n1,o1,p1,q1,r1,s1,t1,u1,v1⟩,w1,x1,y1,z1⟩:=x;change Calls Tryz.prog 19 #[.pointer (some j0),.pointer (some k0),.agg #[q0,e1,f1,g1,.slice h1 i1 j1,.slice k1 l1 m1,n1,.slice o1 p1 q1,r1,s1,t1,u1,v1,w1,.slice x1 y1 z1]] wr _ at p0;have f4:wr.cell? ⟨g,j+a*15,none⟩=some (.int .i64 q0):=k 0 _ (by decide) rfl;have r0:wr.cell? ⟨g,j+a*15+1,none⟩=some (.int .i64 e1):=k 1 _ (by decide) rfl;have A1:wr.cell? ⟨g,j+a*15+2,none⟩=some (.int .i64 f1):=k 2 _ (by decide) rfl;have g4:wr.cell? ⟨g,j+a*15+3,none⟩=some (.int .i64 g1):=k 3 _ (by decide) rfl;have h4:wr.cell? ⟨g,j+a*15+4,none⟩=some (.slice h1 i1 j1):=k 4 _ (by decide) rfl;have i4:wr.cell? ⟨g,j+a*15+5,none⟩=some (.slice k1 l1 m1):=k 5 _ (by decide) rfl;have j4:wr.cell? ⟨g,j+a*15+6,none⟩=some (.string n1):=k 6 _ (by decide) rfl;have k4:wr.cell? ⟨g,j+a*15+7,none⟩=some (.slice o1 p1 q1):=k 7 _ (by decide) rfl;have l4:wr.cell? ⟨g,j+a*15+8,none⟩=some (.string r1):=k 8 _ (by decide) rfl;have m4:wr.cell? ⟨g,j+a*15+9,none⟩=some (.string s1):=k 9 _ (by decide) rfl;have n4:wr.cell? ⟨g,j+a*15+10,none⟩=some (.string t1):=k 10 _ (by decide) rfl;have o4:wr.cell? ⟨g,j+a*15+11,none⟩=some (.int .i64 u1):=k 11 _ (by decide) rfl;have p4:wr.cell? ⟨g,j+a*15+12,none⟩=some (.string v1):=k 12 _ (by decide) rfl;have q4:wr.cell? ⟨g,j+a*15+13,none⟩=some (.string w1):=k 13 _ (by decide) rfl;have r4:wr.cell? ⟨g,j+a*15+14,none⟩=some (.slice x1 y1 z1):=k 14 _ (by decide) rfl;clear c1 k G m0 P Q R;obtain ⟨M2,s4⟩:=gY (bits .and .i64 q0 7);have N2:OkG (kad+(a+1)) 140737488351232 E:=y.mono qO (lR _);by_cases B1:M2<6
   ·have O2:=dT B1;clear y;go_wp2_with fail;refine p0.mono ?_;rintro e P2 ⟨rfl,Z,Q2,R2,S2,T2,U2,V2⟩;go_wp2_with fail;exact ⟨⟨a+1,Q2,R2,S2,T2,by go_num,qO,qO,V2,U2,r.trans Z⟩,by simp [intOf];omega⟩
   have O2:=qF B1;clear p0 y;go_wp2_with fail;exact ⟨⟨a+1,E,X,Y,I,by go_num,qO,qO,N2,m,r⟩,by simp [intOf];omega⟩
  have s0: ¬((a:Int)<s/\(a:Int)<20):=fun h=>J ⟨qO,qO⟩;go_upto_region 10 with (fail);go_cut [60] (fun W2 X2=>W2= .bool false/\X2=wr)
  case first=>
   by_cases t4:a<s
   ·have a1:=dtX ((a:Int)<s);have b1:=ltI a s.length;have J2:=dfX ((a:Int)<20);have K2: ¬(a:Int)<20:=qO;clear s0 J;exact z68
   have a1:=dfX ((a:Int)<s);have b1: ¬(a:Int)<s:=qO;clear s0 J;exact z68
  case rest=>
  as_aux_lemma=>
  obtain ⟨rfl,Y2⟩:=hcut;obtain rfl:=Y2.symm;have C1:OkG kac kab E:=y.mono qO (lR _);have K:OkW E:=C1.mono (lR _) (by decide);have Z2:E.l.length<=2000000:=by have:=y.len;omega
  obtain ⟨u4,L,t0,a3,v4⟩:=m.few Z2;have u0:=qI m.pk;obtain ⟨w4,x4,y4,D1,E1,z4,A4⟩:=m.lo;have v0:=m.sto;have q:=qI (ku v0.dk C1);rw [m.pk] at q;clear s0 J l0 P Q R m y G2 H2;go_wp2_with fail;refine q.mono ?_;rintro e P2 ⟨Z,B4,C4,D4,b3,z,rfl,E4,c3,d3,w0⟩;have x0:=v0.below Z;have y0:=v0.memLt;have e3:=r.next Z;have F4:b3.length<=2000000:=by
   have t:=congrArg List.length z.out;rw [g7,g7] at t;omega
  have F1:=qI (kt x0 K L qO t0);clear q;go_wp2_with fail;refine F1.mono ?_;rintro e G4 ⟨f3,g3,h3,rfl,z0,G1,H1,A0⟩;have a0:=w0.mem (n:=wr.heap.size) c3 d3;have I1:=w0.twO A0 (fun i B M=>by
   have B0:=a0 i B;have m:=y0 i M;omega)
  have i3:=TwI.new e3 A0 (x0.mem (n:=w.heap.size) E1 D1);have J1:=qI (kt I1 K (by rw [z];exact L) qO (by rw [z];exact t0));clear F1 x0 w0;go_wp2_with fail;refine J1.mono ?_;rintro e C0 ⟨j3,k3,l3,rfl,b0,K1,L1,c0⟩;rw [z] at b0;have M1:=H1.twO c0 (fun i B M=>by
   have B0:=a0 i M;have m:=y0 i B;omega)
  have m3:=TwI.new i3 c0 (fun i B=>by
   have B0:=a0 i B;have m:=r.size;omega)
  have N1:=c0.own G1 (by decide) (by decide);have N:=qI (jG g3 f3 h3 k3 j3 l3 C0 _ _ (d8 N1) (d8 K1) (by rw [z0];omega) (by rw [b0];omega));clear J1 H1 I1 A0 c0;go_wp2_with fail;refine N.mono ?_;rintro e n3 ⟨o3,p3,rfl,O1,P1⟩;obtain rfl:o3=true:=O1.2 (by rw [z0,b0]);have D0:Below C0 C0 n3:=by rw [P1];exact (bR _ _).drewN' p3
  have E0:=M1.below D0;have Q1:=L1.below D0;have q3:=m3.next D0;have R1:=qI (qY E0 qO u0.out);clear N O1 M1 L1 G1 K1 N1 P1 z0 b0;go_wp2_with fail;refine R1.mono ?_;rintro e H4 ⟨r3,s3,t3,F0,rfl,S1,G0⟩;have T1:=E0.below G0;have H0:=Q1.below G0;have u3:=q3.next G0;have U1:=qI (qY H0 qO (by rw [z];exact u0.out));clear R1 E0 Q1;go_wp2_with fail;refine U1.mono ?_;rintro e I0 ⟨v3,w3,x3,J0,rfl,V1,d0⟩;have W1:=T1.below d0;have X1:=H0.below d0;have y3:=u3.next d0;have N:=qI (jG s3 r3 t3 w3 v3 x3 I0 _ _ (d8 (az S1 d0)) (d8 V1) (by rw [F0];omega) (by rw [J0];omega));clear U1 T1 H0;go_wp2_with fail;refine N.mono ?_;rintro e z3 ⟨A3,B3,rfl,Y1,Z1⟩;obtain rfl:A3=true:=Y1.2 (by rw [F0,J0]);have K0:Below I0 I0 z3:=by rw [Z1];exact (bR _ _).drewN' B3
  have L0:=W1.below K0;have a2:=X1.below K0;have C3:=y3.next K0;have b2:=qI (kt L0 K L qO t0);clear N Y1 W1 X1 S1 V1 Z1 F0 J0;go_wp2_with fail;refine b2.mono ?_;rintro e D3 ⟨u,I4,J4,rfl,M0,E3,F3,N0⟩;have G3:=a2.twO N0 (fun i B M=>by
   have B0:=a0 i B;have m:=y0 i M;omega)
  have H3:=TwI.new C3 N0 (L0.mem (n:=w.heap.size) E1 D1);have K4:u.length<=kab:=by rw [M0];exact a3
  have c2:=qI (yu u0.out);rw [<-M0] at c2;clear b2 L0 a2 N0 M0;go_wp2_with fail;go_loopw [16] (fun i I3=>LS u D3 i I3) (fun i _=>u-(intOf i).toNat)
  case atStart=>exact ⟨0,rfl,zL,bR _ _⟩
  case round=>
   obtain ⟨d,rfl,d1,F⟩:=hrel;have l0:=qiJ (d+1);by_cases d2:d<u
   ·have J3:=dtX ((d:Int)<u);have L4:=ltI d u.length;have M4:=zeI d;obtain ⟨e2,f2,rfl,K3,g2⟩:=((d8 E3).below F).at_ qO;obtain ⟨O,O0⟩:=gX (u[d]);have r0:wr.cell? ⟨e2,f2+d,none⟩=some (.string O):=g2 _ _ (by rw [sc,m7,gE d2,O0];rfl);have N4:O.size=32:=by rw [O0];exact c2.out _ (NF d2)
    have L3:=F3.below F;have M3:=G3.below F;obtain ⟨O4,h2⟩:=gX (mQ (aP geS E (I.map PkA.pk) O));have i2:=qI h2;have j2:=qI (hV L3 K L qO O qO);clear g2 O0 h2;go_wp2_with fail;refine j2.mono ?_;intro e P4 t;obtain ⟨N3,O3,P3,Q3,rfl,R3,P0⟩:=RetGet.any t;rw [<-i2];have A1:=(P0.cell (p:=⟨e2,f2+d,none⟩) (r9 K3 F.size)).trans r0;have k2:=qI (hV (M3.below P0) K (by rw [z];exact L) qO O qO);clear j2 t r0;go_wp2_with fail;refine k2.mono ?_;intro e S3 t;rw [z] at t;obtain ⟨T3,U3,V3,W3,rfl,X3,n0⟩:=RetGet.any t;rw [<-i2];have Y3:=qI (nr O3 N3 P3 U3 T3 V3 S3 _ _ (R3.below n0) X3 (qI (Q3.out.trans W3.symm)));clear k2 t A1;go_wp2_with fail;refine Y3.mono ?_;rintro e Q4 ⟨rfl,Z3⟩;obtain rfl:=Z3;go_wp2_with fail;exact ⟨⟨d+1,by go_num,qO,(F.next P0).next n0⟩,by simp [intOf];omega⟩
   have J3:=dfX ((d:Int)<u);clear l0;go_wp2_with fail;go_ret;exact ⟨rfl,H3.next F⟩
