/- Walks and laws. Conditions: as stated. -/
import Derived.Test.YtecpbcmpncgokaaGreatTwo
set_option maxRecDepth 99999
set_option maxHeartbeats 25600000
set_option linter.all false
open Go.RowKit Go.Dol
namespace Go.Proofs.YtecpbcmpncgokaaGreat
def LV (s:List Op10) (g m d:Nat) (w:World) (e f i:Value) (wr:World):Prop:=
 ∃(a:Nat) (b:Dk) (gs h j c:Nat) (k:List PkA),e= .pointer (some gs)/\f= .pointer (some c)/\i= .int .i64 a/\a<=s/\a<=30/\OkG (kad+a) 140737488351232 b/\Two wr w gs g m h j d c b k/\Below w w wr
theorem FZ (cap A fs c As s cs w) (U2:(Lit.int .i64 cap).wf=true) (M1:Rd w w.heap.size 2 A fs.length (fc fs)) (N1:Fls8 w w.heap.size fs) (V2:fs.length<=kad) (O1: ∀x∈fs,x.n.size<=140737488351232/\x.b.length<=140737488351232)
  (a1:Rd w w 15 As s.length (o10 s)) (b1: ∀x∈s,OpR10 w w x) (Z4:s.length<=kab) (c1: ∀x∈s,x.o.en.length<=kab/\x.o.pa.length<=kab/\x.l.length<=kab/\x.id.size<=kad):
  Calls Tryz.prog 4 #[.int .i64 cap,.slice A fs c,.slice As s cs] w fun e w'=>e= .returned true/\Below w w w':=by
 clear U2;have HA:=qI (yP w);obtain ⟨P1,d1⟩:=gY (bits .and .i64 cap 1048575);have Q1:=LW cap 20 1048575 rfl qO;rw [d1] at Q1;go_in;go_wp2_with fail;refine HA.mono ?_;rintro e W2 ⟨rfl,hb1⟩;clear HA;have e1:=hb1.size;have HBo:=qI (ri cap A fs fs c rfl W2 ((M1.belowW hb1 (lR _)).more e1) ((N1.below hb1).more e1) qO (fun x Z=>by have:=O1 x Z;omega) P1 Q1 d1);obtain ⟨X2,hld⟩:=gX (cE P1 (fs.map FilA.f));rw [<-hld] at HBo;obtain ⟨a0,ec⟩:=X2;clear d1 M1 N1;cases a0 with
 | none=>
  exact z141
 | some r0=>
 obtain ⟨f1,_,_,_,_⟩:=tj hld.symm V2 O1;have s0:OkG kac kab r0:=f1.mono qO (lR _);clear hld;go_wp2_with fail;refine HBo.mono ?_;rintro e w2 ⟨E,I,z,rfl,R1,t0,Y2,Z2,a3,hb2⟩;have u0:=hb1.next hb2;have g1:w<=E:=qO;have h1:w<=I:=qO;have b3:w<=z:=qO;have K:=qI (ku R1 s0);obtain ⟨c3,P⟩:=gX (ai geS r0.l);rw [<-P] at K;clear Y2 Z2 a3 hb1 hb2 e1 HBo;cases c3 with
 | none=>
  have d3:=qI P;clear P a1 b1 c1;go_wp2_with fail;refine K.mono ?_;rintro e e3 ⟨v,rfl⟩;have F:=qI (kh (t0.below v) s0);rw [<-d3] at F;go_wp2_with fail;refine F.mono ?_;rintro e i1 ⟨G,rfl⟩;have v0:=(u0.next v).next G;go_wp2_with fail;go_loopw [10,12,14] (fun b0 c0 d0 wr=>b0= .pointer none/\c0= .pointer none/\wr=i1) (fun _ _ d0 _=>0)
  case atStart=>exact ⟨rfl,rfl,rfl⟩
  case round=>
   obtain ⟨rfl,rfl,hwr⟩:=hrel;obtain rfl:=hwr.symm;go_wp2_with fail;go_ret;exact ⟨rfl,v0⟩
 | some a5=>
 go_wp2_with fail;refine K.mono ?_;rintro e e3 ⟨v,r,Q,R,S,S1,rfl,f3,g3,h3,T1⟩;have U1:=t0.below v;have F:=qI (kh U1 s0);rw [<-P] at F;have i3:=t0.lt;go_wp2_with fail;refine F.mono ?_;rintro e i1 ⟨G,B,rfl,j3,V1⟩;have k3:=u0.size;have l3:=v.size;have v0:=(u0.next v).next G;have L:Two i1 w r E I Q R z B r0 S:=⟨T1.below G,V1,by rw [S1];exact P.symm,⟨qO,g1,h1,qO,qO,b3,qO⟩,qO⟩;clear P S1 f3 g3 h3 T1 U1 G j3 V1 k3 l3 R1 t0 u0 v K F s0 i3;go_wp2_with fail;go_loopw [10,12,14] (fun b0 c0 d0 wr=>LV s E I z w b0 c0 d0 wr) (fun _ _ d0 _=>s-(intOf d0).toNat)
 case atStart=>exact ⟨0,r0,r,Q,R,B,S,rfl,rfl,rfl,zL,qO,f1,L,v0⟩
 case round=>
  clear L v0 f1;obtain ⟨a,M,r,Q,R,B,S,rfl,rfl,rfl,b5,c5,j1,L,e0⟩:=hrel;have d5:=e0.size;have m3:=qiJ (a+1);by_cases f0:a<s/\a<30
  ·obtain ⟨n3,e5⟩:=f0;have W1:=dtX ((a:Int)<s);have X1:=ltI a s.length;have o3:=dtX ((a:Int)<30);have p3:(a:Int)<30:=qO;have f5:=zeI a;obtain ⟨x,Z⟩: ∃x,s[a]?=some x:=⟨s[a],gE n3⟩;have k1:=g8 Z;obtain ⟨j,k,rfl,g0,Y1⟩:=(a1.below e0).at_ qO;have m: ∀N l1,N<15->x.cells[N]?=some l1->wr.cell? ⟨j,k+a*15+N,none⟩=some l1:=fun N l1 q3 w0=>by
    rw [OH];exact Y1 _ _ ((pn Z N q3).trans w0)
   have m1:=b1 x k1;have Z1:=c1 x k1;have a2:x.n<=kal:=by have:=m1.2.2;simp [Lit.wf] at this;omega
   obtain ⟨h0,i0⟩:=gX (wr.alloc (.cells x.cells.toArray 43));have g:Blk h0 wr 43 x.cells:=by rw [i0];exact o9 wr 43 _
   have n1:Below wr wr h0:=by rw [i0];exact (bR wr wr).alloc (lR _) _
   have j0:=e0.next n1;have b2:Hid (∀i,Below w w i->pq i w x):=fun i x0=>m1.step Z1 x0;have k0: ∀{i r Q R B S},Two i w r E I Q R z B M S->Below w w i->Calls Tryz.prog 19 #[.pointer (some ⟨r,0,none⟩),.pointer (some ⟨B,0,none⟩),.agg x.cells.toArray] i (yp w r E I z B (kad+a) i):=fun h x0=>yy h j1 qO x0.size x (b2.out _ x0);obtain ⟨l0,y0,H,⟨z0,A0,B0,C0,D0,E0,F0,G0,H0,I0,J0,K0,L0,M0,N0,O0⟩,P0,Q0,R0,S0⟩:=x;simp only at a2;change h0=wr.alloc (.cells #[l0,y0,H,z0,.slice A0 B0 C0,.slice D0 E0 F0,G0,.slice H0 I0 J0,K0,L0,M0,N0,O0,P0,.slice Q0 R0 S0] 43) at i0;change Blk h0 wr.heap.size 43 [l0,y0,H,z0,.slice A0 B0 C0,.slice D0 E0 F0,G0,.slice H0 I0 J0,K0,L0,M0,N0,O0,P0,.slice Q0 R0 S0] at g;have r3:wr.cell? ⟨j,k+a*15,none⟩=some (.int .i64 l0):=m 0 _ (by decide) rfl;have s3:wr.cell? ⟨j,k+a*15+1,none⟩=some (.int .i64 y0):=m 1 _ (by decide) rfl;have t3:wr.cell? ⟨j,k+a*15+2,none⟩=some (.int .i64 H):=m 2 _ (by decide) rfl;have u3:wr.cell? ⟨j,k+a*15+3,none⟩=some (.int .i64 z0):=m 3 _ (by decide) rfl;have v3:wr.cell? ⟨j,k+a*15+4,none⟩=some (.slice A0 B0 C0):=m 4 _ (by decide) rfl;have w3:wr.cell? ⟨j,k+a*15+5,none⟩=some (.slice D0 E0 F0):=m 5 _ (by decide) rfl;have x3:wr.cell? ⟨j,k+a*15+6,none⟩=some (.string G0):=m 6 _ (by decide) rfl;have y3:wr.cell? ⟨j,k+a*15+7,none⟩=some (.slice H0 I0 J0):=m 7 _ (by decide) rfl;have z3:wr.cell? ⟨j,k+a*15+8,none⟩=some (.string K0):=m 8 _ (by decide) rfl;have A3:wr.cell? ⟨j,k+a*15+9,none⟩=some (.string L0):=m 9 _ (by decide) rfl;have B3:wr.cell? ⟨j,k+a*15+10,none⟩=some (.string M0):=m 10 _ (by decide) rfl;have C3:wr.cell? ⟨j,k+a*15+11,none⟩=some (.int .i64 N0):=m 11 _ (by decide) rfl;have D3:wr.cell? ⟨j,k+a*15+12,none⟩=some (.string O0):=m 12 _ (by decide) rfl;have E3:wr.cell? ⟨j,k+a*15+13,none⟩=some (.string P0):=m 13 _ (by decide) rfl;have F3:wr.cell? ⟨j,k+a*15+14,none⟩=some (.slice Q0 R0 S0):=m 14 _ (by decide) rfl;have T:=L.below n1;have g5:=L.sto.dk.lt;have h5:=L.rst.dk.lt;have G3:wr≠E:=qO;have H3:wr≠I:=qO;have I3:some wr.heap.size≠some z:=fun e=>by injection e with e;omega
   clear Y1 m Z k1 a1 b1 c1 m1 Z1 L b2;go_upto_region 13 with (fail);rw [<-i0];clear i0 r3 s3 t3 u3 v3 w3 x3 y3 z3 A3 B3 C3 D3 E3 F3 n1 e0;obtain ⟨q,c2⟩:=gY (bits .and .i64 l0 7);have d2:=g.c 0;go_upto_block 2 with (fail);clear d2;go_cut [10,12] (fun b0 c0 T0=> ∃(d:Dk) (U0 m0 n0 V0:Nat) (U:List PkA),b0= .pointer (some U0)/\c0= .pointer (some V0)/\OkG (kad+(a+1)) 140737488351232 d/\Two T0 w U0 E I m0 n0 z V0 d U/\Below w w T0)
   case first=>
    have W0:=T.sto.dk;have e2:=T.rst.dk;have f2:OkG (kad+(a+1)) 140737488351232 M:=j1.mono qO (lR _);by_cases o1:q=6
    ·as_aux_lemma=>
     subst o1;obtain ⟨g2,d,C⟩: ∃g2 J3,dm M H=(g2,J3):=⟨_,_,rfl⟩;have o0:d.l=M.l:=by
      have:d=(dm M H).2:=by rw [C]
      rw [this];unfold dm;split
      ·rfl
      split<;>rfl
     have D:OkG (kad+(a+1)) 140737488351232 d:=by have:=f2.cut a2;rw [C] at this;exact this
     have X0:=qI C;have p1:=qI o0;clear C o0 k0;have i5:=g.c 2;go_wp2_with fail;go_region_held3 (fun w'=>w'.cell? ⟨wr,2,none⟩=some (.int .i64 H)) (first | go_keep | assumption)
      (first
       | (go_at_call 25;(with_reducible refine (BS W0.drew H).mono ?_);rw [X0.out];rintro e h2 ⟨rfl,q1,J⟩;have i2:=Blk.tw g.drew J G3 H3;have K3:=i2.c 2;have r1:=e2.drew.tw W0.drew J;have t:=Tw.new j0.drew J g1 h1)
       | (go_at_call 26;(with_reducible refine (JJ r1 H).mono ?_);rw [X0.out];rintro e L3 ⟨rfl,V,W⟩;have M3:=i2.grown W I3;have N3:=M3.c 2;have O:=(T.below (bR _ _).drew).turn p1.out q1 J V W))
     have X:=t.grown W t.size (fun N e=>by injection e with e;omega);go_wp2_with fail;go_meet;exact ⟨d,r,Q,R,B,S,rfl,rfl,D,O,X⟩
    by_cases s1:q=7
    ·as_aux_lemma=>
     subst s1;have O3:((7:Int)==6)=false:=rfl;obtain ⟨d,C⟩:=gY (onD M);have o0:d.l=M.l:=by rw [<-C];rfl
     have D:OkG (kad+(a+1)) 140737488351232 d:=by rw [<-C];exact f2.on
     have j2:OkG kac kab d:=D.mono qO (lR _);have k2:=qI (BU W0);rw [C] at k2;have X0:=qI C;have p1:=qI o0;clear k0 C o0;go_wp2_with fail;refine k2.mono ?_;rintro e h2 ⟨rfl,q1,J⟩;have r1:=e2.tw W0 J;have t:=Tw.new j0 J g1 h1;have l2:=qI (JI r1);rw [X0] at l2;go_wp2_with fail;refine l2.mono ?_;rintro e L3 ⟨rfl,V,W⟩;have O:=T.turn p1.out q1 J V W;have X:=t.grown W t.size (fun N e=>by injection e with e;omega);have K:=qI (ku O.sto.dk j2);rw [O.pk] at K;go_wp2_with fail;refine K.mono ?_;rintro e j5 ⟨p0,P3,Q3,R3,S3,T3,rfl,U3,V3,W3,t1⟩;have F:=qI (kh (O.rst.dk.below p0) j2);rw [O.pk] at F;go_wp2_with fail;refine F.mono ?_;rintro e k5 ⟨Y,X3,rfl,Y3,Z3⟩;have a4:=O.anew X.size T3 U3 V3 W3 t1 p0 Y3 Z3 Y;go_wp2_with fail;go_meet;exact ⟨d,P3,Q3,R3,X3,S3,rfl,rfl,D,a4,(X.next p0).next Y⟩
    as_aux_lemma=>
    have O3:=beq_eq_false_iff_ne.2 o1;have l5:=beq_eq_false_iff_ne.2 s1;have m2:=qI (k0 T j0);change Calls Tryz.prog 19 #[.pointer (some r),.pointer (some B),.agg #[l0,y0,H,z0,.slice A0 B0 C0,.slice D0 E0 F0,G0,.slice H0 I0 J0,K0,L0,M0,N0,O0,P0,.slice Q0 R0 S0]] h0 _ at m2;clear k0 o1 s1 c2;have d2:=g.c 0;have m5:=g.c 1;have z2:=g.c 2;have n5:=g.c 3;have o5:=g.c 4;have z5:=g.c 5;have p5:=g.c 6;have q5:=g.c 7;have r5:=g.c 8;have s5:=g.c 9;have t5:=g.c 10;have u5:=g.c 11;have v5:=g.c 12;have w5:=g.c 13;have x5:=g.c 14;go_wp2_with fail;refine m2.mono ?_;rintro e h2 ⟨rfl,t,d,m0,n0,U,u,D⟩;go_wp2_with fail;go_meet;exact ⟨d,r,m0,n0,B,U,rfl,rfl,D,u,j0.trans t⟩
   case rest=>
   as_aux_lemma=>
   obtain ⟨d,U0,m0,n0,V0,U,rfl,rfl,D,u,n2⟩:=hcut;have o2:OkG kac kab d:=D.mono qO (lR _);have u1:OkW d:=o2.mono (lR _) (by decide);have p2:=OkW.toL u1;have b4:d.l.length<=2000000:=by have:=D.len;omega
   obtain ⟨y5,c4,d4,q2,r2⟩:=u.few b4;have v1:=qI u.pk;have e4:(U.map PkA.pk).length<=kae:=by rw [g7];omega
   have s2:=u.sto.mem (n:=w.heap.size) u.lo.2.2.2.2.1 u.lo.2.2.2.1;have f4:=qI s2;have t2:=And.intro u.lo u.lt;obtain ⟨a0,w1⟩:=gX (bo d.done);have g4: ∀i,Dsk i E I d->Calls Tryz.prog 29 #[.pointer (some E)] i fun e w'=>e= .returned a0/\w'=i:=by rw [w1];exact fun i h=>ob h
   have y: ∀i,Rdk i z d->i.cell? ⟨z,2,none⟩=some (.int .i64 a0):=by
    intro i h;obtain ⟨A5,B5,C5,_,_,h4,_⟩:=h.row;rw [w1];exact h4
   have u2: ∀(r:List FilA),Hid (r.map FilA.f=d.l)->r.length<=kac:=by
    intro r i4;have j4:=congrArg List.length i4.out;rw [g7] at j4;omega
   have v2:=u.sto.below (bR _ _).drew;have V:=u.rst.below (bR _ _).drew;have X:=n2.drew;have K3:=y _ V.dk;clear w1 s2 T g k0 u n2 j0 j1 c2;go_upto_region 26 with (fail);go_region_held3 (fun w'=>w'.cell? ⟨z,2,none⟩=some (.int .i64 a0)) (first | go_keep | assumption)
    (first
     | (go_at_call 29;(with_reducible refine (g4 _ v2.dk).mono ?_);rintro e D5 ⟨rfl,k4⟩;obtain rfl:=k4.symm)
     | (go_at_call 21;(with_reducible refine (kt v2 u1 c4 qO d4).mono ?_);rintro e E5 ⟨x1,l4,m4,rfl,y1,n4,t1,x2⟩;have z1:=V.twI x2;have N3:=y _ z1.dk;have F5:x1.length<=kab:=(by rw [y1.out];exact q2);have p0:=TwI.new X x2 f4.out)
     | (go_at_call 30;(with_reducible refine (xq z1 o2 v1.out e4 qO).mono ?_);rintro e A1 ⟨B1,o4,p4,y2,rfl,q4,hb2⟩;have A2:=z1.below hb2;have G5:=y _ A2.dk;have H5:B1.length<=kab:=(by rw [y2.out];exact q2);have r4:Hid (x1=B1):=(by unfold Hid;rw [y1.out,y2.out]))
     | (go_at_call 20;(with_reducible refine (jG l4 x1 m4 o4 B1 p4 A1 _ _ (d8 (az n4 hb2)) (d8 q4) qO qO).mono ?_);rintro e s4 ⟨t4,nq,rfl,w0,B2⟩;obtain rfl:t4=true:=w0.2 r4.out;have v:Below A1 A1 s4:=(by rw [B2];exact (bR _ _).drewN' nq);have C2:=A2.below v;have I5:=y _ C2.dk;have D2:=(t1.below hb2).below v;clear w0 B2)
     | (go_at_call 22;(with_reducible refine (qY D2 qO v1.out).mono ?_);rintro e J5 ⟨C1,u4,v4,E2,rfl,w4,G⟩;have D1:=C2.below G;have K5:=y _ D1.dk;have L5:C1.length<=2000000:=(by rw [E2.out];exact r2))
     | (go_at_call 31;(with_reducible refine (mA D1 u1).mono ?_);rintro e E1 ⟨F1,x4,y4,F2,rfl,z4,t⟩;have G2:=D1.below t;have M5:=y _ G2.dk;have N5:F1.length<=2000000:=(by rw [F2.out];exact r2);have A4:Hid (C1=F1):=(by unfold Hid;rw [E2.out,F2.out]))
     | (go_at_call 20;(with_reducible refine (jG u4 C1 v4 x4 F1 y4 E1 _ _ (d8 (az w4 t)) (d8 z4) qO qO).mono ?_);rintro e B4 ⟨C4,D4,rfl,H2,I2⟩;obtain rfl:C4=true:=H2.2 A4.out;have Y:Below E1 E1 B4:=(by rw [I2];exact (bR _ _).drewN' D4);have J2:=G2.below Y;have O5:=y _ J2.dk;have K2:=((D2.below G).below t).below Y;clear H2 I2)
     | (go_at_call 34;(with_reducible refine (BG K2.dk p2).mono ?_);rintro e E4 ⟨L2,F4,G4,M2,rfl,H4,I4,G1⟩;have N2:=J2.below G1;have P5:=y _ N2.dk;have O2:=u2 L2 M2)
     | (go_at_call 33;(with_reducible refine (LX F4 L2 G4 E4 (d8 H4) O2).mono ?_);rintro e Q5 ⟨Y0,J4,K4,H1,rfl,L4,g0⟩;have I1:=N2.below g0;have R5:=y _ I1.dk;have M4:=I4.below g0)
     | (go_at_call 35;(with_reducible refine (xB I1.dk p2).mono ?_);rintro e Z0 ⟨J1,N4,O4,P2,rfl,P4,Q4,q0⟩;have Q2:=I1.below q0;have S5:=y _ Q2.dk;have T5:=u2 J1 P2;have U5:Y0.length<=kac:=(by rw [H1.out];exact O2);have R4:Fls8 Z0 0 Y0:=(by rw [H1.out];exact M4.below q0);have S4:Hid (Y0.map FilA.f=J1.map FilA.f):=(by unfold Hid;rw [H1.out,M2.out,P2.out]))
     | (go_at_call 32;(with_reducible refine (Cx J4 Y0 K4 N4 J1 O4 Z0 _ _ _ _ (d8 (az L4 q0)) (d8 P4) R4 Q4 qO qO).mono ?_);rintro e T4 ⟨U4,V4,rfl,R2,S2⟩;obtain rfl:U4=true:=R2.2 S4.out;have K1:Below Z0 Z0 T4:=(by rw [S2];exact (bR _ _).drewN' V4);have T2:=Q2.below K1;have V5:=y _ T2.dk;have W4:=(((K2.below G1).below g0).below q0).below K1;clear R2 S2))
   go_wp2_with fail;exact ⟨⟨a+1,d,U0,m0,n0,V0,U,rfl,rfl,by go_num,qO,qO,D,⟨W4,T2,v1.out,t2.1,t2.2⟩,((((((((p0.next hb2).next v).next G).next t).next Y).next G1).next g0).next q0).next K1⟩,by simp [intOf];omega⟩
  have L1: ¬((a:Int)<s/\(a:Int)<30):=fun h=>f0 ⟨qO,qO⟩;go_upto_region 10 with (fail);go_cut [65] (fun X4 T0=>X4= .bool false/\T0=wr)
  case first=>
   by_cases y1:a<s
   ·have W1:=dtX ((a:Int)<s);have X1:=ltI a s.length;have o3:=dfX ((a:Int)<30);have p3: ¬(a:Int)<30:=qO;clear L1 f0;exact z68
   have W1:=dfX ((a:Int)<s);have X1: ¬(a:Int)<s:=qO;clear L1 f0;exact z68
  case rest=>
  obtain ⟨rfl,Y4⟩:=hcut;obtain rfl:=Y4.symm;clear L1 f0 m3;go_wp2_with fail;go_ret;exact ⟨rfl,e0⟩
