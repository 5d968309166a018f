/- Walks and laws. Conditions: as stated. -/
import Derived.Test.YtecpbcmpncgokaaGreatRSt7
import Derived.Test.YtecpbcmpncgokaaGreatRSt5
set_option maxRecDepth 99999
set_option maxHeartbeats 25600000
set_option linter.all false
open Go.RowKit Go.Dol
namespace Go.Proofs.YtecpbcmpncgokaaGreat
def Jp (r:Int×Dk) (e:BA) (ns:List BA) (A:OA) (c gs d:Nat) (w:World) (i:Value) (wr:World):Prop:=
 ∃(a:Nat) (b:Dk),i= .int .i64 a/\a<=ns/\Hid (r=bW b (bX e (ns.drop a)))/\OkW b/\RSto wr gs d b/\wr.ownsRow w 9 1 (.slice A ns c) ns (sc ns)/\w.grownBy wr (some d)
def Jq (r:Int×Dk) (ns:List BA) (A:OA) (c gs d:Nat) (w:World) (i:Value) (wr:World):Prop:=
 ∃(a:Nat) (b:Dk),i= .int .i64 a/\a<=ns/\Hid (r=cB b (ns.drop a))/\OkW b/\RSto wr gs d b/\wr.ownsRow w 9 1 (.slice A ns c) ns (sc ns)/\w.grownBy wr (some d)
theorem Jr (but x l):bX but (x::l)=if x≠but then x::bX but l else bX but l:=by
 unfold bX;rw [List.filter_cons];by_cases a:x=but<;>simp [a]
theorem Js (D:Dk) (P:List Pk) (ids:List BA):(cP geS D P (bF geS D P ids)).1=match dS D P ids with
  | .error k=>(k,D)
  | .ok b=>if ids=[] then bm geS D ⟨#[]⟩ else if (aa D.l (ap b)).isSome=true then bm geS D (ap b) else
   if (ao D (ap b) b).1≠0 then ao D (ap b) b else bm geS (ao D (ap b) b).2 (ap b):=by
 rw [qi];cases dS D P ids with
 | error k=>rfl
 | ok b=>
 unfold bqR;simp only;split
 ·rfl
 unfold cP;simp only;split
 ·rfl
 split<;>rfl
theorem xA {D P ids b} (a:dS D P ids= .ok b):(ba geS b).isSome=true:=by
 unfold dS iL at a;split at a
 ·cases a
 split at a
 ·cases a
 split at a
 ·cases a
 rename_i d c;injection a with a;subst a;rw [lY dD c];rfl
section
variable {w w':World} {gs gr:Nat} {D:Dk} {P:List Pk}
theorem Jt (h:RSto w gs gr D) (Y:OkG kac kab D) (u0:ai geS D.l=some P) (v0:D.l.length+1<=kac) (A n ids c) (w0:ids.length=n) (Z0:Rd w w 1 A n (sc ids)) (O1:n<=kad) (P1: ∀x∈ids,x.size<=70368744177600):
  Calls Tryz.prog 78 #[.pointer (some gs),.slice A n c] w fun e w'=>e= .returned (.int .i64 (cP geS D P (bF geS D P ids)).1.1)/\RSto w' gs gr (cP geS D P (bF geS D P ids)).1.2/\w.grownBy w' (some gr):=by
 have a1:OkW D:=Y.mono (lR _) (by decide);obtain ⟨d,g⟩:=gX ((cP geS D P (bF geS D P ids)).1);rw [<-g];have f0:=qI (xt h Y u0 A n ids c w0 Z0 O1 P1);have Q:=qI (Js D P ids);rw [<-g] at Q;obtain ⟨Q1,g0⟩:=gK (dS D P ids);rw [g0] at f0 Q;have R1:=qI w0;have x0:=pG u0;clear g w0 Z0;go_in;go_wp2_with fail;refine f0.mono ?_;intro e S1 h0;cases Q1 with
 | error k=>
  obtain ⟨Z,rfl⟩:=h0;have R:Hid (d=(k,D)):=Q.out;have z1:=bne_iff_ne.2 (xr g0.out);clear Q f0 x0;go_wp2_with fail;go_ret;rw [R];exact ⟨rfl,h.below Z,ax Z _⟩
 | ok v=>
 obtain ⟨Z,l,b1,c1,T1,rfl,d1,e1,f1⟩:=h0;obtain ⟨g1,h1⟩:=qj g0.out;obtain rfl:l=v:=T1.out;have h0:=h.below Z;have U1:=iN g1;have i1:=xA g0.out;have j1:=qI (qc b1 l c1 S1 (d8 d1) e1 f1 g1 qO);have V1:=qI i1;clear f0 i1 u0;go_wp2_with fail;refine j1.mono ?_;rintro e i0 ⟨rfl,y0⟩;obtain ⟨nm,j0⟩:=gY (ap l);have W1:=qI j0;obtain ⟨a,z0⟩: ∃a,a=if n=0 then ⟨#[]⟩ else nm:=⟨_,rfl⟩;have k1:=qI z0;have X1:=Z.next y0;have A0:=h0.below y0;have Y1:=az d1 y0;obtain ⟨F,B0⟩: ∃F:Bool,F=(decide (0<n)&& !(aa D.l nm).isSome):=⟨_,rfl⟩;have l1:=qI B0;have C0:ids=[]↔n=0:=by
  rw [<-R1];exact List.length_eq_zero_iff.symm
 have R:Hid (d=if F=true then (if (ao D nm l).1≠0 then ao D nm l else bm geS (ao D nm l).2 a) else bm geS D a):=by
  unfold Hid;rw [Q,z0,B0];show (if ids=[] then _ else _)=_;rw [j0];by_cases b:n=0
  ·rw [if_pos (C0.2 b),b];simp
  rw [if_neg (fun e=>b (C0.1 e))];cases k0:(aa D.l nm).isSome<;>simp [b,show 0<n by omega]
 rw [j0] at U1 ⊢;have S:=A0.cell;have m1:=qI (gi A0.dk nm (by have:=a1.len;omega));clear Q B0 j0 z0 j1 C0;have D0:=Y.save nm l v0 h1;have E0:cv (ao D nm l).2.l:=by rw [<-W1];exact vX Y v0 h1 V1.out x0
 go_upto_region 5 with (fail);go_cut [37] (fun l0 T=>l0= .bool F/\Below i0 i0 T)
 case first=>
  by_cases b:0<n
  ·have F0:Hid (F= !(aa D.l nm).isSome):=by unfold Hid;rw [l1,dT b];rfl
   have Z1:=dT b;clear b;go_wp2_with fail;refine m1.mono ?_;rintro e a2 ⟨c2,rfl,n1⟩;have a0:Below i0 i0 a2:=by rw [n1];exact (bR _ _).drewN' c2
   clear n1;go_wp2_with fail;go_meet;exact ⟨by rw [F0];simp,a0⟩
  have F0:Hid (F=false):=by unfold Hid;rw [l1,qF b];rfl
  have Z1:=qF b;clear b;go_wp2_with fail;go_meet;exact ⟨by rw [F0],bR _ _⟩
 case rest=>
 obtain ⟨rfl,a0⟩:=hcut;have U:=A0.below a0;have o1:=az Y1 a0;have p1:=X1.next a0;have d2:=U.cell;refine (by assumption: ∀(q1:Act) (w:World),_->_) _ _ ?_;clear S m1;go_cut [8] (fun l0 T=> ∃y,RSto T gs gr y/\w.grownBy T (some gr)/\OkG kac kab y/\cv y.l/\Hid (d=bm geS y a))
 case first=>
  cases F with
  | false=>
   go_wp2_with fail;go_meet;exact ⟨D,U,ax p1 _,Y,x0,R.out⟩
  | true=>
  have r1:=qI (tL U.dk a1 nm qO b1 l c1 v0 qO 0 (J7 (s7 o1)) e1 f1 (zL));obtain ⟨m0,k0⟩:=gY (ao D nm l);have b0:Hid (d=if m0.1≠0 then m0 else bm geS m0.2 a):=by unfold Hid;rw [R,if_pos rfl,k0]
  rw [k0] at r1 D0 E0;clear k0 R;obtain ⟨s1,G0⟩:=m0;go_wp2_with fail;refine r1.mono ?_;rintro e B2 ⟨rfl,V,G⟩;have t1:=aq (ax p1 (some gr)) G;by_cases c0:s1=0
  ·have W:Hid (d=bm geS G0 a):=by unfold Hid;rw [b0,if_neg (by simpa using c0)]
   subst c0;go_wp2_with fail;go_meet;exact ⟨G0,U.grown V G,t1,D0,E0,W⟩
  have W:Hid (d=(s1,G0)):=by unfold Hid;rw [b0,if_pos c0]
  have n0:=bne_iff_ne.2 c0;clear c0;go_wp2_with fail;go_ret;rw [W];exact ⟨rfl,U.grown V G,t1⟩
 case rest=>
 obtain ⟨y,V,G,f2,u1,b0⟩:=hcut;obtain ⟨g2,H0⟩:=Nr.1 (mh u1);have o0:OkW y:=f2.mono (lR _) (by decide);have h2:=o0.len;have I0:=qI (mA V o0);obtain ⟨p0,d0⟩:=gX (pnL y);have v1:p0=g2.map Prod.fst:=by rw [d0];exact mB H0
 have w1: ∀x∈p0,x.size<=200/\2<=x.size:=by
  intro x hx;rw [d0] at hx;obtain ⟨hx,J0⟩:=NQ.1 hx;obtain ⟨i2,j2,rfl⟩:=e9.1 hx;refine ⟨dN (o0.names i2 j2),?_⟩;unfold aD at J0;simp only [m8,decide_eq_true_eq] at J0;have:=congrArg List.length J0.1;rw [b9,aC] at this;simp at this;omega
 have C2:p0.length<=kac:=by
  rw [d0];exact lT (OZ _ _) (by rw [g7];exact h2)
 obtain ⟨t,K0⟩:=gX (bW y (bX a p0));have W:Hid (d=if t.1≠0 then t else cB t.2 (bE t.2)):=by
  unfold Hid;rw [b0,K0,v1];unfold bm;rw [H0];rfl
 rw [<-d0] at I0;have k2:=qI K0;have l2:=qI w1;clear b0 K0 v1 d0 H0 w1 u1 R U d2 o1 D0 E0;refine (by assumption: ∀(q1:Act) (w:World),_->_) _ _ ?_;go_wp2_with fail;refine I0.mono ?_;rintro e D2 ⟨o,L0,x1,y1,rfl,A1,M0⟩;obtain rfl:=y1.out;have B1:=V.below M0;have C1:=aq G (ax M0 (some gr));have D1:=A1.base G.size;clear I0 V y1;go_wp2_with fail;go_loopw [10] (fun H wr=>Jp t a o L0 x1 gs gr w H wr) (fun H _=>o-(intOf H).toNat)
 case atStart=>exact ⟨0,y,rfl,zL,k2.out,o0,B1,D1,C1⟩
 case round=>
  clear B1 D1 A1 C1 M0 G;obtain ⟨k,i,rfl,m2,g,q,f,z,C⟩:=hrel;have n2:=qiJ (k+1);have S:=f.cell;by_cases N0:k<o
  ·have p2:=ltI k o.length;have q2:=zeI k;obtain ⟨x,hx⟩: ∃x,o[k]?=some x:=⟨o[k],gE N0⟩;obtain ⟨r2,E1⟩:=l2.out x (g8 hx);have I: ∀j:World,j.ownsRow w 9 1 (.slice L0 o x1) o (sc o)-> ∀v J,L0=some ⟨v,J,none⟩->j.cell? ⟨v,J+k,none⟩=some (.string x):=fun j ho9 v J e=>by
    exact z261
   have O0:=qI I;obtain ⟨K,L,P0,s2,_⟩:=(d8 z).at_ qO;have Q0:=I wr z K L P0;have F2:=P0;subst P0;have F1:=hU hx;have E:=qI g.out;rw [F1,Jr] at E;clear F1 I hx g;go_upto_region 13 with (fail);go_cut [66] (fun l0 T=>l0= .bool (decide (x≠a))/\T=wr)
   case first=>
    by_cases b:n=0
    ·have hxb:Hid (decide (x≠a)=true):=dT fun e=>by
      have:=k1.out;rw [if_pos b] at this;rw [e,this] at E1;exact absurd E1 (by decide)
     have t2:((n:Int)==0)=true:=by rw [b];rfl
     by_cases r:x=nm
     ·have R0:=eM r;clear b r;exact z101
     have R0:=eN r;clear b r;exact z101
    have q0:a=nm:=by have:=k1.out;rwa [if_neg b] at this
    have t2:((n:Int)==0)=false:=beq_eq_false_iff_ne.2 qO;by_cases r:x=nm
    ·have hxb:Hid (decide (x≠a)=false):=qF fun e=>e (r.trans q0.symm);have R0:=eM r;clear b r q0;exact z101
    have hxb:Hid (decide (x≠a)=true):=dT fun e=>r (e.trans q0);have R0:=eN r;clear b r q0;exact z101
   case rest=>
   obtain ⟨rfl,u2⟩:=hcut;obtain rfl:=u2.symm;refine (by assumption: ∀(q1:Act) (w:World),_->_) _ _ ?_;by_cases hxb:x=a
   ·have e0:decide (x≠a)=false:=qF (fun h=>h hxb);have r0:Hid (t=bW i (bX a (o.drop (k+1)))):=by unfold Hid;rw [E,if_neg (fun h=>h hxb)]
    rw [e0];clear E hxb e0;go_wp2_with fail;exact ⟨⟨k+1,i,by go_num,qO,r0,q,f,z,C⟩,by simp [intOf];omega⟩
   have e0:decide (x≠a)=true:=dT hxb;have r0:Hid (t=bW i (x::bX a (o.drop (k+1)))):=by unfold Hid;rw [E,if_pos hxb]
   have M:=oG f.dk.drew q x (by unfold maxLen;omega) (by have:=q.len;omega);have hK2:=q.rem x;obtain ⟨u,E2,N⟩: ∃u E2,aB i x=(u,E2):=⟨_,_,rfl⟩;rw [N] at M hK2;have B:=qI N;have S0:=qI M;obtain ⟨v2,w2,x2,T0,_⟩:=id f.dk;rw [e0];clear E hxb e0 M N;go_wp2_with fail;go_region_held3 (fun j=>j.cell? gs=some (.pointer (some gr))/\j.cell? ⟨K,L+k,none⟩=some (.string x)) (first | exact ⟨S,Q0⟩ | exact ⟨U0,n0⟩ | go_keep)
    ((go_at_call 126;(with_reducible refine S0.out.mono ?_);rintro e X ⟨rfl,V0,s⟩;have O:wr.grownBy X (some gr):=⟨s.os,s.tape,s.output,s.size,s.block⟩;have h6:=f.grown V0 O;have ho6:=aE z T0 (by decide) O;have U0:=h6.cell;have n0:=O0.out X ho6 K L rfl))
   have hg6:=aq C O;by_cases he0:u=0
   ·have H3:Hid (t=bW E2 (bX a (o.drop (k+1)))):=by
     unfold Hid;rw [r0,kg (by rw [B];exact he0),B]
    exact z164
   have H3:Hid (d=(u,E2)):=by
    have y2:t=(u,E2):=by rw [r0,qn (by rw [B];exact he0),B]
    unfold Hid;rw [W,y2,if_pos he0]
   exact z203
  have s0:t=(0,i):=by rw [g,p9 qO];rfl
  have G1:Hid (d=cB i (bE i)):=by
   unfold Hid;rw [W,s0,if_neg (by simp)]
  have H1:=qI (tN f.dk q);have I1:=lT (kf i) q.len;clear g s0 z;go_wp2_with fail;refine H1.mono ?_;rintro e X ⟨m,W0,J1,t0,rfl,ho6,X0⟩;have h6:=f.below X0;have hg6:=aq C (ax X0 (some gr));have K1:=ho6.base C.size;have G2:m.length<=kac:=by rw [t0];exact I1
  have L1:Hid (d=cB i m):=by unfold Hid;rw [G1,t0]
  have z2:Hid ( ∀M1∈m,M1.size=32):=fun M1 A2=>qo (by rw [<-t0];exact A2);clear H1 I1 G1 t0 S;go_wp2_with fail;go_loopw [13] (fun H wr=>Jq d m W0 J1 gs gr w H wr) (fun H _=>m-(intOf H).toNat)
  case atStart=>exact ⟨0,i,rfl,zL,L1.out,q,h6,K1,hg6⟩
  case round=>
   clear h6 K1 ho6 hg6 X0 L1 C f q;obtain ⟨k,i,rfl,m2,g,q,f,z,C⟩:=hrel;have n2:=qiJ (k+1);have S:=f.cell;by_cases N0:k<m
   ·have p2:=ltI k m.length;have q2:=zeI k;obtain ⟨x,hx⟩: ∃x,m[k]?=some x:=⟨m[k],gE N0⟩;have r2:=z2.out x (g8 hx);have I: ∀j:World,j.ownsRow w 9 1 (.slice W0 m J1) m (sc m)-> ∀v J,W0=some ⟨v,J,none⟩->j.cell? ⟨v,J+k,none⟩=some (.string x):=fun j ho9 v J e=>by
     exact z261
    have O0:=qI I;obtain ⟨K,L,N1,s2,_⟩:=(d8 z).at_ qO;have Q0:=I wr z K L N1;subst N1;have Y0:=g.out;rw [hU hx] at Y0;have E:=qI Y0;have M:=Dc f.dk.drew q x qO;have hK2:=lp q x;obtain ⟨u,E2,N⟩: ∃u E2,Go.Dol.dropO i x=(u,E2):=⟨_,_,rfl⟩;rw [N] at M hK2;have B:=qI N;have S0:=qI M;obtain ⟨v2,w2,x2,T0,_⟩:=id f.dk;clear Y0 I hx g M N;go_wp2_with fail;go_region_held3 (fun j=>j.cell? gs=some (.pointer (some gr))/\j.cell? ⟨K,L+k,none⟩=some (.string x)) (first | exact ⟨S,Q0⟩ | exact ⟨U0,n0⟩ | go_keep)
     ((go_at_call 53;(with_reducible refine S0.out.mono ?_);rintro e X ⟨rfl,V0,s⟩;have O:wr.grownBy X (some gr):=⟨s.os,s.tape,s.output,s.size,s.block⟩;have h6:=f.grown V0 O;have ho6:=aE z T0 (by decide) O;have U0:=h6.cell;have n0:=O0.out X ho6 K L rfl))
    have hg6:=aq C O;by_cases he0:u=0
    ·have H3:Hid (d=cB E2 (m.drop (k+1))):=by
      unfold Hid;rw [E,mK (by rw [B];exact he0),B]
     exact z164
    have H3:Hid (d=(u,E2)):=by
     unfold Hid;rw [E,qp (by rw [B];exact he0),B]
    exact z203
   have s0:Hid (d=(0,i)):=by unfold Hid;rw [g,p9 qO];rfl
   clear g;go_wp2_with fail;go_ret;rw [s0];exact ⟨rfl,f,C⟩
end
