/- Walks and laws. Conditions: as stated. -/
import Derived.Test.YtecpbcmpncgokaaGreatDeltaA
set_option maxRecDepth 99999
set_option maxHeartbeats 25600000
set_option linter.all false
open Go.Proofs.Tryz renaming prog->an
open Go.RowKit Go.Dol
namespace Go.Proofs.YtecpbcmpncgokaaGreat
theorem tK (A l c most w) (t0:Rd w w.heap.size 1 A l.length (bc l)) (u0:l.length<=kaa) (v0:l.length<=c) (f1:most<=70368744177664):
  Calls an 122 #[.slice A l c,.int .i64 most] w (RetOpenN w (cf l most)):=by
 obtain ⟨d,q⟩:=gH (cf l most);rw [<-q];go_in;go_wp2_with fail;refine (ee A l c w t0 u0 v0).mono ?_;intro Y g1 r;rcases ht:ad l with _ | ⟨size,Z⟩
 ·rw [ht] at r;obtain ⟨rfl,hb1⟩:=r;have hn:Hid (d=none):=by unfold Hid;rw [q,cf,ht]
  exact z82
 rw [ht] at r;obtain ⟨E,w0,x0,F,rfl,a0,hb1,h1,i1⟩:=r;have b0:E.length<l:=by rw [F];exact bL ht
 by_cases j1:most<(size:Int)
 ·have hn:Hid (d=none):=by
   unfold Hid;rw [q,cf,ht];simp only;rw [if_neg qO]
  exact z82
 have f:Hid (d=bI size [] E):=by
  unfold Hid;rw [q,cf,ht,F];simp only;rw [if_pos qO]
 have k1:size<=kaj:=qO;clear ht;go_wp2_with fail;go_loopw [0,8] (fun p G wr=>Hh size d w p G wr) (fun p _ _=>hH p)
 case atStart=>
  exact ⟨E,[],w0,none,x0,0,rfl,rfl,f,zL,qO,s7 a0,⟨by simp [bc],.inl ⟨rfl,rfl⟩⟩,Apart.nil _ _,hb1⟩
 case round=>
  clear a0 hb1 f F b0;obtain ⟨p,o,y0,Ao,z0,co,rfl,rfl,f,l1,A0,H,hown,B0,hbel⟩:=hrel;have hs:=hbel.size;have hol:=dz hown;have C0:=H.2.1;rcases p7 p.length with hp0 | hp0
  ·have hpe:=nZ hp0;have m1:=dfX (0<p.length);by_cases hfin:o=size
   ·have hq:Hid (d=some o):=by unfold Hid;rw [f,hpe,jX,if_pos hfin]
    exact z94
   have hq:Hid (d=none):=by unfold Hid;rw [f,hpe,jX,if_neg hfin]
   exact z130
  have D0:Hid (p≠[]):=fun h=>by rw [h] at hp0;simp at hp0
  go_wp2_with fail;refine (ee y0 p z0 wr H.rd A0 C0).mono ?_;intro Y c0 s;rcases ht:ad p with _ | ⟨g,Z⟩
  ·rw [ht] at s;obtain ⟨rfl,j⟩:=s;have hn:Hid (d=none):=by unfold Hid;rw [f,wg D0.out ht]
   clear ht;go_wp2_with fail;go_ret2;rw [hn];exact ⟨rfl,hbel.trans (j.mono hs)⟩
  rw [ht] at s;obtain ⟨q2,A2,c2,t,rfl,k,j,E0,n1⟩:=s;have b0:q2.length<p:=by rw [t];exact bL ht
  have o1:g<=kag:=(ch ht).2;have u:=qI ht;have hs2:=j.size;have v:=az hown j;have I:=ON hown (s7 k) (lR _);have hbel2:=hbel.trans (j.mono hs);clear ht B0 H hown;obtain ⟨y,d0⟩:=gX (g/2);have F0:(g:Int)/2=y:=qO;have p1:(g:Int).tdiv 2=(y:Int):=by rw [NW qO];exact F0
  have J:=qI d0;clear d0;by_cases K:g%2=0
  ·have L:(g:Int)%2=0:=qO;have G0:(g:Int).tmod 2=0:=by rw [q8 qO];exact L
   have hrun:Hid (d=if y+1<=size-o/\y+1<=q2 then bI size (o++q2.take (y+1)) (q2.drop (y+1)) else none):=by
    unfold Hid;rw [f,pO u.out K,<-J,t]
   clear K;by_cases x:y+1<=size-o
   ·have M:(y:Int)+1<=size-o:=qO;by_cases z:y+1<=q2
    ·rw [if_pos ⟨x,z⟩] at hrun;go_wp2_with (at_builtin;refine bQ rfl (.tmp 63) (.tmp 66) rfl w.heap.size _ o.length o rfl v c0.heap.size A2 (y+1) c2 (q2.take (y+1)) rfl ((d8 k).head (l:=q2) z) (by omega) (by omega) ?_);intro o3 Ao3 co3 H0 m ho3 hb3 I0 J0 K0 L0;have ho3l:Hid (o3.length=o+(y+1)):=by unfold Hid;rw [m,b7,b9];omega
     have e0:=s7 k;have B:=(e0.keepR I0 I).lower (base':=w.heap.size) hs;have hap3:=I.app e0 (lR _) J0.out;have htl:=B.tail8 z;have hbel3:=hbel2.trans hb3;have hr3:Hid (d=bI size o3 (q2.drop (y+1))):=by unfold Hid;rw [hrun,m]
     exact z288
    rw [if_neg (fun n=>z n.2)] at hrun;have q1: ¬((y:Int)+1<=q2):=qO;exact z158
   rw [if_neg (fun n=>x n.1)] at hrun;have M: ¬((y:Int)+1<=size-o):=qO;exact z158
  have L:(g:Int)%2=1:=qO;have G0:(g:Int).tmod 2=1:=by rw [q8 qO];exact L
  have N:Hid (g%2=1):=by unfold Hid;omega
  clear K;by_cases x:y+4<=size-o
  ·have M:(y:Int)+4<=size-o:=qO;go_wp2_with fail;refine (ee A2 q2 c2 c0 (d8 k) qO E0).mono ?_;intro Y H0 C;rcases ht:ad q2 with _ | ⟨a,Z⟩
   ·rw [ht] at C;obtain ⟨rfl,hb3⟩:=C;have hn:Hid (d=none):=by unfold Hid;rw [f,pP u.out N.out (by rw [<-t];exact ht)]
    exact z199
   rw [ht] at C;obtain ⟨i,f0,g0,m,rfl,ho3,hb3,K0,L0⟩:=C;have r1:i.length<q2:=by rw [m];exact bL ht
   have s1:a<=kag:=(ch ht).2;have O:Hid (d=if y+4<=size-o/\y+4<=259/\1<=a/\a<=o/\a<=4096 then bI size (cw o a (y+4)) i else none):=by
    unfold Hid;rw [f,jY u.out N.out (by rw [<-t];exact ht),<-J,m]
   have hbel3:=hbel2.trans (hb3.mono (lT hs hs2));have h0:=az v hb3;have hap3:=ON v (s7 ho3) (lR _);have B:=(s7 ho3).lower (base':=w.heap.size) (lT hs hs2);clear ht v I k;have i0: ¬(y+4<=259/\1<=a/\a<=o/\a<=4096)->Hid (d=none):=fun n=>by
    unfold Hid;rw [O,if_neg (fun h=>n h.2)]
   have D:=qI i0;clear i0;by_cases j0:y+4<=259
   ·have M0:(y:Int)+4<=259:=qO;by_cases k0:1<=a
    ·have t1:=dfX ((a:Int)<1);by_cases l0:a<=o
     ·have u1:=dfX (o<a);by_cases m0:a<=4096
      ·have v1:=dfX ((4096:Int)<(a:Int));rw [if_pos ⟨x,j0,k0,l0,m0⟩] at O;go_wp2_with fail;go_loopw [8,15] (fun G P wr=>Hi o a (y+4) f0 g0 i w G P wr) (fun _ P _=>260-(intOf P).toNat)
       case atStart=>exact ⟨0,o,Ao,co,rfl,rfl,zL,rfl,rfl,B,h0,hap3,hbel3⟩
       case round=>
        clear B h0 hap3 hbel3 ho3 hb3;obtain ⟨e,b,N0,O0,rfl,rfl,w1,n0,Q,R,S,T,U⟩:=hrel;have P0:=U.size;have x1:b.length<=o+e:=by have:=Q.out;omega
        have y1:o+e<=b:=by have:=Q.out;omega
        by_cases z1:e<y+4
        ·have Q0:(e:Int)<y+4:=qO;have o0:b-a<b:=qO;obtain ⟨A1,B1,rfl,C1,p0⟩:=(d8 S).at_ qO;have R0:=p0 (b-a) _ (bu b (b-a) o0);obtain ⟨V,W⟩:=gX ((b[b-a]).toNat);have D1:V<256:=by have:=(b[b-a]).toNat_lt;omega
         rw [<-W] at R0;have E1:=qiJ (b-a);have F1:((b:Int)-a).toNat=b-a:=qO;have G1:(0:Int)<=(b:Int)-a:=qO;have q0:b.getD (b-a) 0=UInt8.ofNat V:=by
          rw [Ov,gE o0,W];simp
         have S0:=qI q0;clear W q0 p0;go_wp2_with (at_builtin;refine cY rfl (.tmp 103) (.tmp 111) rfl w.heap.size _ b.length b rfl S rfl (by omega) (by omega) (by omega) P0 ?_);intro T0 X U0 V0 H1 W0 r0 X0 Y0 Z0 a1 I1 J1;go_wp2_with fail;have b1:Hid (cw o a (y+4)=cw X a (y+4-(e+1))):=by
          have c1:T0=UInt8.ofNat V:=eu W0 rfl;unfold Hid;rw [n0,show y+4-e=(y+4-(e+1))+1 by omega,cw,S0,r0,c1]
         have d1:Hid (X.length=o+(e+1)):=by unfold Hid;rw [r0,b7,Q];rfl
         exact ⟨⟨e+1,X,U0,V0,rfl,by go_num,qO,b1,d1,R.keepR Z0 T,X0,T.app R (PA _) a1.out,U.trans Y0⟩,by simp [intOf];omega⟩
        have Q0: ¬((e:Int)<y+4):=qO;have s0:e=y+4:=qO;have hfin:Hid (d=bI size b i):=by
         unfold Hid;rw [O,n0,s0,Nat.sub_self];rfl
        have e1:b<=size:=qO;clear s0;go_wp2_with fail;exact ⟨⟨i,b,f0,N0,g0,O0,rfl,rfl,hfin,e1,qO,R,S,T,U⟩,by show i.length<p;omega⟩
      have K1:=ltI 4096 a;have hn:=D.out (fun h=>m0 h.2.2.2);exact z92
     have L1:(o:Int)<a:=qO;have hn:=D.out (fun h=>l0 h.2.2.1);exact z92
    have M1:(a:Int)<1:=qO;have hn:=D.out (fun h=>k0 h.2.1);exact z92
   have M0: ¬((y:Int)+4<=259):=qO;have hn:=D.out (fun h=>j0 h.1);exact z92
  have M: ¬((y:Int)+4<=size-o):=qO;have hn:Hid (d=none):=by unfold Hid;rw [f,GX u.out N.out (by rw [<-J];omega)]
  go_wp2_with fail;go_ret2;rw [hn];exact ⟨rfl,hbel2⟩
theorem Iy (Ab b cb A l c most w) (c0:Rd w w.heap.size 1 Ab b.length (bc b)) (X0:b.length<=kaa) (d0:b.length<=cb)
  (e0:Rd w w 1 A l.length (bc l)) (f0:l.length<=kaa) (g0:l.length<=c) (Y0:most<=70368744177664):
  Calls an 211 #[.slice Ab b cb,.slice A l c,.int .i64 most] w (RetOpenN w (cH b l most)):=by
 obtain ⟨d,x⟩:=gH (cH b l most);rw [<-x];go_in;go_wp2_with fail;refine (ee A l c w e0 f0 g0).mono ?_;intro F h0 q;rcases ht:ad l with _ | ⟨G,z⟩
 ·rw [ht] at q;obtain ⟨rfl,hb1⟩:=q;have hn:Hid (d=none):=by unfold Hid;rw [x,cH,ht]
  exact z82
 rw [ht] at q;obtain ⟨r,i0,j0,H,rfl,Q,hb1,R,k0⟩:=q;have S:r.length<l:=by rw [H];exact bL ht
 by_cases I:G=b
 ·have l0:((G:Int)!=b)=false:=by simp;omega
  have i:Hid (d=match ad r with | none=>none | some (size,q2)=>if (size:Int)<=most then dGo b size [] q2 else none):=by
   unfold Hid;rw [x,cH,ht,H];simp only;rw [if_pos I]
   try (cases ad z<;>rfl)
  clear ht I;have T:=hb1.size;go_wp2_with fail;refine (ee i0 r j0 h0 (d8 Q) qO R).mono ?_;intro F J j;rcases ht:ad r with _ | ⟨size,z⟩
  ·rw [ht] at j;obtain ⟨rfl,e⟩:=j;have hn:Hid (d=none):=by unfold Hid;rw [i,ht]
   clear ht;go_wp2_with fail;go_ret2;rw [hn];exact ⟨rfl,hb1.next e⟩
  rw [ht] at j;obtain ⟨q2,A2,c2,k,rfl,m,e,m0,n0⟩:=j;have o0:q2.length<r:=by rw [k];exact bL ht
  by_cases Z0:most<(size:Int)
  ·have hn:Hid (d=none):=by
    unfold Hid;rw [i,ht];simp only;rw [if_neg qO]
   clear ht;go_wp2_with fail;go_ret2;rw [hn];exact ⟨rfl,hb1.next e⟩
  have f:Hid (d=dGo b size [] q2):=by
   unfold Hid;rw [i,ht,k];simp only;rw [if_pos qO]
  have a1:size<=kaj:=qO;clear ht;go_wp2_with fail;go_loopw [9,12] (fun p p0 wr=>AN b size d w p p0 wr) (fun p _ _=>hH p)
  case atStart=>
   exact ⟨q2,[],A2,none,c2,0,rfl,rfl,f,zL,qO,(s7 m).lower T,⟨by simp [bc],.inl ⟨rfl,rfl⟩⟩,Apart.nil _ _,hb1.next e⟩
  case round=>
   clear Q hb1 f H S m e k o0 i R k0 m0 n0 T;obtain ⟨p,o,q0,Ao,r0,co,rfl,rfl,f,b1,s0,K,hown,t0,hbel⟩:=hrel;have hs:=hbel.size;have hol:=dz hown;have u0:=K.2.1;rcases p7 p.length with hp0 | hp0
   ·have hpe:=nZ hp0;have c1:=dfX (0<p.length);by_cases hfin:o=size
    ·have hq:Hid (d=some o):=by unfold Hid;rw [f,hpe,iZ,if_pos hfin]
     exact z94
    have hq:Hid (d=none):=by unfold Hid;rw [f,hpe,iZ,if_neg hfin]
    exact z130
   have v0:Hid (p≠[]):=fun h=>by rw [h] at hp0;simp at hp0
   go_wp2_with fail;refine (ee q0 p r0 wr K.rd s0 u0).mono ?_;intro F J i;rcases ht:ad p with _ | ⟨g,z⟩
   ·rw [ht] at i;obtain ⟨rfl,e⟩:=i;have hn:Hid (d=none):=by unfold Hid;rw [f,rG v0.out ht]
    clear ht;go_wp2_with fail;go_ret2;rw [hn];exact ⟨rfl,hbel.trans (e.mono hs)⟩
   rw [ht] at i;obtain ⟨q2,A2,c2,k,rfl,m,e,w0,d1⟩:=i;have S:q2.length<p:=by rw [k];exact bL ht
   have e1:g<=kag:=(ch ht).2;have B:=qI ht;have hs2:=e.size;have C:=az hown e;have L:=ON hown (s7 m) (lR _);have hbel2:=hbel.trans (e.mono hs);clear ht t0 K hown;obtain ⟨y,U⟩:=gX (g/2);have x0:(g:Int)/2=y:=qO;have f1:(g:Int).tdiv 2=(y:Int):=by rw [NW qO];exact x0
   have M:=qI U;have g1:y<=2305843009213693951:=qO;clear U;have V: ¬(y+1<=size-o)->Hid (d=none):=fun s=>by
    unfold Hid;rw [f];exact AG B.out (by rw [<-M];exact s)
   have W:=qI V;clear V;by_cases N:y+1<=size-o
   ·have y0: ¬((size:Int)-o<y+1):=qO;have z0:=dfX ((size:Int)-o<y+1);clear W;by_cases O:g%2=0
    ·have P:(g:Int)%2=0:=qO;have A0:(g:Int).tmod 2=0:=by rw [q8 qO];exact P
     have hrun:Hid (d=if y+1<=size-o/\y+1<=q2 then dGo b size (o++q2.take (y+1)) (q2.drop (y+1)) else none):=by
      unfold Hid;rw [f,ja B.out O,<-M,k]
     clear O;by_cases n:y+1<=q2
     ·rw [if_pos ⟨N,n⟩] at hrun;have B0:=dfX ((q2:Int)<y+1);go_wp2_with (at_builtin;refine bQ rfl (.tmp 98) (.tmp 106) rfl w.heap.size _ o.length o rfl C J.heap.size A2 (y+1) c2 (q2.take (y+1)) rfl ((d8 m).head (l:=q2) n) (by omega) (by omega) ?_);intro o3 Ao3 co3 X t ho3 hb3 C0 D0 E0 F0;have ho3l:Hid (o3.length=o+(y+1)):=by unfold Hid;rw [t,b7,b9];omega
      have Y:=s7 m;have D:=(Y.keepR C0 L).lower (base':=w.heap.size) hs;have hap3:=L.app Y (lR _) D0.out;have htl:=D.tail8 n;have hbel3:=hbel2.trans hb3;have hr3:Hid (d=dGo b size o3 (q2.drop (y+1))):=by unfold Hid;rw [hrun,t]
      exact z288
     rw [if_neg (fun s=>n s.2)] at hrun;have h1:(q2:Int)<y+1:=qO;have B0:=dtX ((q2:Int)<y+1);exact z158
    have P:(g:Int)%2=1:=qO;have A0:(g:Int).tmod 2=1:=by rw [q8 qO];exact P
    have Z:Hid (g%2=1):=by unfold Hid;omega
    clear O;go_wp2_with fail;refine (ee A2 q2 c2 J (d8 m) qO w0).mono ?_;intro F X j;rcases ht:ad q2 with _ | ⟨a,z⟩
    ·rw [ht] at j;obtain ⟨rfl,hb3⟩:=j;have hn:Hid (d=none):=by unfold Hid;rw [f,nC B.out Z.out (by rw [<-k];exact ht)]
     exact z199
    rw [ht] at j;obtain ⟨u,G0,H0,t,rfl,ho3,hb3,E0,F0⟩:=j;have i1:u.length<q2:=by rw [t];exact bL ht
    have j1:a<=kag:=(ch ht).2;have v:Hid (d=if y+1<=size-o/\a+(y+1)<=b then dGo b size (o++(b.drop a).take (y+1)) u else none):=by
     unfold Hid;rw [f,jb B.out Z.out (by rw [<-k];exact ht),<-M,t]
    have k1:=hb3.size;have hbel3:=hbel2.trans (hb3.mono (lT hs hs2));have I0:=az C hb3;have hap3:=ON C (s7 ho3) (lR _);have D:=(s7 ho3).lower (base':=w.heap.size) (lT hs hs2);clear ht C L m;by_cases n:a+(y+1)<=b
    ·rw [if_pos ⟨N,n⟩] at v;have J0: ¬((b:Int)<a):=qO;have a0:=dfX ((b:Int)<a);have K0:=dfX ((b:Int)-a<y+1);have l1:=qiJ (a+y);have m1:=qiJ (a+y+1);have L0: ¬cb=a:=qO;have M0:Rd X w.heap.size 1 (Ab.map fun N0=>N0.add a) (a+y+1-a) (bc ((b.drop a).take (y+1))):=(c0.below hbel3).mid (by omega) n d0 L0;go_wp2_with (at_builtin;refine bQ rfl (.tmp 98) (.tmp 106) rfl w.heap.size _ o.length o rfl I0 w.heap.size _ (a+y+1-a) (cb-a) ((b.drop a).take (y+1)) rfl M0 (by omega) (by omega) ?_);intro E O0 P0 n1 b0 Q0 R0 S0 T0 o1 p1;have U0:E.length=o+(y+1):=by rw [b0,b7,b9,b8];omega
     have V0:E<=size:=qO;have W0:Hid (d=dGo b size E u):=by unfold Hid;rw [v,b0]
     clear U0;go_wp2_with fail;exact ⟨⟨u,E,G0,O0,H0,P0,rfl,rfl,W0,V0,qO,D.keepR S0 hap3,Q0,hap3.app D (lR _) T0.out,hbel3.trans R0⟩,by show u.length<p;omega⟩
    rw [if_neg (fun s=>n s.2)] at v;by_cases q:a<=b
    ·have a0:=dfX ((b:Int)<a);have q1:((b:Int)-a<y+1):=qO;have K0:=dtX ((b:Int)-a<y+1);go_wp2_with fail;go_ret2;rw [v];exact ⟨rfl,hbel3⟩
    have J0:(b:Int)<a:=qO;have a0:=dtX ((b:Int)<a);go_wp2_with fail;go_ret2;rw [v];exact ⟨rfl,hbel3⟩
   have y0:(size:Int)-o<y+1:=qO;have z0:=dtX ((size:Int)-o<y+1);have hn:=W.out N;go_wp2_with fail;go_ret2;rw [hn];exact ⟨rfl,hbel2⟩
 have l0:((G:Int)!=b)=true:=by simp;omega
 have hn:Hid (d=none):=by unfold Hid;rw [x];exact AL (base:=[]) ht I most
 exact z82
def New (base:Nat) (A:OA) (l:LU):Prop:=0<l.length-> ∀a,au A=some a->base<=a
theorem New.lower {base base' A l} (a:New base A l) (b:base'<=base):New base' A l:=fun c k d=>lT b (a c k d)
theorem New.own {w:World} {base A l c} (h:w.ownsRow base 5 1 (.slice A l.length c) l.length (bc l)):New base A l:=fun a k hk=>by
 exact z51
def kj (base:Nat) (w:World) (l:LU) (d:Ending) (w':World):Prop:=
 ∃(a:LU) (b:OA) (c:Nat),Hid (a=l)/\d= .returned (.slice b a c)/\Rd w' w' 1 b a (bc a)/\Below w w w'/\a<=c/\c<=maxLen/\New base b a
theorem xJ (A out c A2 l n c2 w) (hn:n=l.length) (hr:Rd w w.heap.size 1 A out.length (bc out)) (hc:out.length<=c) (hc2:c<=maxLen) (hr2:Rd w w.heap.size 1 A2 n (bc l))
  (a:out+9+n<=kaa) (base) (hN:New base A out) (hbase:base<=w):
  Calls an 204 #[.slice A out c,.slice A2 n c2] w (kj base w (out++aH l)):=by
 by_cases h0:l=[]
 ·exact z275
 exact z228
def JR (b:LU) (w:World) (out f i:Value) (wr:World):Prop:=
 ∃(a c:Nat) (l:LU) (d:OA) (e:Nat),out= .slice d l e/\f= .int .i64 c/\i= .int .i64 a/\c<=a/\a<=b/\Hid (aA b=l++bw b a c)/\
  Rd wr wr 1 d l (bc l)/\Below w w wr/\l<=e/\e<=maxLen/\New w d l
theorem IJ (A b c w) (I:Rd w w.heap.size 1 A b.length (bc b)) (J:b.length<=kah) (y:b.length<=c):
  Calls an 128 #[.slice A b c] w (kj w w (aA b)):=by
 go_in;go_wp2_with fail;refine (cj none [] 0 _ w L8 (by decide)).mono ?_;rintro e d0 ⟨z,A1,c1,e1,rfl,r,B,i1,i2⟩;have C:Hid (aA b=z++bw b 0 0):=by
  exact z278
 clear e1;go_wp2_with fail;go_loopw [3,4,5] (fun K f i wr=>JR b w K f i wr) (fun _ _ i _=>b-(intOf i).toNat)
 case atStart=>exact ⟨0,0,z,A1,c1,rfl,rfl,rfl,lR _,zL,C,d8 r,B,i1,i2,New.own r⟩
 case round=>
  clear r B C i1 i2;obtain ⟨k,f,l,A1,c1,rfl,rfl,rfl,L,M,j,hro,hbel,i1,i2,hN⟩:=hrel;have e0:=pS J j.out;have hs:=hbel.size;have m:=(I.belowW hbel (lR _)).more hs;by_cases D:k<b
  ·have N:=ltI k b.length;go_wp2_with fail;refine (wm A b c k wr _ m qO qO).mono ?_;rintro e g ⟨rfl,s,o⟩;have E:Rd g g 1 A1 l (bc l):=by rw [o];exact hro.drewN s
   have O:Rd g g 1 A b (bc b):=by rw [o];exact m.drewN s
   have t:Below w w g:=by rw [o];exact hbel.drewN' s
   clear o hro m hbel hs;have hs:=t.size;have P:=pN b k;have a:=jW (b:=b) (i:=k);obtain ⟨n,d⟩:=gX ((aL b k).1);obtain ⟨u,q⟩:=gX ((aL b k).2);rw [<-d,<-q] at a ⊢;rw [<-d] at P;by_cases Q:n<4
   ·have f0:(n:Int)<4:=qO;have heq':Hid (aA b=l++bw b (k+1) f):=by unfold Hid;rw [j,jU D (by rw [<-d];exact Q)]
    clear d q a;go_wp2_with fail;exact ⟨⟨k+1,f,l,A1,c1,rfl,rfl,by go_num,qO,qO,heq',E,t,i1,i2,hN⟩,by simp [intOf];omega⟩
   have a:=a qO;have heq':Hid (aA b=l++(aH ((b.drop f).take (k-f))++(num (2*(n-4)+1)++(num u++bw b (k+n) (k+n))))):=by unfold Hid;rw [j,jV D (by rw [<-d];omega),<-d,<-q]
   have hcut:=O.cut (lo:=f) (hi:=k) (cap:=c) L M y;rw [if_neg qO,s9,s9,dW,dx] at hcut;have g0:=a.1;have h0:=a.2.2.1;have i0:=a.2.2.2.1;have R:=a.2.2.2.2.1;clear d q a j;have S:(f:Int)<=k:=qO;have j0:(k:Int)<=c:=qO;have v: ¬(c=f):=qO;go_wp2_with fail;refine (xJ (base:=w.heap.size) (hN:=hN) (hbase:=hs) A1 l c1 _ ((b.drop f).take (k-f)) (k-f) _ g (by rw [b9,b8];omega) E i1 i2 hcut qO).mono ?_;rintro e w3 ⟨l3,A3,c3,e3,rfl,hr3,hb3,j1,j2,hN3⟩;go_wp2_with fail;have k0:l3.length<=37748800:=by
    exact z239
   have hcl1:Hid (aj (2*((n:Int)-4)+1)=2*(n-4)+1):=by unfold Hid aj;omega
   have hcl2:Hid (aj (u:Int)=u):=ml qO;refine (cj A3 l3 c3 _ w3 hr3 qO).mono ?_;rintro e T ⟨F,U,V,e4,rfl,W,x,l0,m0⟩;have n0:F.length<=37748809:=by
    exact z113
   go_wp2_with fail;refine (cj U F V _ T (d8 W) qO).mono ?_;rintro e o0 ⟨G,X,Y,e5,rfl,H,Z,a0,b0⟩;have hfin:Hid (aA b=G++bw b (k+n) (k+n)):=by
    exact z123
   have c0:=((t.trans (hb3.mono hs)).trans (x.mono (lT hs hb3.size))).trans (Z.mono (lT (lT hs hb3.size) x.size));go_wp2_with fail;exact ⟨⟨k+n,k+n,G,X,Y,rfl,by go_num,by go_num,lR _,R,hfin,d8 H,c0,a0,b0,(New.own H).lower (lT (lT hs hb3.size) x.size)⟩,by simp [intOf];omega⟩
  have N: ¬((k:Int)<b):=qO;have htail:=m.tail (k:=f) (cap:=c) qO y;have hfin:Hid (aA b=l++aH (b.drop f)):=by unfold Hid;rw [j,jT qO]
  have S:(f:Int)<=b:=qO;by_cases v:c=f
  ·rw [if_pos v] at htail;exact z240
  rw [if_neg v] at htail;exact z240
theorem xK (A out c A2 l n c2 w) (hn:n=l.length) (hr:Rd w w.heap.size 1 A out.length (bc out)) (hc:out.length<=c) (hc2:c<=maxLen) (hr2:Rd w w.heap.size 1 A2 n (bc l))
  (a:out+9+n<=kaa) (base) (hN:New base A out) (hbase:base<=w):
  Calls an 278 #[.slice A out c,.slice A2 n c2] w (kj base w (out++aH l)):=by
 by_cases h0:l=[]
 ·exact z275
 exact z228
theorem qx (A out) (c n k:Nat) (w) (b:Rd w w.heap.size 1 A out.length (bc out)) (g:out<=c) (i:c<=maxLen) (D:n<=kaf) (E:k<=kaf) (F:out.length+18<=kaa) (base) (hN:New base A out) (hbase:base<=w):
  Calls an 276 #[.slice A out c,n,k] w (kj base w (out++bB n k)):=by
 by_cases a:n=0
 ·subst a;go_in;go_wp2_with fail;go_ret;exact ⟨out,A,c,by simp [Hid,bB],rfl,b,bR _ _,g,i,hN⟩
 have G:((n:Int)==0)=false:=by simp;omega
 have H:=qiJ (n-1);have I:IntKind.i64.wrap (2*(n-1))=2*((n:Int)-1):=qJ qO;have J:IntKind.i64.wrap (2*(n-1)+1)=2*((n:Int)-1)+1:=qJ qO;have j:Hid (aj (2*((n:Int)-1)+1)=2*(n-1)+1):=by unfold Hid aj;omega
 have l:Hid (aj (k:Int)=k):=by unfold Hid aj;omega
 have m:=qI a;clear a;go_in;go_wp2_with fail;refine (cj A out c _ w b qO).mono ?_;rintro o q ⟨d,r,s,e1,rfl,t,e,K,L⟩;have M:d.length<=out+9:=by
  exact z269
 go_wp2_with fail;refine (cj r d s _ q (d8 t) qO).mono ?_;rintro o N ⟨u,v,x,y,rfl,f,z,B,C⟩;go_wp2_with fail;go_ret;refine ⟨u,v,x,?_,rfl,d8 f,e.next z,B,C,(New.own f).lower (lT hbase e.size)⟩;unfold Hid bB;rw [y,e1,j,l,if_neg m.out,g9]
def JS (T e base m:LU) (w:World) (out f i:Value) (wr:World):Prop:=
 ∃(a b:Nat) (l:LU) (c:OA) (d:Nat),out= .slice c l d/\f= .int .i64 b/\i= .int .i64 a/\b<=a/\a<=m/\Hid (T=l++(cS base m a b++e))/\
  Rd wr wr 1 c l (bc l)/\Below w w wr/\l<=d/\d<=maxLen/\New w c l
theorem IK (A b c A2 t c2 w) (S:Rd w w.heap.size 1 A b.length (bc b)) (T:Rd w w.heap.size 1 A2 t.length (bc t))
  (C1:b.length<=kah) (D1:t.length<=kah) (U:b.length<=c) (I0:c<=maxLen) (J0:t.length<=c2) (K0:c2<=maxLen):
  Calls an 258 #[.slice A b c,.slice A2 t c2] w (kj w w (eg b t)):=by
 have V:Hid (aj (b.length:Int)=b):=kN qO;have L0:Hid (aj (t.length:Int)=t):=kN qO;have hcost:Hid ((eg b t).length<=16777241):=by unfold Hid;have:=rR (base:=b) (target:=t) C1 D1;omega
 obtain ⟨z,W⟩:=gH (eg b t);rw [<-W] at hcost ⊢;go_in;go_wp2_with fail;refine (cj none [] 0 _ w L8 (by decide)).mono ?_;rintro a E1 ⟨M0,n,B,X,rfl,N0,Y,n2,o2⟩;have p2:M0.length<=9:=by
  rw [X,V,List.nil_append];exact aJ 8 _ qO
 go_wp2_with fail;refine (cj n M0 B _ E1 (d8 N0) qO).mono ?_;rintro a F1 ⟨q,Z,G1,O0,rfl,a0,P0,H1,I1⟩;have b0:Hid (q=num b.length++num t):=by unfold Hid;rw [O0,X,V,L0,List.nil_append]
 have K:=Y.next P0;have Q0:=S.aliveD K;have R0:=T.aliveD K;have S0:=d8 a0;have J1:=(New.own a0).lower Y.size;clear O0 X V L0 N0 a0 Y P0;go_wp2_with fail;refine (nG A b c A2 t c2 F1 _ _ Q0 R0 qO qO).mono ?_;rintro a r ⟨rfl,T0,c0⟩;have d0:=eI b t;obtain ⟨p,e0⟩:=gH (begins b t);rw [<-e0] at d0 ⊢;have L:Below w w r:=by rw [c0];exact K.drewN' T0
 have U0:=S.aliveD L;have V0:=T.aliveD L;have W0:Rd r r 1 Z q (bc q):=by rw [c0];exact S0.drewN T0
 clear c0 Q0 R0 S0 K;obtain ⟨x1,K1,f0,X0,q2,r2,⟨Y0,s2,t2⟩,_,_,_,L1⟩:=cm (k:=p) (p:Int) rfl U0 d0.1 U I0;obtain ⟨x2,M1,Z0,a1,u2,v2,⟨b1,w2,y2⟩,_,_,_,N1⟩:=cm (k:=p) (p:Int) rfl V0 d0.2 J0 K0;go_wp2_with fail;go_quiet ((go_at_call 275;exact Pr (AT K1 x1 f0 M1 x2 Z0 _ r r (Y0.drewN _) (b1.drewN _) qO qO)));have O1:=kL x1 x2;obtain ⟨a,g0⟩:=gX (ends x1 x2);rw [<-g0] at O1 ⊢;have c1:Hid (a=ends (b.drop p) (t.drop p)):=by unfold Hid;rw [g0,X0,a1]
 clear g0;obtain ⟨M,N⟩:=gX (r.drewN nq);rw [<-N];have O:Below w w M:=by rw [N];exact L.drewN' nq
 have d1:Rd M M 1 Z q (bc q):=by rw [N];exact W0.drewN nq
 clear N L1 N1 Y0 b1 W0 U0 V0 L X0 a1;go_wp2_with fail;refine (qx (base:=w.heap.size) (hN:=J1) (hbase:=O.size) Z q G1 p 0 M d1 H1 I1 qO qO (by have:=aJ 8 b qO;have:=aJ 8 t qO;rw [b0,b7];omega)).mono ?_;rintro C z2 ⟨e1,P1,Q1,f1,rfl,g1,h1,s,u,R1⟩;have i1:=O.trans (h1.mono O.size);clear h1 O d1;obtain ⟨e,j1,B2,k1,C2,D2,⟨S1,h0,i0⟩,_,_,_,T1⟩:=fx (lo:=p) (hi:=t-a) (p:Int) ((t:Int)-a) rfl qO T qO qO J0 K0;have l1:Hid (z=e1++(cS b e 0 0++bB a (b-a))):=by
  unfold Hid;rw [W,rY b t e0.out c1.out,f1,b0,k1,show t-a-p=t-p-a by omega];simp only [g9]
 go_wp2_with fail;clear T1 k1 f1 b0 e0 c1 W;go_loopw [5,9,10] (fun U1 V1 j0 wr=>JS z (bB a (b-a)) b e w U1 V1 j0 wr) (fun _ _ j0 _=>e-(intOf j0).toNat)
 case atStart=>exact ⟨0,0,e1,P1,Q1,rfl,rfl,rfl,lR _,zL,l1,g1,i1,s,u,R1⟩
 case round=>
  clear g1 i1 l1 s u;obtain ⟨d,k,i,n,B,rfl,rfl,rfl,W1,m1,D,P,l,s,u,k0⟩:=hrel;have E2:i.length<=16777241:=by have:=hcost.out;have h:=congrArg List.length D.out;rw [b7] at h;omega
  have l0:=S.aliveD l;have E:=S1.aliveD l;by_cases n1:d<e
  ·have f0:=dtX ((d:Int)<e);have X1:=ltI d e.length;obtain ⟨f,F,Q,o,Y1,Z1,⟨v,a2,b2⟩,_,_,_,m0⟩:=cm (k:=d) (d:Int) rfl E m1 h0 i0;go_wp2_with fail;refine (AS A b c F f Q wr _ _ l0 v U qO qO).mono ?_;rintro C g ⟨rfl,G,x⟩;have n0:Rd g g 1 n i (bc i):=by rw [x];exact P.drewN G
   have o1:Rd g g 1 A b (bc b):=by rw [x];exact l0.drewN G
   have p1:Rd g g 1 j1 e (bc e):=by rw [x];exact E.drewN G
   have q1:Rd g g 1 F f (bc f):=by rw [x];exact v.drewN G
   have o0:Below w w g:=by rw [x];exact l.drewN' G
   clear x P l0 E v l;rcases hk:cG b f with _ | m
   ·have j:Hid (z=i++(cS b e (d+1) k++bB a (b-a))):=by unfold Hid;rw [D,nK n1 (by rw [<-o];exact hk)]
    clear hk;simp only [nH];go_wp2_with fail;exact ⟨⟨d+1,k,i,n,B,rfl,rfl,by go_num,qO,qO,j,n0,o0,s,u,k0⟩,by simp [intOf];omega⟩
   have r1:=ij hk;have j:Hid (z=i++(aH ((e.drop k).take (d-k))++(bB (begins (b.drop m) f) m++cS b e (d+begins (b.drop m) f) (d+begins (b.drop m) f))++bB a (b-a))):=by
    unfold Hid;rw [D,rX n1 (by rw [<-o];exact hk),<-o]
   clear hk;simp only [nH];obtain ⟨p0,d2,e2,s1,F2,G2,⟨t1,H2,I2⟩,_,_,_,f2⟩:=cm (k:=m) (m:Int) rfl o1 qO U I0;have Z0:decide ((m:Int)<0)=false:=by simp
   go_wp2_with fail;go_quiet ((go_at_call 274;exact Pr (nG d2 p0 e2 F f Q _ g g (t1.drewN _) (q1.drewN _) qO qO)));have g2:=eI p0 f;rw [<-s1] at j r1;obtain ⟨q0,u1⟩:=gX (begins p0 f);rw [<-u1] at g2 j r1 ⊢;obtain ⟨y,H⟩:=gX (g.drewN nq);rw [<-H];have v1:Rd y y 1 n i (bc i):=by rw [H];exact n0.drewN nq
   have w1:Rd y y 1 j1 e (bc e):=by rw [H];exact p1.drewN nq
   have R:Below w w y:=by rw [H];exact o0.drewN' nq
   clear H n0 o1 p1 o0 m0 f2 t1 q1 u1 o s1;obtain ⟨y1,h2,i2,z1,J2,K2,⟨A1,L2,M2⟩,_,_,_,j2⟩:=fx (lo:=k) (hi:=d) (k:Int) (d:Int) rfl rfl w1 W1 m1 h0 i0;rw [<-z1] at j;go_wp2_with fail;refine (xK (base:=w.heap.size) (hN:=k0) (hbase:=R.size) n i B h2 y1 y1 i2 y rfl v1 s u A1 qO).mono ?_;rintro C r0 ⟨I,s0,t0,e8,rfl,u0,J,v0,w0,x0⟩;have k2:I.length<=16777241:=by
    have h:=congrArg List.length j.out;exact z77
   clear j2 w1 v1 A1 z1;go_wp2_with fail;refine (qx (base:=w.heap.size) (hN:=x0) (hbase:=(lT R.size J.size)) s0 I t0 q0 m r0 u0 v0 w0 qO qO qO).mono ?_;rintro C l2 ⟨y0,z0,A0,B0,rfl,C0,D0,E0,F0,G0⟩;have m2:=J.next D0;go_wp2_with fail;refine ⟨⟨d+q0,d+q0,y0,z0,A0,rfl,by go_num,by go_num,lR _,qO,?_,C0,R.trans (m2.mono R.size),E0,F0,G0⟩,by simp [intOf];omega⟩;unfold Hid;rw [j,B0,e8];simp only [g9]
  have f0:=dfX ((d:Int)<e);have X1: ¬(d:Int)<e:=qO;obtain ⟨f,F,Q,o,Y1,Z1,⟨v,a2,b2⟩,_,_,_,m0⟩:=cm (k:=k) (k:Int) rfl E qO h0 i0;have j:Hid (z=i++(aH f++bB a (b-a))):=by unfold Hid;rw [D,nJ qO,o]
  clear D o;go_wp2_with fail;refine (xK (base:=w.heap.size) (hN:=k0) (hbase:=l.size) n i B F f f Q wr rfl P s u v qO).mono ?_;rintro C r0 ⟨I,s0,t0,e8,rfl,u0,J,v0,w0,x0⟩;have k2:I.length<=16777241:=by
   have h:=congrArg List.length j.out;exact z77
  have B1:(b:Int)-a=((b-a:Nat):Int):=qO;have H0:=qx (base:=w.heap.size) (hN:=x0) (hbase:=(lT l.size J.size)) s0 I t0 a (b-a) r0 u0 v0 w0 qO qO qO;rw [<-B1] at H0;clear B1 m0 E P v;go_wp2_with fail;refine H0.mono ?_;rintro C l2 ⟨y0,z0,A0,B0,rfl,C0,D0,E0,F0,G0⟩;clear H0;go_wp2_with fail;go_ret;refine ⟨y0,z0,A0,?_,rfl,C0,l.trans ((J.next D0).mono l.size),E0,F0,G0⟩;unfold Hid;rw [j,B0,e8,g9]
