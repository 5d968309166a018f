/- Walks and laws. Conditions: as stated. -/
import Derived.Test.YtecpbcmpncgokaaGreatUniq
set_option maxRecDepth 99999
set_option maxHeartbeats 25600000
set_option linter.all false
open Go.Proofs.Tryz renaming prog->an
open Go.RowKit Go.Dol
namespace Go.Dol
def pz (x:RowB):BA:=⟨(aw x.l).toArray⟩
def fm (l:List RowB):List BA:=l.map pz
def iJ (ge:BA->BA->Bool) (l:List RowB):Prop:=(∀a∈l,ah ge a.l=true)/\(l.map fun a=>aw a.l).Nodup
theorem vG {l s}:cK (fm l) ⟨s.toArray⟩=true↔s∈l.map fun x=>aw x.l:=by
  rw [jH];constructor
  · intro b
    obtain ⟨x,c,a⟩:=e9.1 b;refine e9.2 ⟨x,c, ?_⟩;unfold pz at a;injection a with a;simpa using congrArg Array.toList a
  intro b;obtain ⟨x,c,a⟩:=e9.1 b;exact e9.2 ⟨x,c,by unfold pz;rw [a]⟩
theorem Gp {ge} {l:List RowB} {k} {x:RowB} (b:iJ ge (l.take k)) (e:l[k]?=some x) (f:ah ge x.l=true) (c:cK (fm (l.take k)) ⟨(aw x.l).toArray⟩=false):iJ ge (l.take (k+1)):=by
  obtain ⟨g,h⟩:=c9.1 e;rw [n9 g,h];refine ⟨fun i a=> ?_, ?_⟩
  · rcases l7.1 a with a | a
    · exact b.1 i a
    obtain rfl:=i7.1 a;exact f
  rw [p8,E9];refine ⟨b.2,by simp,fun m ha n d j=> ?_⟩;simp only [List.map_cons,List.map_nil,i7] at d;subst d;subst j;rw [vG.2 ha] at c;cases c
theorem pA {ge} {l:List RowB} {k} {x:RowB} (c:l[k]?=some x) (a:cK (fm (l.take k)) ⟨(aw x.l).toArray⟩=true\/ah ge x.l=false):bl ge (l.map (·.l))=none:=by
  unfold bl;rw [if_neg];rintro ⟨_,d,b⟩;have e:=g8 c;rcases a with a | a
  · obtain ⟨f,g⟩:=c9.1 c
    have h:=vG.1 a;rw [w9] at b;have i:l=l.take k++x::l.drop (k+1):=by rw [<-g, <-l8 f,r8]
    rw [i,p8,List.map_cons,E9] at b;exact b.2.2 _ h _ (j8 ..) rfl
  have:=d x.l (e9.2 ⟨x,e,rfl⟩);rw [a] at this;cases this
theorem Gq {ge l} (a:iJ ge l) (b:l.length<=4096):gZ ge (l.map (·.l)):=by
  refine ⟨by rw [g7];exact b,fun f c=> ?_, ?_⟩
  · obtain ⟨d,e,rfl⟩:=e9.1 c
    exact a.1 d e
  rw [w9];exact a.2
end Go.Dol
namespace Go.Proofs.YtecpbcmpncgokaaGreat
theorem _root_.Go.Dol.Rd.apartRow {w w' B size n A xs} (b:Rd w B size A n xs) (l:B<=w) {row} (e:w.grownBy w' row) (f:0<n-> ∀j,au A=some j->some j≠row):Rd w' B size A n xs:=by
  refine ⟨b.len,fun c=> ?_⟩;obtain ⟨a,g,d,h,i⟩:=b.at_ c;exact ⟨a,g,d,h,fun j u k=>(k7 (e.block a qO (f c a (by rw [d];rfl)))).trans (i j u k)⟩
theorem vH {w g base T cs A n c xs} (d:Blk w g T cs) (e:T≠5) (f:Seg w base 5 1 A n c xs):some g≠aT A c:=by
  intro b;unfold aT at b;split at b
  · rcases f.2.2.2 with j | ⟨h,k,l,rfl,_,a,_⟩
    · omega
    have i:g=h:=by simpa [au] using b
    rw [<-i] at a;unfold Blk at d;rw [d] at a;injection a with a;injection a with _ a;exact e a
  cases b
theorem Gr {w ops rest o a Q} (j:Region.wanted o (yielded ops a.tmps)=true) (s xo)
    (k:o.op= .call { callee:= .builtin .append,args:= #[s,xo],argTypes:= #[36,9] })
    (base A n c xs) (l:a.eval s= .slice A n c) (d:Seg w base 5 1 A n c (bc xs))
    (st) (m:a.eval xo= .string ⟨st.toArray⟩) (v:n+st.length<=kaa) (hbase:base<=w)
    (e: ∀(b:LU) (A':OA) (c':Nat) (w':World),Hid (b=xs++st)->Seg w' base 5 1 A' b.length c' (bc b)->Below base w w'->w.grownBy w' (aT A c)->((A'=A/\c'=c)\/au A'=some w.heap.size)->
      wpList an ops Q rest (a.put o.dst (.slice A' b.length c')) w'):wpList an ops Q (o::rest) a w:=by
  refine pB j fun x p=> ?_;have q:(⟨st.toArray⟩:BA).size=st:=by simp [ByteArray.size]
  have f:=Src.ofString (P:=an) (w:=w) l9 ⟨st.toArray⟩;rw [q,vI] at f;refine mf w s xo _ _ k base _ _ 1 1 q7 eh rfl A n c (bc xs) l d _ st (bc st) m f (by unfold maxLen;omega) qO hbase ?_;intro A' c' w' g h r _ _;have y:n=xs:=by have:=d.1;rw [bC] at this;omega
  have i:n+st=(xs++st).length:=by rw [b7];omega
  rw [<-ez,i] at g;rw [i];exact p _ _ (e _ A' c' w' rfl g ((bR _ _).grown h hbase (fun t u=>(d.row t u).1)) h (r.imp id fun e=>e.2))
theorem Gs {w ops rest o a Q} (j:Region.wanted o (yielded ops a.tmps)=true) (s xo)
    (k:o.op= .call { callee:= .builtin .append,args:= #[s,xo],argTypes:= #[36,36] })
    (base A n c xs) (l:a.eval s= .slice A n c) (d:Seg w base 5 1 A n c (bc xs))
    (B A2 m c2 news) (p:a.eval xo= .slice A2 m c2) (f:Rd w B 1 A2 m (bc news))
    (v:n+m<=kaa) (hbase:base<=w)
    (e: ∀(b:LU) (A':OA) (c':Nat) (w':World),Hid (b=xs++news)->Seg w' base 5 1 A' b.length c' (bc b)->Below base w w'->w.grownBy w' (aT A c)->((A'=A/\c'=c)\/au A'=some w.heap.size)->
      wpList an ops Q rest (a.put o.dst (.slice A' b.length c')) w'):wpList an ops Q (o::rest) a w:=by
  refine pB j fun x q=> ?_;refine mf w s xo _ _ k base _ _ 1 1 q7 eh rfl A n c (bc xs) l d _ m (bc news) p (Src.ofRd q7 f (fW _)) (by unfold maxLen;omega) qO hbase ?_;intro A' c' w' g h r _ _;have y:n=xs:=by have:=d.1;rw [bC] at this;omega
  have z:m=news:=by have:=f.len;rw [bC] at this;omega
  have i:n+m=(xs++news).length:=by rw [b7];omega
  rw [<-ez,i] at g;rw [i];exact q _ _ (e _ A' c' w' rfl g ((bR _ _).grown h hbase (fun t u=>(d.row t u).1)) h (r.imp id fun e=>e.2))
def vJ (w:World) (r:Option (LU)) (b:Ending) (w':World):Prop:=
  Below w w w'/\match r with
  | none=>b= .returned (.tuple #[eL, .int .i64 1])
  | some d=> ∃(l:LU) (c:OA) (a:Nat),Hid (l=d)/\b= .returned (.tuple #[.slice c l a, .int .i64 0])/\w'.ownsRow w 5 1 (.slice c l a) l (bc l)/\l<=a/\a<=maxLen
def Gt (b:List RowB) (B:Nat) (w:World) (i:Value) (wr:World):Prop:=
  ∃a:Nat,i= .int .i64 a/\a<=b.length/\Hid (iJ geS (b.take a))/\MapL an 9 wr B (ey (fm (b.take a)))/\Below w w wr
def pC (d:List RowB) (g base:Nat) (w:World) (j i:Value) (wr:World):Prop:=
  ∃(b:Nat) (out:LU) (f:OA) (h:Nat) (a:RowB) (e:Nat),i= .int .i64 b/\b<=d/\j= .slice f out h/\wr.ownsRow base 5 1 (.slice f out h) out (bc out)/\Blk wr g 274 [.slice a.A a.l a.c, .int .i64 e]/\
    Hid (out++dI a.l e ((d.drop b).map (·.l))=bH (d.map (·.l)))/\Rd wr base 1 a.A a.l (bc a.l)/\a.l<=a.c/\a.c<=maxLen/\a.l.length<=kae/\e<=7/\out<=100+b*2097252/\Below base w wr
theorem Gu (A rs c w) (f1:Rd w w.heap.size 1 A rs.length (rc rs)) (g1:Rws w w.heap.size rs) (d3:rs.length<=kaf) (h1: ∀x∈rs,x.l.length<=140737488351232):
    Calls an 205 #[.slice A rs c] w (vJ w (bl geS (rs.map (·.l)))):=by
  obtain ⟨Z,Q⟩:=gH (bl geS (rs.map (·.l)));rw [<-Q];have g2:=qI h1;clear h1;have i2:= @run_makeMap an;go_in;go_wp2_with fail;clear i2;obtain ⟨B,R⟩:=gH w.heap.size;obtain ⟨i1,a0⟩:=gX (w.alloc (.map #[] 0));have j1:MapL an 9 i1 B []:=by rw [a0,R];exact Pn w
  have k1:Below w w i1:=by rw [a0];exact (bR _ _).alloc (lR _) _
  rw [<-a0, <-R];clear a0;go_loopw [17] (fun i wr=>Gt rs B w i wr) (fun i _=>rs-(intOf i).toNat)
  case atStart=>exact ⟨0,rfl,zL,qI ⟨fun x r=>by simp at r,by simp⟩,j1,k1⟩
  case round=>
    clear j1 k1;obtain ⟨a,rfl,j2,t0,l1,e⟩:=hrel;have F:=e.size;have k2:=qiJ (a+1);by_cases G:a<rs
    · have u0:=ltI a rs.length
      have l2:=zeI a;have b0:=f1.below e;obtain ⟨m2,n2,rfl,o2,S⟩:=b0.at_ qO;have m:=gE G;obtain ⟨x,r⟩:=gX (rs[a]);rw [<-r] at m;have p2:=S _ _ (pD m);have z:=g8 m;obtain ⟨C,c0,d0⟩:=g1 x z;have q2:=g2.out x z;have H:=qI (iu x.A x.l x.c wr ((C.below e).more F) qO);have v0:=qI m;have m1:Hid (fm (rs.take (a+1))=fm (rs.take a)++[⟨(aw x.l).toArray⟩]):=by unfold Hid fm;rw [n9 G,p8, <-r];rfl
      clear r S m z;go_wp2_with fail;refine H.mono ?_;rintro s I ⟨b,n,rfl,T⟩;rw [<-n] at m1;have w0:(⟨b.toArray⟩:BA).size<=maxLen:=by
        show b.toArray.size<=_;have:=ew x.l;rw [<-n] at this;simp [this];unfold maxLen;omega
      have J:=NJ l9 w0;have e0:=l1.belowW T;have x0:=e.next T;have n1:=x0.size;obtain ⟨r2,f0,s2,hm1,hput1,y0⟩:=e0.update dG x7 J (.int .i64 1);obtain ⟨e3,z0,t2,hm2,hput2,A0⟩:=e0.update dG x7 J (.int .i64 2);cases D:cK (fm (rs.take a)) ⟨b.toArray⟩ with
      | true=>
        have E:Hid (Z=none):=by unfold Hid;rw [Q];exact pA v0.out (.inl (by rw [<-n];exact D))
        have u2:(Instr.lookup 269 (.map (some B)) (.string ⟨b.toArray⟩) false).run an I= .ok (.int .i64 1) I:=by
          rcases e0.look dG x7 (fi I) J false with ⟨h2,_⟩ | ⟨B0,h2,h3⟩
          · exact absurd rfl (h2 _ (uf D))
          rw [ug h2] at h3;exact h3
        have f3:(Instr.lookup 269 (.map (some B)) (.string ⟨b.toArray⟩) false).run an z0= .ok (.int .i64 2) z0:=by
          rcases hm2.look dG x7 (fi z0) J false with ⟨h2,_⟩ | ⟨B0,h2,h3⟩
          · exact absurd rfl (h2 _ hput2.mem)
          exact z188
        have g0:=x0.trans (ak A0 (by have:=R.out;omega) n1);clear s2 hm1 hput1 y0 D hm2 hput2 A0;go_wp2_with fail;go_ret2;rw [E];exact ⟨g0,rfl⟩
      | false=>
        have u2:(Instr.lookup 269 (.map (some B)) (.string ⟨b.toArray⟩) false).run an I= .ok i0 I:=by
          rcases e0.look dG x7 (fi I) J false with ⟨h2,h3⟩ | ⟨B0,h2,h3⟩
          · exact h3
          exact absurd rfl (jI D _ h2)
        have g3:(Instr.lookup 269 (.map (some B)) (.string ⟨b.toArray⟩) false).run an f0= .ok (.int .i64 1) f0:=by
          rcases hm1.look dG x7 (fi f0) J false with ⟨h2,_⟩ | ⟨B0,h2,h3⟩
          · exact absurd rfl (h2 _ hput1.mem)
          exact z187
        have h0:=x0.trans (ak y0 (by have:=R.out;omega) n1);have v2:=h0.size;have w2:Hid (r2=ey (fm (rs.take (a+1)))):=by
          unfold Hid;rcases hput1 with ⟨_,rfl⟩ | ⟨i3,j3,x2,y2,_⟩
          · rw [m1];simp [ey]
          exact absurd rfl (jI D (Value.string ⟨b.toArray⟩,x2) (by rw [y2];simp))
        have K:=vv x.A x.l x.c f0 ((C.below h0).more v2) c0 d0 q2;have z2:Hid (cK (fm (rs.take a)) ⟨(aw x.l).toArray⟩=false):=by rw [<-n];exact D
        clear t2 hm2 hput2 A0 D hput1 y0;cases L:ah geS x.l with
        | false=>
          have E:Hid (Z=none):=by unfold Hid;rw [Q];exact pA v0.out (.inr L)
          rw [L] at K;have C0:=qI K;clear K L;go_wp2_with (go_at_call 251;refine C0.mono ?_;rintro s A2 ⟨rfl,o⟩);go_ret2;rw [E];exact ⟨h0.next o,rfl⟩
        | true=>
          have B2:Hid (iJ geS (rs.take (a+1))):=Gp t0.out v0.out L z2.out;rw [L] at K;have C0:=qI K;clear K L;go_wp2_with (go_at_call 251;refine C0.mono ?_;rintro s A2 ⟨rfl,o⟩);exact ⟨⟨a+1,by go_num,qO,B2,by rw [<-w2];exact hm1.belowW o,h0.next o⟩,by simp [intOf];omega⟩
    have u0: ¬(a:Int)<rs:=qO;have o1:a=rs:=qO;have p1:Hid (iJ geS rs):=by unfold Hid;have:=t0.out;rw [o1,y7] at this;exact this
    clear o1 l1 t0;by_cases C2:rs.length<=4096
    · have D2: ¬(4096:Int)<(rs:Int):=qO
      have E2:Hid (gZ geS (rs.map (·.l))):=Gq p1.out C2;have F2:=ny wr;have D0:Below w w (wr.alloc (.cells #[.int .u8 68, .int .u8 80, .int .u8 75, .int .u8 49] 5 (4,5))):=e.alloc F _;have E0:=dL (some ⟨wr,0,none⟩) mgL 4 rs (wr.alloc (.cells #[.int .u8 68, .int .u8 80, .int .u8 75, .int .u8 49] 5 (4,5))) ((nz wr).more (by simp)) (by decide);have q1:aj (rs.length:Int)=rs:=by unfold aj;omega
      rw [q1] at E0;have r1:=qI E0;clear E0 q1;go_wp2_with fail;refine r1.mono ?_;rintro s F0 ⟨M,G0,H0,G2,rfl,j0,T,k3,l3⟩;have I0:=D0.next T;have s1:=I0.size;have t1:w<=(wr.alloc (.cells #[.int .u8 68, .int .u8 80, .int .u8 75, .int .u8 49] 5 (4,5))).heap.size:=D0.size;have j0:=j0.base t1;have u1:=G2;have m3:M.length<=100:=by
        rw [u1,b7];have G:=aJ 8 rs qO;have h2:mgL.length=4:=rfl;omega
      have v1:=o9 F0 274 [eL, .int .i64 0];obtain ⟨N,J0⟩:=gX F0.heap.size;obtain ⟨k0,U⟩:=gX (F0.alloc (.cells #[eL, .int .i64 0] 274));have w1:Blk k0 N 274 [eL, .int .i64 0]:=by rw [U,J0];exact v1
      have x1:Below w w k0:=by rw [U];exact I0.alloc s1 _
      have y1:k0.ownsRow w 5 1 (.slice G0 M H0) M (bc M):=by rw [U];exact j0.alloc _
      have K0:w<=N:=qO;have l0:Hid (pC rs N w w (.slice G0 M H0) i0 k0):=⟨0,M,G0,H0,⟨[],none,0⟩,0,rfl,zL,rfl,y1,w1,by unfold Hid bH;rw [u1,g7,y8,g9];rfl,L8,lR _,by show 0<=maxLen;unfold maxLen;omega,by simp,qO,qO,x1⟩;clear v1 w1 x1 y1 I0 T D0 r1 F2 j0 e R;go_wp2_with fail;rw [<-U, <-J0];clear U J0 s1 t1;go_loopw [8,49] (fun H2 i wr=>pC rs N w w H2 i wr) (fun _ i _=>rs-(intOf i).toNat)
      case atStart=>exact l0.out
      case round=>
        clear l0;obtain ⟨a,t,L0,M0,u,v,rfl,j2,rfl,V,m0,heq,N0,I2,J2,K2,z1,n3,e⟩:=hrel;have F:=e.size;have k2:=qiJ (a+1);by_cases G:a<rs
        · have u0:=ltI a rs.length
          have l2:=zeI a;have b0:=f1.below e;obtain ⟨m2,n2,rfl,o2,S⟩:=b0.at_ qO;have m:=gE G;obtain ⟨x,r⟩:=gX (rs[a]);rw [<-r] at m;have p2:=S _ _ (pD m);have z:=g8 m;obtain ⟨C,c0,d0⟩:=g1 x z;have O0:=p1.1 x z;have O:=dD x.l O0;have L2:0<x.l.length:=by obtain ⟨o3,p3,s⟩:=lV O0;rw [s];simp
          have A1:Hid (rs.drop a=x::rs.drop (a+1)):=by unfold Hid;rw [l8 G,r]
          have P0:=qI O;have Q0:=lX u.l v x.l;have n0:=vx u.l v x.l;have B1:=vy (prev:=u.l) (raw:=x.l) z1;obtain ⟨d,W,R0⟩: ∃d W,aO u.l v x.l=(d,W):=⟨_,_,rfl⟩;have S0:=qI (CG w N K0 u.A u.l u.c v x.A x.l x.c wr m0 (N0.more K0) I2 J2 (C.below e) c0 d0 K2 O L2 z1);have C1:Hid (dI u.l v (x.l::(rs.drop (a+1)).map (·.l))=fL x.l (d,W)++dI x.l (aI v d) ((rs.drop (a+1)).map (·.l))):=by unfold Hid;rw [dI,R0]
          rw [R0] at S0 Q0 n0 B1;clear R0;have D1:=C.below e;clear r S m z O0 b0;go_wp2_with fail;refine S0.mono ?_;rintro s E1 ⟨j,F1,M2,g0,rfl,T0,q3,r3,G1,o0,H1⟩;have s3:=o0.size;have I1:=aE V m0 (by decide) o0;have N2:=e.trans (ak o0 K0 F);have H:=qI (iu x.A x.l x.c E1 ((D1.grown o0 F (fun f g=>by injection g with g;omega)).more qO) (by have:=P0.out;omega));have U0:=s7 I1;have J1:=fun O2 h=>(s7 V).row O2 h;have t3:IntKind.u8.wrap d=(d:Int):=by
            have:d<=2:=n0;unfold IntKind.wrap;simp [IntKind.bits,IntKind.signed];omega
          have u3:j.length<=kae:=by rw [g0];have:=P0.out;have y:=Q0;show W.length<=_;omega
          have v3:=n0;have K1:0<j.length-> ∀f,au F1=some f->f<E1.heap.size:=fun P f g=>by
            obtain ⟨P2,w3,Q2,y,_⟩:=T0.at_ P;rw [Q2] at g;injection g with g;have q:P2=f:=g;omega
          have L1:0<j.length-> ∀f,au F1=some f->some f≠aT L0 M0:=fun P f g q=>by
            have x3:=J1 f q.symm;rcases H1 P f g with y | y<;>omega
          have M1:=qI K1;have V0:=qI L1;clear Q0 n0 O K1 L1 H1 J1;go_wp2_with (first
            | (go_at_call 45;refine H.mono ?_;rintro s R2 ⟨b,n,rfl,k⟩;have w0:b.length<=32:=(by rw [n,ew];exact lR _);have N1:=k.size)
            | (at_builtin;refine Gr rfl (.tmp 59) (.tmp 61) rfl w.heap.size L0 t.length M0 t rfl (U0.belowW k) b rfl (by omega) (by omega) ?_;intro X W0 X0 p0 q0 Y o r0 O1;have y3:=o.size;have z3:X.length<=t+32:=(by rw [q0,b7];omega))
            | (at_builtin;refine Gs rfl (.tmp 62) (.tmp 65) rfl w.heap.size W0 X.length X0 X rfl (Y.alloc _) (p0.heap.size+1) _ 1 1 [UInt8.ofNat d] rfl (Rd.one p0 _ d (by omega) (by omega)) (by omega) (by simp;omega) ?_;intro Y0 S2 T2 P1 Q1 R1 Z0 a1 U2;
               have S1:=(T0.below k).apartRow N1 r0 V0.out;have T1:=((S1.alloc qO (.cells #[.int .u8 d] 5)).apartRow (by simp;omega) a1 (fun P f g q=>(O1.elim (fun y=>V0.out P f g (by rw [<-y.1, <-y.2];exact q)) (fun y=>(by unfold aT at q;split at q;(rw [y] at q;injection q with q;have:=M1.out P f g;omega);cases q)))));
               have V2:=bA (c:=M2) T1))
          have W2:(⟨j.toArray⟩:BA).size=j:=by simp [ByteArray.size]
          have A3:Y0.length<=t+33:=by rw [Q1,b7];simp;omega
          have X2:(⟨j.toArray⟩:BA).data.toList=j:=by simp
          refine (ia S2 Y0 T2 ⟨j.toArray⟩ P1 R1.rd (by rw [W2];omega)).mono ?_;rw [X2];rintro s Y2 ⟨s0,U1,V1,W1,rfl,X1,Y1,B3,C3⟩;have Z1:=Z0.size;have b1:=G1.below k G1.lt;have c1:=b1.grown r0 (vH b1 (by decide) (U0.belowW k));have d1:=(c1.alloc (.cells #[.int .u8 d] 5)).grown a1 (vH (c1.alloc (.cells #[.int .u8 d] 5)) (by decide) (Y.alloc (.cells #[.int .u8 d] 5)));have a2:=d1.below Y1 d1.lt;have e1:=(((N2.trans (k.mono qO)).trans (o.trans ((bR _ _).alloc qO _))).trans Z0).trans (Y1.mono (by simp at Z1;omega));have D3:p0.heap.size+1<=P1:=by simpa using Z1
          have Z2:=aJ 8 j qO;have a3:s0.length<=Y0+9+j:=by rw [W1,b7];unfold text;rw [b7];omega
          have b2:Hid (s0++dI x.l (aI v d) ((rs.drop (a+1)).map (·.l))=bH (rs.map (·.l))):=by
            unfold Hid;rw [<-heq,A1,List.map_cons,C1,W1,Q1,q0,n];unfold fL;rw [show j=W from g0.out];exact z139
          have c2:=B1;have O:=P0.out;have d2:=C.below e1;have e2:pC rs N w w (.slice U1 s0 V1) (.int .i64 ((a+1:Nat):Int)) Y2:=
            ⟨a+1,s0,U1,V1,x,aI v d,rfl,qO,rfl,X1.base qO,a2,b2,d2,c0,d0,O,c2,qO,e1⟩
          have l0:=qI e2;clear e2 b1 c1 d1 a2 e1 d2 b2 c2 O a3 Z2 R1 Y Z0 o k T1 S1 V2 r0 a1 O1 U2 M1 V0 U0 H S0 C D1 X1 T0 I1 V m0 heq C1 A1 N0;go_wp2_with fail;exact ⟨by rw [show ((a:Int)+1)=((a+1:Nat):Int) by omega];exact l0.out,by simp [intOf];omega⟩
        have u0: ¬(a:Int)<rs:=qO;have f2:Hid (t=bH (rs.map (·.l))):=by
          exact z284
        have H:=qI (iu L0 t M0 wr (d8 V) qO);have E:Hid (Z=some (bH (rs.map (·.l))++aw (bH (rs.map (·.l))))):=by unfold Hid;rw [Q];unfold bl;rw [if_pos E2.out]
        clear heq N0 m0;go_wp2_with (first
          | (go_at_call 45;refine H.mono ?_;rintro s R2 ⟨b,n,rfl,k⟩;have w0:b.length<=32:=(by rw [n,ew];exact lR _);have N1:=k.size)
          | (at_builtin;refine et rfl (.tmp 72) (.tmp 74) rfl w.heap.size _ t.length t rfl (az V k) ⟨b.toArray⟩ rfl (by show t.length+b.toArray.size<=_;simp;omega) (by omega) ?_;intro X W0 X0 p0 q0 Y o r0 b3 c3))
        go_ret2;rw [E];exact ⟨(e.trans (k.mono F)).trans o,X,W0,X0,by unfold Hid;rw [q0,f2,n,f2],rfl,Y,b3,c3⟩
    have D2:=ltI 4096 rs.length;have E:Hid (Z=none):=by unfold Hid;rw [Q];unfold bl;rw [if_neg (fun h=>by have:=h.1;rw [g7] at this;omega)]
    go_wp2_with fail;go_ret2;rw [E];exact ⟨e,rfl⟩
