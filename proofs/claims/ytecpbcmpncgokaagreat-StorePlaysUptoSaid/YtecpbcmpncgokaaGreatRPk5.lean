/- Walks and laws. Conditions: as stated. -/
import Derived.Test.YtecpbcmpncgokaaGreatSto1
import Derived.Test.YtecpbcmpncgokaaGreatObjE
import Derived.Test.YtecpbcmpncgokaaGreatRPk2
set_option maxRecDepth 99999
set_option maxHeartbeats 25600000
set_option linter.all false
open Go.Proofs.Tryz renaming prog->an
open Go.Act renaming put->Ql
open Go.RowKit Go.Dol
namespace Go.Proofs.YtecpbcmpncgokaaGreat
def Db (w:World) (a:Nat) (r:Except Int BA×Dk) (b:Ending) (w':World):Prop:=b= .returned (jt r.1)/\Rdk w' a r.2/\w.grownBy w' (some a)
theorem oF (A l c w) (b:Rd w w.heap.size 1 A l.length (bc l)) (d:l.length<=140737488355200):
  Calls an 123 #[.slice A l c] w fun a w'=>a= .returned (.string (idO l))/\Below w w w':=(jz A l c w b d).mono fun a w' ⟨h,e,f,g⟩=>⟨by rw [f,e];rfl,g⟩
theorem lq (id w) (a:id.size<=70368744177600):
  Calls an 56 #[.string id] w fun b w'=>b= .returned (.string (af id))/\Below w.heap.size w w':=by
 have c:=tI id w a;go_in;go_wp2_with fail;refine c.mono ?_;rintro b d ⟨e,f,rfl,g⟩;have h:=tp e id d f.out a;go_wp2_with fail;go_ret;exact ⟨rfl,g⟩
section
variable {w:World} {gr:Nat} {D:Dk}
theorem tJ (h:Rdk w gr D) (g:OkW D) (id) (u:id.size<=70368744177600):
  Calls an 52 #[.pointer (some gr),.string id] w (RetGet w (aK geS D id)):=by
 obtain ⟨r,HR⟩:=gH (aK geS D id);rw [<-HR];have P:=g.len;by_cases hs:id.size=32
 ·have h32:=qI hs;have hnB:=(gg hs).1;have v:((id.size:Int)!=32)=false:=by rw [hs];rfl
  clear hs;have x:=qI (lq id w u);go_in;go_wp2_with fail;refine x.mono ?_;rintro e Q ⟨rfl,hb02⟩;have y:=h.below hb02;have z:(af id).size<=maxLen:=by rw [gP,h32];decide
  have hRd:=jA y (af id) z qO (fun b B=>g.small' B);cases hl:aa D.l (af id) with
  | none=>
   exact z235
  | some m=>
  have hrd:aU D (af id)=(m,0):=by
   unfold aU;rw [if_neg (by rw [hnB];decide),hl]
  rw [hrd] at hRd;have HRd:=qI hRd;clear hRd hrd;go_wp2_with fail;refine HRd.mono ?_;rintro e w3 ⟨b,A,c,hbr,rfl,ho3,hb3⟩;have hb03:=hb02.next hb3;have hbq:Hid (b=m):=hbr;have C:=g.small' hl;have E:=dz ho3;have F:b.length<=kaa:=by rw [hbq];exact C
  have G:=qI (tK A b c 2097152 w3 (d8 ho3) F E.1 qO);clear hbr HRd;go_wp2_with fail;refine G.mono ?_;cases hop:cf b 2097152 with
  | none=>
   exact z250
  | some R=>
  rintro e w4 ⟨p,i,j,hp,rfl,n,hb4,o,q⟩;have H:=hb03.next hb4;have S:p.length<=kae:=by
   rw [hp];have:=(jr hop).2;omega
  have I:=qI (oF i p j w4 (d8 n) qO);have hr:Hid (r=if aw p=id.data.toList/\ah geS p=true then .ok p else .error 2):=by
   exact z276
  clear hl hop hbq;go_wp2_with fail;refine I.mono ?_;rintro e J ⟨rfl,s⟩;have hb05:=H.next s;have t:=az n s;by_cases hs:idO p=id
  ·have q2:=eM hs;have K:Hid (aw p=id.data.toList):=ox.1 hs;have a:=iv i p j J (d8 t) o q qO;clear hs;cases d:aZ geS p with
   | none=>
    rw [d] at a;have k:=qI a;have hr2:Hid (r= .error 2):=by
     unfold Hid;rw [hr,if_neg (by unfold ah;rw [d];simp)]
    clear a d;go_wp2_with fail;refine k.mono ?_;rintro e L ⟨rfl,f⟩;go_wp2_with fail;go_ret2;rw [hr2];exact ⟨hb05.next f,rfl⟩
   | some T=>
   rw [d] at a;have k:=qI a;have hr2:Hid (r= .ok p):=by
    unfold Hid;rw [hr,if_pos ⟨K.out,by unfold ah;rw [d];rfl⟩]
   clear a d;go_wp2_with fail;refine k.mono ?_;rintro e L ⟨U,V,W,X,Y,Z,a0,b0,c0,d0,e0,f0,g0,h0,i0,j0,M,rfl,_,_,_,f,_,_,_⟩;have N:=az t f;have O:=hb03.size;clear M;go_wp2_with fail;go_ret2;rw [hr2];exact ⟨hb05.next f,p,i,j,rfl,rfl,N.base O,o,q⟩
  exact z259
 have v:((id.size:Int)!=32)=true:=by simp;omega
 have hr:Hid (r= .error 1):=by
  unfold Hid;rw [HR];unfold aK;rw [if_pos hs]
 clear hs;go_in;go_wp2_with fail;go_ret2;rw [hr];exact ⟨bR _ _,rfl⟩
theorem Dc (h:Rdk w gr D) (o:OkW D) (id) (q:id.size<=70368744177600):
  Calls an 53 #[.pointer (some gr),.string id] w (fF w gr (dropO D id)):=by
 obtain ⟨i,HR⟩:=gH (dropO D id);rw [<-HR];have E:=o.len;by_cases a:id.size=32
 ·have h32:=qI a;have s:((id.size:Int)!=32)=false:=by rw [a];rfl
  have t:(af id).size<=maxLen:=by rw [gP,a];decide
  clear a;have u:=qI (lq id w q);go_in;go_wp2_with fail;refine u.mono ?_;rintro e f ⟨rfl,j⟩;have k:=h.below j;have v:=qI (gi k (af id) qO);go_wp2_with fail;refine v.mono ?_;cases hl:(aa D.l (af id)).isSome with
  | false=>
   have b:Hid (i=(6,D)):=by
    exact z204
   rintro e g ⟨m,rfl,c⟩;have d:Below f f g:=by rw [c];exact (bR _ _).drewN' m
   have n:=k.below d;clear hl c;go_wp2_with fail;go_ret;rw [b];exact ⟨rfl,n,ax (j.next d) _⟩
  | true=>
  have b:Hid (i=aB D (af id)):=by
   unfold Hid;rw [HR];unfold dropO;rw [if_neg (by rw [h32];simp),if_pos hl]
  rintro e g ⟨m,rfl,c⟩;have d:Below f f g:=by rw [c];exact (bR _ _).drewN' m
  have n:=k.below d;have x:=j.next d;clear hl c;have y:=qI (lq id g q);go_wp2_with fail;refine y.mono ?_;rintro e F ⟨rfl,r⟩;have z:=n.below r;have A:=qI (oG z o (af id) t qO);go_wp2_with fail;refine A.mono ?_;rintro e G ⟨rfl,B,C⟩;go_wp2_with fail;go_ret;rw [b];exact ⟨rfl,B,aq (ax (x.next r) _) C⟩
 have s:((id.size:Int)!=32)=true:=by simp;omega
 have b:Hid (i=(1,D)):=by
  unfold Hid;rw [HR];unfold dropO;rw [if_pos a]
 clear a;go_in;go_wp2_with fail;go_ret;rw [b];exact ⟨rfl,h,gR _ _⟩
theorem De (h:Rdk w gr D) (v:OkW D) (P:D.l.length+1<=kac) (A raw c) (i:Rd w w 1 A raw.length (bc raw)) (y:raw.length<=c) (Q:c<=maxLen) (R:raw.length<=kab):
  Calls an 54 #[.pointer (some gr),.slice A raw c] w (Db w gr (putO geS D raw)):=by
 obtain ⟨r,n⟩:=gH (putO geS D raw);rw [<-n];have b:=iv A raw c w i y Q R;cases d:aZ geS raw with
 | none=>
  rw [d] at b;have o:=qI b;have hr2:Hid (r=(.error 1,D)):=by
   unfold Hid;rw [n];exact ju _ _ _ (by unfold ah;rw [d];rfl)
  clear b d;go_in;go_wp2_with fail;refine o.mono ?_;rintro e S ⟨rfl,z⟩;have a:=z.alloc z.size (.cells #[i0,eL,eL,eS,eL,eS,eS,eS,i0,eS] 40);go_wp2_with fail;go_ret2;rw [hr2];exact ⟨rfl,h.below a,ax a _⟩
 | some A0=>
 rw [d] at b;have o:=qI b;have q:Hid (ah geS raw=true):=qI (by unfold ah;rw [d];rfl);have B0:=dD raw q;have hr2:=qI (n.out.trans (jv q));clear b d;go_in;go_wp2_with fail;refine o.mono ?_;rintro e S ⟨T,U,V,W,X,Y,Z,a0,b0,c0,d0,e0,f0,g0,h0,j0,k0,rfl,_,_,_,a,_,_,_⟩;clear k0;have a:=a.alloc a.size (.cells #[T,.slice U V W,.slice X Y Z,a0,.slice b0 c0 d0,e0,f0,g0,h0,j0] 40);have l0:=h.below a;have B:=qI (oF A raw c _ ((i.below a).more a.size) qO);go_wp2_with fail;refine B.mono ?_;rintro e C0 ⟨rfl,C⟩;have E:=l0.below C;have m0:=a.next C;obtain ⟨id,j⟩: ∃id:BA,id=idO raw:=⟨_,rfl⟩;have k:=qI j;have F:id.size=32:=by rw [j];exact dO raw
 rw [<-j];clear j B;have n0:=qI (tJ E v id qO);go_wp2_with fail;refine n0.mono ?_;obtain ⟨o0,hq⟩:=gX (aK geS D id);rw [<-hq];rw [<-k,<-hq] at hr2;rintro e w4 ⟨G,hm⟩;have h4:=E.below G;have hb04:=m0.next G;have hr4:=(i.below hb04).more hb04.size;cases o0 with
 | ok D0=>
  exact z229
 | error E0=>
 obtain rfl:=hm;rcases oy F hq.symm with rfl | rfl
 ·have hr3:Hid (r=(.error 2,D)):=by
   unfold Hid;rw [hr2];rfl
  clear hq;go_wp2_with fail;go_ret2;rw [hr3];exact ⟨rfl,h4,ax hb04 _⟩
 have p0:=qI (lq id w4 qO);clear hq;go_wp2_with fail;refine p0.mono ?_;rintro e q0 ⟨rfl,H⟩;have r0:=h4.below H;have s:=hb04.next H;have s0:=(i.below s).more s.size;have t0:=qI (Df A raw c q0 s0 qO y);go_wp2_with fail;refine t0.mono ?_;rintro e F0 ⟨I,u0,v0,m,rfl,w0,J,x0,y0⟩;have z0:=r0.below J;have K:=s.next J;have G0:I.length<=2621449:=by rw [m];exact jw q.out
 have H0:(af id).size=66:=by rw [gP,F]
 have t:=qI (tL z0 v (af id) qO u0 I v0 P qO 0 w0 x0 y0 (zL));rw [m,k] at t;obtain ⟨f,u⟩:=gX (ao D (af (idO raw)) (aA raw));have hr3:Hid (r=if f.1≠0 then (.error f.1,f.2) else (.ok id,f.2)):=by
  unfold Hid;rw [hr2,k,u];rfl
 rw [<-u,<-k,<-m] at t;clear u m;go_wp2_with fail;refine t.mono ?_;rintro e I0 ⟨rfl,L,M⟩;obtain ⟨N,O⟩:=f;by_cases g:N=0
 ·have hr4:Hid (r=(.ok id,O)):=by unfold Hid;rw [hr3,if_neg (by simpa using g)]
  subst g;go_wp2_with fail;go_ret2;rw [hr4];exact ⟨rfl,L,aq (ax K _) M⟩
 have hr4:Hid (r=(.error N,O)):=by unfold Hid;rw [hr3,if_pos g]
 have J0:=bne_iff_ne.2 g;clear g;go_wp2_with fail;go_ret2;rw [hr4];exact ⟨rfl,L,aq (ax K _) M⟩
end
theorem wL:(an.info? 193).map (fun i=>(i.zero,i.size,i.bytes))=some (some (.agg #[eS,i0,i0,i0,eL]),5,64):=qkR
def RPts (w:World) (base:Nat) (A:OA) (c:Nat) (l:List PtA):Prop:=w.ownsRow base 193 5 (.slice A l.length c) l.length (rpc l)/\ ∀a∈l,B8 w base a.A a.p.raw/\a.p.raw.length<=a.c/\a.c<=maxLen
theorem RPts.below {w w' base A c l} (a:RPts w base A c l) (b:Below w.heap.size w w'):RPts w' base A c l:=
 ⟨az a.1 b,fun d e=>⟨(a.2 d e).1.keepB (fun f _ g=>b.block f g) b.size,(a.2 d e).2⟩⟩
def Iz (w:World) (r:Option (List Pt)) (b:Ending) (w':World):Prop:=
 Below w w w'/\match r with
 | none=>b= .returned (.tuple #[eL,.int .i64 2])
 | some e=> ∃(a:List PtA) (c:OA) (d:Nat),Hid (ptp a=e)/\b= .returned (.tuple #[.slice c a d,i0])/\RPts w' w c d a/\a.length<=4096
def wM (e:LU) (n:Nat) (w:World) (p l i:Value) (wr:World):Prop:=
 ∃(a:List PtA) (f:OA) (g:Nat) (b:LU) (h:OA) (d:Nat),p= .slice h b d/\l= .slice f a g/\i= .int .i64 a/\a<=n/\RPts wr w f g a/\
  Far wr w h b/\b<=d/\d<=maxLen/\b.length<=e/\Hid (bp geS a.length [] 0 e=some (ptp a,b))/\Hid (∀c∈a,0<c.p.raw.length/\c.p.raw.length<=2097152)/\Hid (∀c∈a,c.p.depth<=7)/\Below w w wr
theorem IA {ls} (a: ∀x∈ls,x.p.depth<=7):bO 0 (ptp ls)<=7:=by
 unfold bO;split
 ·omega
 rename_i p b;obtain ⟨x,c,rfl⟩:=e9.1 (List.mem_of_getLast? b);exact a x c
theorem IB {ge b} (c:b.length<37):ba ge b=none:=by
 unfold ba;split
 ·rfl
 rename_i d;have a:(b.take (b.length-32)).drop 4=[]:=p9 (by rw [b9];omega);rw [a];rfl
theorem pX (A b c w) (z0:Rd w w.heap.size 1 A b.length (bc b)) (A0:b.length<=c) (B0:c<=maxLen) (l4:b.length<=kab):
  Calls an 71 #[.slice A b c] w (Iz w (ba geS b)):=by
 obtain ⟨k,W⟩:=gH (ba geS b);rw [<-W];by_cases K2:b.length<37
 ·have hr0:Hid (k=none):=by unfold Hid;rw [W];exact IB K2
  have m4:(b:Int)<37:=qO;go_in;go_wp2_with fail;refine wp_region_held_drew (S:=fun t=>True) qkR (trivial) (fun m=> ?_);refine tk 0 (.slice A b c) rfl (fun _ _ _ h=>h) (Pg ⟨by rfl,fun F y=> ?_⟩) m ?_
  ·skip
   go_simp
  try simp only [Ql,sA,sB,sC,sD,sF]
  refine tk 1 (.int .i64 b) rfl (fun _ _ _ h=>h) (Pg ⟨by rfl,fun F y=> ?_⟩) m ?_
  ·skip
   go_simp
  try simp only [Ql,sA,sB,sC,sD,sE,sF]
  refine tk 2 (.bool true) rfl (fun _ _ _ h=>h) (Pg ⟨by rfl,fun F y=> ?_⟩) m ?_
  ·skip
   go_simp
  try simp only [Ql,sA,sB,sC,sD,sE,sF]
  refine tk 3 (.bool true) rfl (fun _ _ _ h=>h) (Pg ⟨by rfl,fun F y=> ?_⟩) m ?_
  ·skip
   go_simp
  try simp only [Ql,sA,sB,sC,sD,sE,sF]
  refine tl 4 undef ?_;refine tl 5 undef ?_;refine tl 6 undef ?_;refine tl 7 undef ?_;refine tk 8 (.bool true) rfl (fun _ _ _ h=>h) (Pg ⟨by rfl,fun F y=> ?_⟩) m ?_
  ·skip
   go_simp
  try simp only [Ql,sA,sB,sC,sD,sE,sF]
  refine tk 9 (.bool true) rfl (fun _ _ _ h=>h) (Pg ⟨by rfl,fun F y=> ?_⟩) m ?_
  ·skip
   go_simp
  try simp only [Ql,sA,sB,sC,sD,sE,sF]
  refine tl 10 undef ?_;refine tl 11 undef ?_;refine tl 12 undef ?_;refine tl 13 undef ?_;refine tl 14 undef ?_;refine tl 15 undef ?_;refine tl 16 undef ?_;refine tl 17 undef ?_;refine tl 18 undef ?_;refine tl 19 undef ?_;refine tl 20 undef ?_;refine tl 21 undef ?_;refine tl 22 undef ?_;refine tk 23 (.bool true) rfl (fun _ _ _ h=>h) (Pg ⟨by rfl,fun F y=> ?_⟩) m ?_
  ·skip
   go_simp
  try simp only [Ql,sA,sB,sC,sD,sE,sF]
  refine dn ?_;go_wp2_with fail;go_ret2;rw [hr0];exact ⟨(bR _ _).drew,rfl⟩
 have n4:=dfX ((b:Int)<37);obtain ⟨i,L1,o4,p4,C0,_,L2⟩:=fV (k:=4) 4 rfl z0 qO A0 B0;have D0:(convert 36 9 (.slice A i c)).run an w.drew= .ok (.string ⟨i.toArray⟩) w.drew:=bA C0.1.drew;have d1:=vR i [68,80,75,49];by_cases P:i=[68,80,75,49]
 ·rw [dT P] at d1;have f1:=qI P;obtain ⟨u,M1⟩:=gX (b.length-32);have q4:IntKind.i64.wrap (b-32)=(u:Int):=by rw [qJ qO];omega
  have M2:4<=u:=qO;have g1:u<=b:=qO;obtain ⟨E0,N1,r4,s4,O1,_,N2⟩:=fV (k:=u) (u:Int) rfl z0 g1 A0 B0;obtain ⟨v,k0,Q,P1,t4,u4,F0,_,_,_,O2⟩:=cm (k:=u) (u:Int) rfl z0 g1 A0 B0;obtain ⟨h1,P2,Q2,R2,v4,w4,i1,_,_,_,x4⟩:=fx (lo:=4) (hi:=u) 4 (u:Int) rfl rfl z0 M2 g1 A0 B0;have j1:=qI M1;clear M1 P;have k1:(convert 36 9 (.slice k0 v Q)).run an w.drew= .ok (.string ⟨v.toArray⟩) w.drew:=bA F0.1.drew;have X:=qI (jz A E0 c w.drew O1.1.drew qO);by_cases G0:aw E0=v
  ·have l1:=qI G0;clear G0;go_in;go_wp2_with fail;refine wp_region_held_drew (S:=fun t=>(convert 36 9 (.slice A i c)).run an t= .ok (.string ⟨i.toArray⟩) t/\(convert 36 9 (.slice k0 v Q)).run an t= .ok (.string ⟨v.toArray⟩) t) qkR (⟨D0,k1⟩) (fun m=> ?_);refine tl 0 (.slice A b c) ?_;refine tl 1 (.int .i64 b) ?_;refine tl 2 (.bool false) ?_;refine tl 3 (.bool false) ?_;refine tl 4 (.slice A b c) ?_;refine tl 5 (.slice A i c) ?_;refine tl 6 (.string ⟨i.toArray⟩) ?_;refine tk 7 (.bool false) rfl (fun _ _ _ h=>h) (Pg ⟨by rfl,fun F y=> ?_⟩) m ?_
   ·obtain ⟨S2,T2⟩:=y;go_simp<;>exact f1.out
   try simp only [Ql,sA,sB,sC,sD,sE,sF]
   refine tl 8 (.bool false) ?_;refine tl 9 (.bool false) ?_;refine tl 10 (.slice A b c) ?_;refine tl 11 (.slice A b c) ?_;refine tl 12 (.int .i64 b) ?_;refine tl 13 (.int .i64 u) ?_;refine tl 14 (.slice A E0 c) ?_;refine tl 16 (.slice A b c) ?_;refine tl 17 (.slice A b c) ?_;refine tl 18 (.int .i64 b) ?_;refine tl 19 (.int .i64 u) ?_;refine tl 20 (.slice k0 v Q) ?_;refine tl 21 (.string ⟨v.toArray⟩) ?_;refine rh 15 fun U2 m1=> ?_;go_simp;refine (X.out).mono ?_;rintro x H0 ⟨l,Y,rfl,d⟩;have d:Below w w H0:=⟨d.os,d.tape,d.output,d.size,d.block⟩;have I0:=bA (c:=c) (C0.1.belowW d (lR _));have J0:=bA (c:=Q) (F0.1.belowW d (lR _));refine hO m1 (⟨I0,J0⟩) (fun m=> ?_);obtain rfl:l=v:=by rw [Y];exact l1.out
   refine tl 22 (.bool false) ?_;refine tl 23 (.bool false) ?_;refine dn ?_;have V2:=d.size;have Z:Hid (k=match ad h1 with
    | none=>none
    | some (o,p)=>if 4096<o then none else match bp geS o [] 0 p with
     | none=>none
     | some (l0,a0)=>if a0=[]/\(l0.map (·.id)).Nodup then some l0 else none):=by
    unfold Hid;rw [W];unfold ba;rw [if_neg (by
     rintro (h | h | h)
     ·omega
     ·exact h (by rw [<-L1];exact f1.out)
     ·exact h (by rw [<-j1,<-N1,<-P1];exact l1.out))]
    rw [<-j1,Pq,<-R2];rfl
   have b0:=ee P2 h1 Q2 H0 ((i1.1.belowW d (lR _)).more V2) qO i1.2.1;clear l1 k1 J0 I0 X Y F0 O2 N2 L2 O1 W D0 C0 i1 d1;cases m0:ad h1 with
   | none=>
    rw [m0] at b0 Z;have G:=qI b0;have hr0:Hid (k=none):=Z.out;clear b0 m0;go_wp2_with fail;refine G.mono ?_;rintro x Q1 ⟨rfl,K0⟩;go_wp2_with fail;go_ret2;rw [hr0];exact ⟨d.next K0,rfl⟩
   | some W2=>
   obtain ⟨o,p⟩:=W2;rw [m0] at b0 Z;have G:=qI b0;have X2:=bL m0;clear b0 m0;go_wp2_with fail;refine G.mono ?_;rintro x Q1 ⟨a0,R1,S1,T1,rfl,U1,K0,Y2,Z2⟩;have n1:=d.next K0;clear G;by_cases y4:o<=4096
   ·have z4:=dfX ((4096:Int)<(o:Int));have c0:Hid (k=match bp geS o [] 0 p with
     | none=>none
     | some (l0,a0)=>if a0=[]/\(l0.map (·.id)).Nodup then some l0 else none):=by unfold Hid;rw [Z];(try simp only);rw [if_neg qO]
    have o1:=T1.out;have V1:wM p o w (.slice R1 a0 S1) eL i0 Q1:=
     ⟨[],none,0,a0,R1,S1,rfl,rfl,rfl,zL,⟨j9 _ _ _ _,fun g H=>(m9 H).elim⟩,J7 (s7 U1),Y2,Z2,by rw [o1];exact lR _,by unfold Hid;rw [o1];rfl,(fun g H=>(m9 H).elim),(fun g H=>(m9 H).elim),n1⟩
    have W1:=qI V1;have a3:Hid (p.length<=kab):=by unfold Hid;omega
    clear V1 Z o1 T1 U1 K0 n1 d X2;go_wp2_with fail;go_loopw [5,7,8] (fun b3 c3 q wr=>wM p o w b3 c3 q wr) (fun _ _ q _=>o-(intOf q).toNat)
    case atStart=>exact W1.out
    case round=>
     clear W1;obtain ⟨a,L0,M0,n,A4,p1,rfl,rfl,rfl,B4,R,n0,X1,Y1,C4,r,I,D,hbel⟩:=hrel;have D4:=qiJ (a+1);have E4:n.length<=kab:=by have:=a3.out;omega
     by_cases o0:a<o
     ·have d3:(a:Int)<o:=qO;have Z1:=IA D.out;by_cases F4:n.length<33
      ·have e3:(n:Int)<33:=qO;have hr0:Hid (k=none):=by
        unfold Hid;rw [c0,iI r.out o0 (by unfold cg;rw [p9 qO])]
       clear r I D R n0;exact z169
      have e3: ¬(n:Int)<33:=qO;have M:=n0.1;obtain ⟨q1,r1,rfl,G4,a2⟩:=M.at_ qO;have f3:=a2 32 _ (bu n 32 qO);obtain ⟨e,N0⟩:=gX ((n[32]'qO).toNat);rw [<-N0] at f3;have H4:e<256:=by rw [N0];exact UInt8.toNat_lt _
      have b2:=qI N0;obtain ⟨p0,d0,I4,J4,c2,_,K4⟩:=fV (k:=32) 32 rfl M qO X1 Y1;have L4:=bA (c:=p1) c2.1;have M4: ∀O0:World,(Instr.indexAt 36 (.slice (some ⟨q1,r1,none⟩) n p1) (.int .i64 32)).run an O0= .ok (.pointer (some ⟨q1,r1+32,none⟩)) O0:=fun O0=>mg q1 r1 n p1 32 32 rfl O0 qO;have N4:IntKind.i64.wrap e=(e:Int):=qJ qO;obtain ⟨P0,g3,h3,d2,O4,P4,s1,_,_,_,Q4⟩:=cm (k:=33) 33 rfl M qO X1 Y1;have e0:=rx g3 P0 h3 1099511627776 wr s1.1 qO s1.2.1;have s:Hid (cg geS 1099511627776 (cL [] (ptp a)) (bO 0 (ptp a)) n=match bh P0 1099511627776 with
       | none=>none
       | some (j,Q0)=>match bk (cL [] (ptp a)) (bO 0 (ptp a)) e j with
        | none=>none
        | some z=>if aw z=p0/\ah geS z=true then some (⟨p0,e,aI (bO 0 (ptp a)) e,j.length,z⟩,Q0) else none):=by
       unfold Hid;exact vQ qO d0.out d2.out b2.out
      clear N0 a2 d2 b2;cases q0:bh P0 1099511627776 with
      | none=>
       rw [q0] at e0 s;have hr0:Hid (k=none):=by
        unfold Hid;rw [c0,iI r.out o0 s.out]
       have G:=qI e0;clear e0 q0 r I D R n0 s d0;go_wp2_with fail;refine G.mono ?_;rintro x t1 ⟨rfl,r0⟩;go_wp2_with fail;go_ret2;rw [hr0];exact ⟨hbel.next r0,rfl⟩
      | some u1=>
      obtain ⟨j,Q0⟩:=u1;have R4:j.length+Q0<=P0:=by
       obtain ⟨e1,_⟩:=fT q0;exact z149
      rw [q0] at e0 s;have G:=qI e0;clear e0 q0;go_wp2_with fail;refine G.mono ?_;rintro x t1 ⟨s0,e2,i3,f2,rfl,R0,r0⟩;have g2:=hbel.next r0;have h2:=R.below r0;have j3:=g2.size;have i2:Far t1 w e2 s0:=J7 R0;have k3:=R0.2.1;have Y:=R0.2.2.1;obtain ⟨l3,m3,n3,S4,j2,S0,o3,p3⟩:=vO j t1 qO;have v1:=g2.next S0;have t0:=h2.below S0;have w1:=i2.below S0;have q3:=v1.size;have r3:s0.length<=p:=by rw [f2];omega
      have u0:=qI (Ix L0 a M0 e w l3 j m3 n3 (d8 t0.1) qO t0.2 I.out D.out (j2.lower j3) q3 o3 p3 qO);clear G R h2 n0 i2 R0 r0 S0 j2 M c2 s1;cases v0:bk (cL [] (ptp a)) (bO 0 (ptp a)) e j with
      | none=>
       rw [v0] at s u0;have hr0:Hid (k=none):=by
        unfold Hid;rw [c0,iI r.out o0 s.out]
       clear r I D t0 w1 s d0 v0;go_wp2_with fail;refine u0.mono ?_;rintro x T0 ⟨E,T4,rfl⟩;go_wp2_with fail;go_ret2;rw [hr0];exact ⟨v1.next E,rfl⟩
      | some z=>
      rw [v0] at s u0;have s3:=vP v0;clear v0;go_wp2_with fail;refine u0.mono ?_;rintro x T0 ⟨E,B,J,K,T,rfl,x1,k2,l2⟩;have t3:=v1.next E;have U0:=t0.below E;have m2:=w1.below E;have u3:B.length<=kab:=by rw [T];omega
      have X:=qI (jz J B K T0 x1.rd qO);clear u0 t0 w1 E;go_wp2_with fail;refine X.mono ?_;rintro x v3 ⟨l,w0,rfl,f0⟩;have x0:=t3.next f0;have V0:=U0.below f0;have W0:=m2.below f0;have y1:=x1.keepB (fun q _ N=>f0.block q N) f0.size;clear X U0 m2 x1 f0;by_cases y0:l=p0
      ·have n2:Hid (aw z=p0):=by unfold Hid;rw [<-y0,w0,T]
       have g0:=iv J B K v3 y1.rd k2 l2 u3;subst y0;cases h0:aZ geS B with
       | none=>
        have U:ah geS z=false:=by unfold ah;rw [<-T,h0];rfl
        have hr0:Hid (k=none):=by
         unfold Hid;rw [c0.out,iI r.out o0 (by rw [s];(try simp only);rw [if_neg (fun h=>by rw [U] at h;cases h.2)])]
        rw [h0] at g0;have X0:=qI g0;clear g0 h0 U r I D V0 W0 s d0 w0;go_wp2_with fail;refine X0.mono ?_;rintro x Y0 ⟨rfl,L⟩;go_wp2_with fail;go_ret2;rw [hr0];exact ⟨(x0.next L).alloc (x0.next L).size _,rfl⟩
       | some U4=>
       have U:ah geS z=true:=by unfold ah;rw [<-T,h0];rfl
       have z1:Hid (cg geS 1099511627776 (cL [] (ptp a)) (bO 0 (ptp a)) n=some (⟨l,e,aI (bO 0 (ptp a)) e,j.length,z⟩,Q0)):=by
        unfold Hid;rw [s]
        (try simp only)
        rw [if_pos ⟨n2.out,U⟩]
       have o2:=dD _ U;obtain ⟨w3,p2,x3,y3⟩:=vw z1.out Z1;obtain ⟨V4,W4,f⟩:=lV U;rw [h0] at g0;have X0:=qI g0;obtain ⟨dn,A1⟩:=gX (aI (bO 0 (ptp a)) e);obtain ⟨g,H⟩: ∃g:PtA,g=⟨⟨l,e,dn,j.length,B⟩,J,K⟩:=⟨_,rfl⟩;have B1:Hid (g.p=⟨l,e,aI (bO 0 (ptp a)) e,j.length,z⟩):=by unfold Hid;rw [H,A1,T]
       rw [<-A1];have q2:=qI H;have z3:Hid (0<g.p.raw.length/\g.p.raw.length<=kae):=by
        unfold Hid;rw [B1];exact ⟨by show 0<z.length;rw [f];exact Nat.succ_pos _,o2⟩
       have A3:Hid (g.p.depth<=7):=by unfold Hid;rw [B1];exact p2
       have C1:(a++[g]).length=a+1:=by simp
       have r2:ptp (a++[g])=ptp a++[⟨l,e,aI (bO 0 (ptp a)) e,j.length,z⟩]:=by unfold ptp;rw [p8,List.map_cons,B1];rfl
       have B3:Hid (bp geS (a++[g]).length [] 0 p=some (ptp (a++[g]),s0)):=by
        unfold Hid;rw [C1,r2,f2];exact pt r.out z1.out
       have C3:Hid (∀C∈a++[g],0<C.p.raw.length/\C.p.raw.length<=2097152):=fun C f=>by
        rcases l7.1 f with f | f
        ·exact I.out C f
        obtain rfl:=i7.1 f;exact z3.out
       have D3:Hid (∀C∈a++[g],C.p.depth<=7):=fun C f=>by
        rcases l7.1 f with f | f
        ·exact D.out C f
        obtain rfl:=i7.1 f;exact A3.out
       have Z0:=qI C1;clear g0 h0 U s d0 w0 z1 o2 w3 p2 x3 y3 f A1 H r I D Z1 r2 C1 n2 T s3;go_wp2_with fail;refine X0.mono ?_;rintro x Y0 ⟨E3,F3,G3,H3,I3,J3,K3,u1,L3,M3,N3,O3,P3,Q3,R3,S3,T3,rfl,_,_,_,L,_,_,_⟩;have s2:=x0.next L;have t2:=V0.below L;have u2:=W0.below L;have v2:=y1.keepB (fun q _ N=>L.block q N) L.size;obtain ⟨V,D1⟩:=gX (Y0.alloc (.cells #[E3,.slice F3 G3 H3,.slice I3 J3 K3,u1,.slice L3 M3 N3,O3,P3,Q3,R3,S3] 40));have j0:Below Y0 Y0 V:=by rw [D1];exact (bR _ _).alloc (lR _) _
       have w2:=s2.next j0;have E1:=t2.below j0;have U3:=u2.below j0;have V3:=v2.keepB (fun q _ N=>j0.block q N) j0.size;have X4:=w2.size;clear X0 V0 W0 y1 t2 u2 v2 L j0 T3 s2 x0;go_upto_region 21 with (fail);rw [<-D1];clear D1;obtain ⟨x2,y2⟩:=gX (V.alloc (.cells #[.string ⟨l.toArray⟩,(e:Int),(dn:Int),.int .i64 j,.slice J B K] 193));have a1:Below V V x2:=by rw [y2];exact (bR _ _).alloc (lR _) _
       have b1:(V.alloc (.cells #[.string ⟨l.toArray⟩,(e:Int),(dn:Int),.int .i64 j,.slice J B K] 193)).ownsRow w.heap.size 193 5 (.slice L0 a M0) a.length (rpc a):=E1.1.alloc _;have W3:=Rd.newS V 193 [.string ⟨l.toArray⟩,.int .i64 e,.int .i64 dn,.int .i64 j,.slice J B K] 5 rfl;have F1:g.rcells=[.string ⟨l.toArray⟩,.int .i64 e,.int .i64 dn,.int .i64 j,.slice J B K]:=by rw [q2];rfl
       have X3: ∀G1∈[Value.string ⟨l.toArray⟩,.int .i64 e,.int .i64 dn,.int .i64 j,.slice J B K],G1.oneCell'=true:=by
        rw [<-F1];intro G1 Y3;exact wI [g] G1 (by simpa [rpc] using Y3)
       have Z3:=qI F1;clear F1;go_wp2_with (at_builtin;refine hZ _ rfl (.tmp 107) (.tmp 115) _ rfl w.heap.size _ _ 5 64 Tryz.underlying115 wL rfl (by decide) _ a.length (rpc a) rfl b1 _ _ 1 1 _ rfl W3 X3 (by unfold maxLen;omega) (by omega) (by simp;omega) ?_;intro z2 A2 H1 B2 O _ Y4 Z4);rw [<-y2] at O b1;have a4:=K9 b1 (by decide) (zL);have C2:=K9 b1 (by decide) (lR _);have D2:=w2.next a1;have b4:Below w.heap.size x2 H1:=by
        refine ⟨O.os,O.tape,O.output,O.size,fun q N=>O.block q (by have:=D2.size;omega) (fun x=> ?_)⟩;have:=(C2 q x.symm).1;omega
       have c4:=(U3.below a1).keep O C2;have E2: ∀(I1:OA) (J1:LU),B8 V w I1 J1->B8 H1 w I1 J1:=fun I1 J1 d4=>(d4.keepB (fun q _ N=>a1.block q N) a1.size).grown O a4;have ec:rpc a++[.string ⟨l.toArray⟩,.int .i64 e,.int .i64 dn,.int .i64 j,.slice J B K]=rpc (a++[g]):=by rw [wH,<-Z3];simp [rpc]
       rw [ec] at B2;have e4:RPts H1 w z2 A2 (a++[g]):=by
        refine ⟨by rw [Z0];exact B2,fun C f=> ?_⟩;rcases l7.1 f with f | f
        ·exact ⟨E2 _ _ (E1.2 C f).1,(E1.2 C f).2⟩
        obtain rfl:=i7.1 f;rw [q2];exact ⟨E2 _ _ V3,k2,l2⟩
       exact ⟨⟨a++[g],z2,A2,s0,e2,i3,rfl,by rw [Z0],by rw [Z0];go_num,by rw [Z0];omega,e4,c4,k3,Y,r3,B3,C3,D3,D2.trans b4⟩,by simp [intOf];omega⟩
      have hr0:Hid (k=none):=by
       unfold Hid;rw [c0.out,iI r.out o0 (by rw [s];(try simp only);rw [if_neg (fun h=>y0 (by rw [w0,T];exact h.1))])]
      have f4:(((⟨l.toArray⟩:BA).toList)==((⟨p0.toArray⟩:BA).toList))=false:=by rw [vR];exact qF y0
      have a5:=beq_eq_false_iff_ne.2 y0;clear r I D V0 W0 s d0 w0;go_wp2_with fail;go_ret2;rw [hr0];exact ⟨x0,rfl⟩
     have d3: ¬(a:Int)<o:=qO;have F2:a=o:=qO;have M:Hid (k=if n=[]/\((ptp a).map (·.id)).Nodup then some (ptp a) else none):=by
      unfold Hid;rw [c0,<-F2,r]
     have g4:a.length<=4096:=qO;clear F2 r I D n0;by_cases K1:n.length=0
     ·have G2:=nZ K1;have h4: ¬0<n.length:=qO;have H2:=qI (wK L0 a M0 wr wr (d8 R.1) qO);have i4:=qI G2;clear G2 K1;go_wp2_with fail;refine H2.mono ?_;rintro x T0 ⟨j4,rfl,c1,s0,I2⟩;have E:Below wr wr T0:=by rw [I2];exact (bR _ _).drewN' _
      have U0:=R.below E;clear I2 H2 R;cases j4 with
      | true=>
       have hr0:Hid (k=none):=by unfold Hid;rw [M,if_neg (fun h=>(c1.1 rfl) (by rw [wJ];exact h.2))]
       clear c1;go_wp2_with fail;go_ret2;rw [hr0];exact ⟨hbel.next E,rfl⟩
      | false=>
      have J2:=OE fun h=>by
       have:=c1.2 (by rw [wJ];exact h);cases this
      have hr0:Hid (k=some (ptp a)):=by unfold Hid;rw [M,if_pos ⟨i4.out,J2⟩]
      clear c1 J2;go_wp2_with fail;go_ret2;rw [hr0];exact ⟨hbel.next E,a,L0,M0,rfl,rfl,U0,g4⟩
     have hr0:Hid (k=none):=by unfold Hid;rw [M,if_neg (fun h=>K1 (by rw [h.1];rfl))]
     have b5:=ltI 0 n.length;have h4:0<n.length:=qO;exact z169
   have c5:=ltI 4096 o;have hr0:Hid (k=none):=by unfold Hid;rw [Z];(try simp only);rw [if_pos qO]
   go_wp2_with fail;go_ret2;rw [hr0];exact ⟨n1,rfl⟩
  have hr0:Hid (k=none):=by unfold Hid;rw [W];unfold ba;rw [if_pos (.inr (.inr (by rw [<-j1,<-N1,<-P1];exact G0)))]
  go_in;go_wp2_with fail;refine wp_region_held_drew (S:=fun t=>(convert 36 9 (.slice A i c)).run an t= .ok (.string ⟨i.toArray⟩) t/\(convert 36 9 (.slice k0 v Q)).run an t= .ok (.string ⟨v.toArray⟩) t) qkR (⟨D0,k1⟩) (fun m=> ?_);refine tl 0 (.slice A b c) ?_;refine tl 1 (.int .i64 b) ?_;refine tl 2 (.bool false) ?_;refine tl 3 (.bool false) ?_;refine tl 4 (.slice A b c) ?_;refine tl 5 (.slice A i c) ?_;refine tl 6 (.string ⟨i.toArray⟩) ?_;refine tk 7 (.bool false) rfl (fun _ _ _ h=>h) (Pg ⟨by rfl,fun F y=> ?_⟩) m ?_
  ·obtain ⟨S2,T2⟩:=y;go_simp<;>exact f1.out
  try simp only [Ql,sA,sB,sC,sD,sE,sF]
  refine tl 8 (.bool false) ?_;refine tl 9 (.bool false) ?_;refine tl 10 (.slice A b c) ?_;refine tl 11 (.slice A b c) ?_;refine tl 12 (.int .i64 b) ?_;refine tl 13 (.int .i64 u) ?_;refine tl 14 (.slice A E0 c) ?_;refine tl 16 (.slice A b c) ?_;refine tl 17 (.slice A b c) ?_;refine tl 18 (.int .i64 b) ?_;refine tl 19 (.int .i64 u) ?_;refine tl 20 (.slice k0 v Q) ?_;refine tl 21 (.string ⟨v.toArray⟩) ?_;refine rh 15 fun U2 m1=> ?_;go_simp;refine (X.out).mono ?_;rintro x H0 ⟨l,Y,rfl,d⟩;have d:Below w w H0:=⟨d.os,d.tape,d.output,d.size,d.block⟩;have I0:=bA (c:=c) (C0.1.belowW d (lR _));have J0:=bA (c:=Q) (F0.1.belowW d (lR _));refine hO m1 (⟨I0,J0⟩) (fun m=> ?_);have f4: ¬l=v:=by rw [Y];exact G0
  refine tl 22 (.bool true) ?_;refine tl 23 (.bool true) ?_;refine dn ?_;go_wp2_with fail;go_ret2;rw [hr0];exact ⟨d,rfl⟩
 rw [qF P] at d1;have hr0:Hid (k=none):=by
  unfold Hid;rw [W];unfold ba;rw [if_pos (.inr (.inl (by rw [<-L1];exact P)))]
 have k4:Hid (¬i=[68,80,75,49]):=P;clear P;go_in;go_wp2_with fail;refine wp_region_held_drew (S:=fun t=>(convert 36 9 (.slice A i c)).run an t= .ok (.string ⟨i.toArray⟩) t) qkR (D0) (fun m=> ?_);refine tl 0 (.slice A b c) ?_;refine tl 1 (.int .i64 b) ?_;refine tl 2 (.bool false) ?_;refine tl 3 (.bool false) ?_;refine tl 4 (.slice A b c) ?_;refine tl 5 (.slice A i c) ?_;refine tl 6 (.string ⟨i.toArray⟩) ?_;refine tk 7 (.bool true) rfl (fun _ _ _ h=>h) (Pg ⟨by rfl,fun F y=> ?_⟩) m ?_
 ·go_simp<;>exact k4.out
 try simp only [Ql,sA,sB,sC,sD,sE,sF]
 refine tl 8 (.bool true) ?_;refine tl 9 (.bool true) ?_;refine tl 10 undef ?_;refine tl 11 undef ?_;refine tl 12 undef ?_;refine tl 13 undef ?_;refine tl 14 undef ?_;refine tl 15 undef ?_;refine tl 16 undef ?_;refine tl 17 undef ?_;refine tl 18 undef ?_;refine tl 19 undef ?_;refine tl 20 undef ?_;refine tl 21 undef ?_;refine tl 22 undef ?_;refine tl 23 (.bool true) ?_;refine dn ?_;go_wp2_with fail;go_ret2;rw [hr0];exact ⟨(bR _ _).drew,rfl⟩
theorem wT: ∀{l:List PtA} {k:Nat} {x:PtA} {s:LU},l[k]?=some x->x.p.id=s->(∀j,j<k-> ∀y,l[j]?=some y->y.p.id≠s)->bV (ptp l) s=some x.p
 | [],_,_,_,a,_,_=>by simp at a
 | y::l,0,x,s,a,b,_=>by
  obtain rfl:y=x:=by simpa using a
  unfold bV ptp;rw [List.map_cons,Pj,dT b]
 | y::l,k+1,x,s,a,b,c=>by
  have e:=c 0 qO y rfl;have d:=wT (l:=l) (k:=k) (x:=x) (s:=s) (by simpa using a) b (fun j h f g=>c (j+1) qO f (by simpa using g));unfold bV ptp at d ⊢;rw [List.map_cons,Pj,qF e];exact d
theorem IL {l s} (b: ∀j,j<l.length-> ∀y,l[j]?=some y->y.p.id≠s):bV (ptp l) s=none:=by
 unfold bV;rw [Px];intro p c;obtain ⟨d,e,rfl⟩:=e9.1 c;obtain ⟨j,a⟩:=Nv e;simp only [decide_eq_true_eq];exact b j (c9.1 a).1 d a
def IM (l:List PtA) (s:LU) (w:World) (i:Value) (wr:World):Prop:=∃ a:Nat,i= .int .i64 a/\a<=l.length/\Hid (∀b,b<a-> ∀c,l[b]?=some c->c.p.id≠s)/\w=wr
theorem IN (A l c s w B) (E:Rd w B 5 A l.length (rpc l)) (Z:l.length<=4096) (F: ∀x∈l,Rd w w.heap.size 1 x.A x.p.raw.length (bc x.p.raw)/\x.p.raw.length<=140737488351232) (a0:s.size<=maxLen):
  Calls an 146 #[.slice A l c,.string s] w (RetGet w (dY (ptp l) s)):=by
 by_cases k:s.size=32
 ·have G:((s.size:Int)!=32)=false:=by simp;omega
  obtain ⟨y,m⟩:=gX (dY (ptp l) s);rw [<-m];have H:Hid (bV (ptp l) s.data.toList=none->y= .error 6):=fun h=>by rw [m];unfold dY;rw [if_pos k,h]
  have I:Hid (∀p,bV (ptp l) s.data.toList=some p->y= .ok p.raw):=fun p h=>by rw [m];unfold dY;rw [if_pos k,h]
  clear m k;go_in;go_wp2_with fail;go_loopw [6] (fun i wr=>IM l s.data.toList w i wr) (fun i _=>l-(intOf i).toNat)
  case atStart=>exact ⟨0,rfl,zL,(fun b z=>by omega),rfl⟩
  case round=>
   obtain ⟨a,rfl,b0,e,J⟩:=hrel;subst J;have c0:=qiJ (a+1);by_cases K:a<l
   ·have L:=ltI a l.length;have d0:=zeI a;obtain ⟨x,d⟩: ∃x,l[a]?=some x:=⟨l[a],gE K⟩;obtain ⟨f,n,rfl,e0,o⟩:=E.at_ qO;have M:w.cell? ⟨f,n+a*5,none⟩=some (.string (idS x.p.id)):=o (a*5+0) _ (bD d 0 qO);have C:w.cell? ⟨f,n+a*5+4,none⟩=some (.slice x.A x.p.raw.length x.c):=o (a*5+4) _ (bD d 4 qO);obtain ⟨N,f0⟩:=F x (g8 d);obtain ⟨O,g⟩:=gX (idS x.p.id);rw [<-g] at M;by_cases j:O=s
    ·have t:Hid (bV (ptp l) s.data.toList=some x.p):=wT d (by rw [<-j,g];simp [idS]) e.out;subst j;have hO:(w.alloc (.cells #[] 5)).ownsRow w.heap.size 5 1 (.slice (some ⟨w,0,none⟩) 0 0) 0 (bc []):=
      ⟨rfl,.inr ⟨w,0,#[],rfl,lR _,heap_alloc_new w _,lR _,zL,rfl,rfl⟩⟩
     have u:=bAl w (.cells #[] 5);have g0:(w.alloc (.cells #[] 5)).cell? ⟨f,n+a*5+4,none⟩=some (.slice x.A x.p.raw.length x.c):=(u.cell (p:=⟨f,n+a*5+4,none⟩) (by show f<_;exact o7 w _ C)).trans C;clear g o e d;go_wp2_with (at_builtin;refine bQ rfl (.tmp 23) (.tmp 28) rfl w.heap.size _ 0 [] rfl hO w.heap.size x.A x.p.raw.length x.c x.p.raw rfl (N.below u) (by omega) (by simp) ?_;intro P Q R h0 S T U i0 j0 V W);go_ret2;rw [I.out _ t.out];exact ⟨u.trans U,P,Q,R,S,rfl,T,V,W⟩
    have k0:=beq_eq_false_iff_ne.2 fun q=>j (fh q);have X:Hid (∀b,b<a+1-> ∀r,l[b]?=some r->r.p.id≠s.data.toList):=fun b z r v q=>by
     by_cases Y:b=a
     ·rw [Y,d] at v;obtain rfl:=K8 v;exact j (by rw [g];exact mc.2 q)
     exact e.out b qO r v q
    clear g o e d j;go_wp2_with fail;exact ⟨⟨a+1,by go_num,qO,X,rfl⟩,by simp [intOf];omega⟩
   have L: ¬(a:Int)<l:=qO;have t:Hid (bV (ptp l) s.data.toList=none):=IL fun b z=>e.out b qO;clear e;go_wp2_with fail;go_ret2;rw [H.out t.out];exact ⟨bR _ _,rfl⟩
 have G:((s.size:Int)!=32)=true:=by simp;omega
 have D:dY (ptp l) s= .error 1:=by unfold dY;rw [if_neg k]
 rw [D];clear D;exact z95
def dR (l:List PtA):List BA:=l.map fun a=>idS a.p.id
theorem IP {l} (j:((ptp l).map (·.id)).Nodup):du (dR l)=aV (ptp l):=by
 have r: ∀a b:LU,idS a=idS b->a=b:=fun a b e=>by
  have:=congrArg (fun k:BA=>k.data.toList) e;simpa [idS] using this
 have m:dR l=((ptp l).map (·.id)).map idS:=by simp [dR,ptp]
 have s:(dR l).Nodup:=by
  rw [m];exact List.Pairwise.map _ (fun a b h e=>h (r a b e)) j
 obtain ⟨f,g⟩:=IQ s;refine f.same ?_ fun k=> ?_
 ·unfold Strict;rw [E8];have t: ∀a b i:LU,decide (a<=b)=true->decide (b<=i)=true->decide (a<=i)=true:=fun a b i f g=>dT (Pa (of_decide_eq_true f) (of_decide_eq_true g));have tl: ∀a b:LU,(decide (a<=b)||decide (b<=a))=true:=fun a b=>by
   exact z121
  have u:=NO t tl ((ptp l).map (·.id));have v:(df ((ptp l).map (·.id))).Nodup:=by unfold df;exact (NA _ _).nodup_iff.2 j
  intro n o c d q;unfold aV at c d ⊢;rw [g7] at c d;have w:=E8.1 u n o c d q;have x:=E8.1 v n o c d q;rw [Nt,Nt];unfold sLt;rw [fM,fM];refine dT (OE fun y=>x (Oz (of_decide_eq_true w) (PB.1 y)))
 rw [g];unfold aV;rw [m];constructor
 ·intro h;obtain ⟨a,ha,rfl⟩:=e9.1 h;exact e9.2 ⟨a,(NA _ _).mem_iff.2 ha,rfl⟩
 intro h;obtain ⟨a,ha,rfl⟩:=e9.1 h;exact e9.2 ⟨a,(NA _ _).mem_iff.1 ha,rfl⟩
def IR (l:List PtA) (w:World) (d i:Value) (wr:World):Prop:=
 ∃(a:Nat) (b:OA) (c:Nat),i= .int .i64 a/\a<=l/\d= .slice b a c/\wr.ownsRow w 9 1 (.slice b a c) a (pc ((dR l).take a))/\Below w w wr
theorem IS (A l c w) (v:Rd w w.heap.size 5 A l.length (rpc l)) (T:l.length<=4096) (k:((ptp l).map (·.id)).Nodup):
  Calls an 91 #[.slice A l c] w fun m w'=> ∃(A':OA) (c':Nat),m= .returned (.slice A' (aV (ptp l)).length c')/\w'.ownsRow w 9 1 (.slice A' (aV (ptp l)).length c') (aV (ptp l)).length (pc (aV (ptp l)))/\Below w w w':=by
 have x:=qI k;clear k;go_in;go_wp2_with fail;go_loopw [3,4] (fun y i wr=>IR l w y i wr) (fun _ i _=>l-(intOf i).toNat)
 case atStart=>exact ⟨0,none,0,rfl,zL,rfl,j9 _ _ _ _,bR _ _⟩
 case round=>
  obtain ⟨a,z,B,rfl,U,rfl,b,d⟩:=hrel;have n:=d.size;have V:=qiJ (a+1);by_cases C:a<l
  ·have D:=ltI a l.length;have W:=zeI a;obtain ⟨e,g⟩: ∃e,l[a]?=some e:=⟨l[a],gE C⟩;obtain ⟨E,F,rfl,X,o⟩:=(v.below d).at_ qO;have G:wr.cell? ⟨E,F+a*5,none⟩=some (.string (idS e.p.id)):=o (a*5+0) _ (bD g 0 qO);obtain ⟨h,j⟩:=gX (idS e.p.id);rw [<-j] at G;have H:Hid (pc ((dR l).take (a+1))=pc ((dR l).take a)++[.string h]):=by
    unfold Hid;have I:(dR l)[a]?=some h:=by rw [j];simp [dR,g]
    rw [t7,I];simp [pc]
   clear j o g;go_wp2_with (at_builtin;refine eF rfl (.tmp 11) (.tmp 17) 38 9 _ 16 rfl q9 mx rfl w.heap.size _ a _ rfl (b.alloc _) (wr+1) _ 1 1 [.string h] rfl (NX wr _ _) (by intro Y J;obtain rfl:=i7.1 J;rfl) (by unfold maxLen;omega) (by omega) (by simp;omega) ?_;intro K L Z q M a0 b0 c0);rw [<-H] at q;exact ⟨⟨a+1,K,L,by go_num,qO,rfl,q,(d.trans ((bR _ _).alloc n _)).trans M⟩,by simp [intOf];omega⟩
  have d0:=dfX ((a:Int)<l);have D: ¬(a:Int)<l:=qO;have N:(dR l).length=l:=by simp [dR]
  have f:a=(dR l).length:=qO;have r:(dR l).take a=dR l:=by rw [f,y7]
  rw [r] at b;have s:=qI (wU z (dR l) B wr (by rw [<-f];exact d8 b) qO);rw [<-f] at s;clear r f b N;go_wp2_with fail;refine s.mono ?_;rintro m e0 ⟨O,P,Q,rfl,t,R,S⟩;have u:Hid (O=aV (ptp l)):=qI (by rw [t];exact IP x.out);clear t;go_wp2_with fail;go_ret;refine ⟨P,Q,?_,?_,d.next S⟩
  ·rw [<-u];rfl
  rw [<-u];exact R.base n
