/- Walks and laws. Conditions: as stated. -/
import Derived.Test.YtecpbcmpncgokaaGreatUniq
import Derived.Test.YtecpbcmpncgokaaGreatRefNew
set_option maxRecDepth 99999
set_option maxHeartbeats 25600000
set_option linter.all false
open Go.Value renaming slice->it
open Go.Proofs.Tryz renaming prog->an
open Go.RowKit Go.Dol
namespace Go.Proofs.YtecpbcmpncgokaaGreat
structure Rdr (w:World) (base gr g:Nat) (l:List PtA) (A:OA) (c m:Nat) (p:LU) (Ar:OA) (cr:Nat) (pv:PtA):Prop where
 blk:Blk w gr 276 [.slice Ar p cr,.slice pv.A pv.p.raw pv.c,.int .i64 (pv.p.depth:Nat),.pointer (some g)]
 gb:base<=gr
 pck:Pck w base g l A c m 0 eL
 seg:Seg w base 5 1 Ar p cr (bc p)
 own:B8 w base pv.A pv.p.raw/\pv.p.raw<=pv.c/\pv.c<=maxLen
theorem vO (v w) (f:v.length<=140737488355328): ∃A c w',(convert 9 36 (.string ⟨v.toArray⟩)).run an w= .ok (.slice A v.length c) w'/\B8 w' w.heap.size A v/\Below w.heap.size w w'/\v.length<=c/\c<=maxLen:=by
 obtain ⟨A,c,w',d,e,g,h,i⟩:=uQ v w f;refine ⟨A,c,w',d,⟨⟨e.1,fun m j b=> .inr ?_⟩,e.2⟩,g,h,i⟩;have a:=run_bytes_of_string (P:=an) w 9 36 5 ⟨v.toArray⟩ l9 q7 z8;rw [d] at a;injection a with a k;injection a with a _ _;rw [a] at b;injection b with b;have l:w=j:=b;rw [<-l,k];exact ⟨_,_,heap_alloc_new w.drew _⟩
theorem vP {prev d k t raw} (a:bk prev d k t=some raw):raw.length<=t.length\/raw.length<=2097152:=by
 unfold bk at a;split at a
 ·injection a with a;subst a;exact .inl (lR _)
 split at a
 ·have:=(jr a).2;exact .inr qO
 split at a
 ·split at a
  ·have:=(vE a).2;exact .inr qO
  cases a
 cases a
theorem vQ {ge:BA->BA->Bool} {a:Int} {prev:LU} {d k:Nat} {p q id:LU} (c:32<p.length) (e:id=p.take 32) (f:q=p.drop 33) (g:k=(p[32]).toNat):cg ge a prev d p=match bh q a with
  | none=>none
  | some (b,rest)=>match bk prev d k b with
   | none=>none
   | some raw=>if aw raw=id/\ah ge raw=true then some (⟨id,k,aI d k,b.length,raw⟩,rest) else none:=by
 subst e f g;unfold cg;rw [l8 c];rfl
theorem vR (a b:LU):((⟨a.toArray⟩:BA).toList==(⟨b.toArray⟩:BA).toList)=decide (a=b):=by
 by_cases c:a=b
 ·subst c;simp
 rw [qF c];refine beq_eq_false_iff_ne.2 fun d=>c ?_;have:=fh d;simpa using this
theorem mg (g a n c i:Nat) (b:Int) (hi:b=(i:Nat)) (w') (d:i<n):(Instr.indexAt 36 (.slice (some ⟨g,a,none⟩) n c) (.int .i64 b)).run an w'= .ok (.pointer (some ⟨g,a+i,none⟩)) w':=by
 subst hi;have e:=zeI i;have f:=ltI i n;go_simp
def vS (w:World) (base e g:Nat) (l:List PtA) (m:Nat) (r:Option (Pt×LU)) (b:Ending) (w':World):Prop:=
 match r with
 | none=>b= .returned (.int .i64 2)/\Below base w w'
 | some (c,f)=>Below base w w'/\if c.id∈l.map fun a=>a.p.id then b= .returned (.int .i64 2) else b= .returned (.int .i64 0)/\ ∃a h i d j k,Hid (a.p=c)/\Hid (d=f)/\Rdr w' base e g (l++[a]) h i m d j k a
theorem Pck.grown {w w' base g l A c m d vi r T cs} (a:Pck w base g l A c m d vi) (f:Blk w r T cs) (h:w.grownBy w' (some r)) (n:T≠306) (o:T≠5) (p:T≠9) (q:T≠205):Pck w' base g l A c m d vi:=
 ⟨a.blk.grown h (fun b=>by
   injection b with b;subst b;have e:=a.blk;unfold Blk at e f;rw [f] at e;injection e with e;injection e with _ e;exact q e),a.gb,a.mb,aE a.parts f n h,a.map.grown h (fun b=>by injection b with b;exact a.map.blk_ne f b.symm),fun j k=>⟨(a.raws j k).1.grown h (v8 f o (zL)),(a.raws j k).2⟩,by
  rcases a.ids with i | ⟨i,s,t,u,v⟩
  ·exact .inl i
  ·exact .inr ⟨i,s,t,u,aE v f p h⟩⟩
theorem Rd.newS (w:World) (T cs n) (c:cs.length=n):Rd (w.alloc (.cells cs.toArray T)) (w+1) n (some ⟨w,0,none⟩) 1 cs:=by
 have a:=o9 w T cs;refine ⟨qO,fun _=>⟨w,0,rfl,qO,fun d e b=> ?_⟩⟩;rw [x9,a.cell];exact b
theorem GE {w w' base base2 e size A n c xs v n2 ys} (d:Seg w base 5 1 A n c xs) (i:w.ownsRow base2 e size v n2 ys) (j:e≠5) (k:w.grownBy w' v.ownBlock):Seg w' base 5 1 A n c xs:=by
 refine d.keepR k fun f b g=> ?_;unfold aT at b;split at b
 ·rcases d.2.2.2 with q | ⟨l,r,s,rfl,_,h,_⟩
  ·omega
  have m:l=f:=by simpa [au] using b
  rw [m] at h;rcases i.2 with ⟨rfl,_⟩ | ⟨o,t,u,rfl,_,a,_⟩
  ·cases g
  have p:f=o:=by simpa [Value.ownBlock] using g
  rw [<-p,h] at a;injection a with a;injection a with _ a;exact j a.symm
 cases b
theorem GF (l x):ptc (l++[x])=ptc l++x.cells:=by simp [ptc]
theorem GG (l x):ptm (l++[x])=ptm l++[(.string (idS x.p.id),.slice x.A x.p.raw.length x.c)]:=by simp [ptm]
theorem GH:(an.info? 306).map (fun i=>(i.zero,i.size,i.bytes))=some (some (.agg #[eS,i0,i0,i0]),4,40):=qkR
section
variable {w w':World} {base gr g:Nat} {l:List PtA} {A:OA} {c m:Nat} {p:LU} {Ar:OA} {cr:Nat} {pv:PtA}
theorem Rdr.keep (a:Rdr w base gr g l A c m p Ar cr pv) (b: ∀k,base<=k->k<w.heap.size->w'.heap[k]?=w.heap[k]?) (e:w.heap.size<=w'):Rdr w' base gr g l A c m p Ar cr pv:=
 ⟨a.blk.keepB (b gr a.gb a.blk.lt),a.gb,a.pck.keep b e,by
  refine ⟨a.seg.1,a.seg.2.1,a.seg.2.2.1,?_⟩;rcases a.seg.2.2.2 with d | ⟨k,i,j,d,f,h,n⟩
  ·exact .inl d
  ·exact .inr ⟨k,i,j,d,f,(b k f (j7.1 h).1).trans h,n⟩,⟨a.own.1.keepB b e,a.own.2⟩⟩
theorem Rdr.below (b:Rdr w base gr g l A c m p Ar cr pv) (a:Below w w w'):Rdr w' base gr g l A c m p Ar cr pv:=b.keep (fun d _ e=>a.block d e) a.size
theorem GD (h:Rdr w base gr g l A c m p Ar cr pv) (q4:l.length<4096) (T2:pv.p.raw.length<=kae) (r4:pv.p.depth<=7) (s4:p.length<=kab) (hbase:base<=w):
  Calls an 210 #[.pointer (some gr)] w (vS w base gr g l m (cg geS p pv.p.raw pv.p.depth p)):=by
 obtain ⟨O,U0⟩:=gH (cg geS p pv.p.raw pv.p.depth p);rw [<-U0];have d0:w.cell? gr=some (.slice Ar p cr):=by rw [h.blk.cell];rfl
 have S1:=h.seg.2.1;have T1:=h.seg.2.2.1;go_in;by_cases U2:p.length<=32
 ·have V2:=dtX ((p:Int)<=32);have P:Hid (O=none):=by
   unfold Hid;rw [U0];unfold cg;rw [p9 U2]
  go_wp2_with fail;go_ret;rw [P];exact ⟨rfl,bR _ _⟩
 have V2:=dfX ((p:Int)<=32);have q1:=h.seg.rd;obtain ⟨v,C,rfl,W2,U1⟩:=q1.at_ qO;have F0:=U1 32 _ (bu p 32 qO);obtain ⟨b,V0⟩:=gH ((p[32]'qO).toNat);rw [<-V0] at F0;have t4:b<256:=by rw [V0];exact UInt8.toNat_lt _
 obtain ⟨i,V1,u4,v4,W0,_,W1⟩:=fV (k:=32) 32 rfl q1 qO S1 T1;have X1:=bA (c:=cr) W0.1.drew;have Y1:=bA (c:=cr) ((W0.1.alloc (lR _) (.cells #[eS,i0,i0,i0] 306)).drew);have Z1:=h.blk.alloc (.cells #[eS,i0,i0,i0] 306);have G0:=Z1.c 0;have H0:(w.alloc (.cells #[eS,i0,i0,i0] 306)).cell? ⟨v,C+32,none⟩=some (.int .u8 b):=(F7 w _ _ (by show v<_;omega)).trans F0;have a2:=bA (c:=cr) ((W0.1.alloc (lR _) (.cells #[.string ⟨i.toArray⟩,(b:Int),i0,i0] 306)).drew);have b2:=h.blk.alloc (.cells #[.string ⟨i.toArray⟩,(b:Int),i0,i0] 306);have I0:=b2.c 0;have X0:(w.alloc (.cells #[.string ⟨i.toArray⟩,(b:Int),i0,i0] 306)).cell? ⟨v,C+32,none⟩=some (.int .u8 b):=(F7 w _ _ (by show v<_;omega)).trans F0;have X2: ∀w':World,(Instr.indexAt 36 (.slice (some ⟨v,C,none⟩) p cr) (.int .i64 32)).run an w'= .ok (.pointer (some ⟨v,C+32,none⟩)) w':=fun w'=>mg v C p cr 32 32 rfl w' qO;have w4:IntKind.i64.wrap b=(b:Int):=qJ qO;clear U1;go_wp2_with fail;go_region_held3 (fun d=>d.cell? gr=some (.slice (some ⟨v,C,none⟩) p cr)/\d.cell? ⟨v,C+32,none⟩=some (.int .u8 b)/\(convert 36 9 (.slice (some ⟨v,C,none⟩) i cr)).run an d= .ok (.string ⟨i.toArray⟩) d) (first | exact ⟨d0,F0,X1⟩ | exact ⟨G0,H0,Y1⟩ | exact ⟨I0,X0,a2⟩ | go_keep) (fail);obtain ⟨a,Y0⟩:=gX w.heap.size;obtain ⟨M,J0⟩:=gX ((w.alloc (.cells #[.string ⟨i.toArray⟩,(b:Int),i0,i0] 306)).drew);have c2:Blk M a 306 [.string ⟨i.toArray⟩,(b:Int),i0,i0]:=by rw [J0,Y0];exact (o9 w _ _).drew
 have Z0:Below w w M:=by rw [J0];exact ((bR _ _).alloc (lR _) _).drew
 have x4:M.heap.size=w+1:=by rw [J0];simp
 rw [<-J0,<-Y0];have q0:=h.below Z0;have y4:=h.blk.lt;have r0:=qI Y0;clear J0 Y0 Y1 a2 X1 Z1 b2 G0 H0 I0 X0 F0 d0 W0 W1 X2 q1 W2;have Y2:=q0.seg.rd;have d0:M.cell? gr=some (.slice (some ⟨v,C,none⟩) p cr):=by rw [q0.blk.cell];rfl
 obtain ⟨a1,Z2,a3,d2,z4,A4,f2,B4,C4,D4,W1⟩:=cm (k:=33) 33 rfl Y2 qO S1 T1;have s0:=rv Z2 a1 a3 p M.drew f2.1.drew qO f2.2.1;have W:Hid (O=match bh a1 p.length with
  | none=>none
  | some (j,b1)=>match bk pv.p.raw pv.p.depth b j with
   | none=>none
   | some raw=>if aw raw=i/\ah geS raw=true then some (⟨i,b,aI pv.p.depth b,j.length,raw⟩,b1) else none):=by
  unfold Hid;rw [U0,vQ qO V1.out d2.out V0.out]
 clear U0 V0 V1 d2;cases K0:bh a1 p with
 | none=>
  rw [K0] at s0 W;have P:Hid (O=none):=W.out;have r1:=qI s0;clear s0 K0 W;go_wp2_with fail;go_region_held3 (fun d=>d.cell? gr=some (.slice (some ⟨v,C,none⟩) p cr)) (first | exact d0 | exact s1 | go_keep) ((go_at_call 255;(with_reducible refine r1.out.mono ?_);rintro e e0 ⟨rfl,q⟩;have q:Below M M e0:=⟨q.os,q.tape,q.output,q.size,q.block⟩;have s1:=(q.cell (p:=⟨gr,0,none⟩) q0.blk.lt).trans d0));go_wp2_with fail;go_ret;rw [P];exact ⟨rfl,(Z0.next q).mono hbase⟩
 | some b3=>
 obtain ⟨j,b1⟩:=b3;have c3:=qI K0;rw [K0] at s0 W;have r1:=qI s0;clear s0 K0;go_wp2_with fail;go_region_held3 (fun d=>d.cell? gr=some (.slice (some ⟨v,C,none⟩) p cr)) (first | exact d0 | exact s1 | go_keep) ((go_at_call 255;(with_reducible refine r1.out.mono ?_);rintro e e0 ⟨Q,t0,u0,d3,rfl,g2,q⟩;have q:Below M M e0:=⟨q.os,q.tape,q.output,q.size,q.block⟩;have s1:=(q.cell (p:=⟨gr,0,none⟩) q0.blk.lt).trans d0));have i2:=q0.below q;have c1:=c2.below q (by have:=r0.out;omega);have E4:j.length<=a1:=by
  obtain ⟨e1,_⟩:=fT c3.out;exact z149
 have F4:=q.size;obtain ⟨e3,f3,j2,G4,g3,F,i3,j3⟩:=vO j e0.drew qO;have F:Below e0 e0 j2:=⟨F.os,F.tape,F.output,F.size,F.block⟩;have f0:=i2.below F;have L0:=c1.below F c1.lt;have H4:=F.size;have k2:=c1.c 1;have v0:=L0.c 1;have d1:=L0.lt;have w0:=GA gr 1 276 _ pv.A pv.p.raw pv.c pv.p.depth b base e3 j f3 j2 f0.blk rfl rfl f0.own.1.rd T2 f0.own.2.1 f0.own.2.2 (g3.lower (by show base<=e0;omega)) qO i3 j3 qO;have l2:=(Z0.next q).next F;cases g0:bk pv.p.raw pv.p.depth b j with
 | none=>
  rw [g0] at w0;have P:Hid (O=none):=by unfold Hid;rw [W];(try simp only);rw [g0]
  have t1:=qI w0;clear w0 g0 W;go_upto_region 7 with (fail);refine wp_region_held_drew (S:=fun d=>d.cell? ⟨a,1,none⟩=some (.int .i64 b)) qkR (k2) (fun r=> ?_);refine tl 0 (.pointer (some gr)) ?_;refine tl 1 (.pointer (some gr)) ?_;refine tl 2 (.pointer (some ⟨gr,1,none⟩)) ?_;refine tl 3 (.pointer (some ⟨a,1,none⟩)) ?_;refine tl 4 (.int .i64 b) ?_;refine tl 5 (.string ⟨j.toArray⟩) ?_;refine rh 6 fun G n=> ?_;go_simp;refine hO n v0 (fun r=> ?_);refine rh 7 fun G n=> ?_;go_simp;refine (t1.out).mono ?_;rintro e D ⟨H,rfl⟩;have u1:=(H.cell (p:=⟨a,1,none⟩) d1).trans v0;refine hO n u1 (fun r=> ?_);refine tl 8 (.tuple #[eL,.int .i64 2]) ?_;refine tl 9 eL ?_;refine tl 10 (.int .i64 2) ?_;refine tl 11 eL ?_;refine tl 12 (.int .i64 2) ?_;refine dn ?_;have R:=f0.below H;have M0:=L0.below H d1;have x0:=l2.next H;have m2:D.cell? ⟨gr,3,none⟩=some (.pointer (some g)):=by rw [R.blk.cell];rfl
  obtain ⟨_,n2,_⟩:=R.pck.cells;have o2:=M0.c 0;obtain ⟨p2,q2,v1⟩: ∃p2 q2,∀x,(Instr.lookup 140 (.map (some m)) (.string ⟨i.toArray⟩) true).run an (D.drewN x)= .ok (.tuple #[p2,.bool q2]) (D.drewN x):=by
   rcases R.pck.look ⟨i.toArray⟩ (by show i.toArray.size<=_;simp;unfold maxLen;omega) with ⟨_,h1⟩ | ⟨y,_,_,h1,_⟩
   ·exact ⟨_,_,fun x=>h1 (D.drewN x) rfl⟩
   exact ⟨_,_,fun x=>h1 (D.drewN x) rfl⟩
  go_wp2_with fail;go_quiet (fail);go_wp2_with fail;go_quiet (fail);go_wp2_with fail;go_ret;rw [P];exact ⟨rfl,((x0.drewN' _).drewN' _).mono hbase⟩
 | some raw=>
 rw [g0] at w0;have I4:raw.length<=kab:=by rcases vP g0 with h1 | h1<;>omega
 have y0:Hid (O=if aw raw=i/\ah geS raw=true then some (⟨i,b,aI pv.p.depth b,j.length,raw⟩,b1) else none):=by unfold Hid;rw [W];(try simp only);rw [g0]
 have t1:=qI w0;clear w0 g0 W;go_upto_region 7 with (fail);refine wp_region_held_drew (S:=fun d=>d.cell? ⟨a,1,none⟩=some (.int .i64 b)) qkR (k2) (fun r=> ?_);refine tl 0 (.pointer (some gr)) ?_;refine tl 1 (.pointer (some gr)) ?_;refine tl 2 (.pointer (some ⟨gr,1,none⟩)) ?_;refine tl 3 (.pointer (some ⟨a,1,none⟩)) ?_;refine tl 4 (.int .i64 b) ?_;refine tl 5 (.string ⟨j.toArray⟩) ?_;refine rh 6 fun G n=> ?_;go_simp;refine hO n v0 (fun r=> ?_);refine rh 7 fun G n=> ?_;go_simp;refine (t1.out).mono ?_;rintro e D ⟨H,o,s,u,X,rfl,r2,w1,x1⟩;have u1:=(H.cell (p:=⟨a,1,none⟩) d1).trans v0;refine hO n u1 (fun r=> ?_);refine tl 8 (.tuple #[.slice s o u,i0]) ?_;refine tl 9 (.slice s o u) ?_;refine tl 10 i0 ?_;refine tl 11 (.slice s o u) ?_;refine tl 12 i0 ?_;refine dn ?_;have R:=f0.below H;have M0:=L0.below H d1;have x0:=l2.next H;have m2:D.cell? ⟨gr,3,none⟩=some (.pointer (some g)):=by rw [R.blk.cell];rfl
 obtain ⟨_,n2,_⟩:=R.pck.cells;have o2:=M0.c 0;have s2:(⟨i.toArray⟩:BA).size<=maxLen:=by show i.toArray.size<=_;simp;unfold maxLen;omega
 rcases R.pck.look ⟨i.toArray⟩ s2 with ⟨hno,N0⟩ | ⟨O0,k3,l3,N0,_⟩
 ·have v1: ∀x,(Instr.lookup 140 (.map (some m)) (.string ⟨i.toArray⟩) true).run an (D.drewN x)= .ok (.tuple #[eL,false]) (D.drewN x):=fun x=>N0 (D.drewN x) rfl;clear N0;go_wp2_with fail;go_quiet (fail);obtain ⟨E,h0⟩:=gX (D.drewN nq);have f1:Below w w E:=by rw [h0];exact x0.drewN' _
  have t2:Rdr E base gr g l A c m p (some ⟨v,C,none⟩) cr pv:=by rw [h0];exact R.keep (fun _ _ _=>rfl) (lR _)
  have N:Blk E a 306 [.string ⟨i.toArray⟩,(b:Int),i0,i0]:=by rw [h0];exact M0.drewN _
  have y1:B8 E base s o:=by rw [h0];exact r2.keepB (fun _ _ _=>rfl) (lR _)
  have u2:Seg E base 5 1 t0 Q u0 (bc Q):=by rw [h0];exact (((g2.lower (by show base<=M;omega)).belowW F).belowW H).drewN _
  rw [<-h0];clear h0 v1 o2 n2 m2 M0 R r2 x0 L0 f0 i2 c1 c2 q0 Z0 q F H g2;have z1:=B8.rd y1;have g1:=qI (iu s o u E.drew z1.drew (by rw [X];omega));have j0:=N.c 0;by_cases i1:aw raw=i
  ·have T: ∀d,Below E E d->Calls an 251 #[.slice s o u] d fun e w'=>e= .returned (.bool (ah geS o))/\Below d.heap.size d w':=fun d m3=>vv s o u d (z1.alive m3) w1 x1 (by rw [X];omega);have A1:=qI i1;clear i1;cases z0:ah geS o with
   | false=>
    have P:Hid (O=none):=by unfold Hid;rw [y0,if_neg (fun h=>by have h2:=h.2;rw [<-X,z0] at h2;cases h2)]
    rw [z0] at T;have T:=qI T;clear z0;go_upto_region 9 with (fail);refine wp_region_held_drew (S:=fun d=>d.cell? a=some (.string ⟨i.toArray⟩)) qkR (j0) (fun r=> ?_);refine tl 0 i0 ?_;refine tl 1 (.bool false) ?_;refine tl 2 (.bool false) ?_;refine tl 3 (.bool false) ?_;refine tl 4 (.bool false) ?_;refine tl 5 (.bool false) ?_;refine tl 6 (.slice s o u) ?_;refine tl 8 (.pointer (some a)) ?_;refine tl 9 (.string ⟨i.toArray⟩) ?_;refine rh 7 fun G n=> ?_;go_simp;refine (g1.out).mono ?_;rintro e k0 ⟨k,Y,rfl,f⟩;have f:Below E E k0:=⟨f.os,f.tape,f.output,f.size,f.block⟩;have Z:=(f.cell (p:=⟨a,0,none⟩) N.lt).trans j0;have P0:Hid (k=aw raw):=by unfold Hid;rw [Y,X]
    clear Y;refine hO n Z (fun r=> ?_);obtain rfl:k=i:=by rw [P0];exact A1.out
    refine tl 10 (.bool false) ?_;refine tl 11 (.bool false) ?_;refine tl 12 (.bool false) ?_;refine tl 13 (.slice s o u) ?_;refine rh 14 fun G n=> ?_;go_simp;refine (T.out k0 f).mono ?_;rintro e B1 ⟨rfl,I⟩;have l0:=(I.cell (p:=⟨a,0,none⟩) (r9 N.lt f.size)).trans Z;refine hO n l0 (fun r=> ?_);refine tl 15 (.bool true) ?_;refine tl 16 (.bool true) ?_;refine dn ?_;go_wp2_with fail;go_ret;rw [P];exact ⟨rfl,((f1.next f).next I).mono hbase⟩
   | true=>
   have y0:Hid (O=some (⟨i,b,aI pv.p.depth b,j.length,raw⟩,b1)):=by unfold Hid;rw [y0,if_pos ⟨A1.out,by rw [<-X];exact z0⟩]
   rw [z0] at T;have T:=qI T;clear z0;go_upto_region 9 with (fail);refine wp_region_held_drew (S:=fun d=>d.cell? a=some (.string ⟨i.toArray⟩)) qkR (j0) (fun r=> ?_);refine tl 0 i0 ?_;refine tl 1 (.bool false) ?_;refine tl 2 (.bool false) ?_;refine tl 3 (.bool false) ?_;refine tl 4 (.bool false) ?_;refine tl 5 (.bool false) ?_;refine tl 6 (.slice s o u) ?_;refine tl 8 (.pointer (some a)) ?_;refine tl 9 (.string ⟨i.toArray⟩) ?_;refine rh 7 fun G n=> ?_;go_simp;refine (g1.out).mono ?_;rintro e k0 ⟨k,Y,rfl,f⟩;have f:Below E E k0:=⟨f.os,f.tape,f.output,f.size,f.block⟩;have Z:=(f.cell (p:=⟨a,0,none⟩) N.lt).trans j0;have P0:Hid (k=aw raw):=by unfold Hid;rw [Y,X]
   clear Y;refine hO n Z (fun r=> ?_);obtain rfl:k=i:=by rw [P0];exact A1.out
   refine tl 10 (.bool false) ?_;refine tl 11 (.bool false) ?_;refine tl 12 (.bool false) ?_;refine tl 13 (.slice s o u) ?_;refine rh 14 fun G n=> ?_;go_simp;refine (T.out k0 f).mono ?_;rintro e B1 ⟨rfl,I⟩;have l0:=(I.cell (p:=⟨a,0,none⟩) (r9 N.lt f.size)).trans Z;refine hO n l0 (fun r=> ?_);refine tl 15 (.bool false) ?_;refine tl 16 (.bool false) ?_;refine dn ?_;have v2:=(f1.next f).next I;have A0:=(t2.below f).below I;have C1:=(N.below f N.lt).below I (r9 N.lt f.size);have w2:=(y1.keepB (fun Q0 _ R0=>f.block Q0 R0) f.size).keepB (fun Q0 _ R0=>I.block Q0 R0) I.size;have x2:=(u2.belowW f).belowW I;clear t2 N y1 u2 f I z1 g1 T f1 j0 Z l0;have J:gr≠a:=by have:=r0.out;omega
   have J4:g≠a:=by have:=r0.out;have:=h.pck.blk.lt;omega
   have n3:g≠gr:=fun e=>by
    have h1:=A0.blk;have h2:=A0.pck.blk;rw [e] at h2;exact z177
   have y2:=qI (tc gr 1 276 _ _ pv.p.depth b s o u B1.drew A0.blk.drew rfl rfl qO);have l0:=C1.c 1;go_wp2_with fail;refine wp_region_held_drew (S:=fun d=>d.cell? ⟨a,1,none⟩=some (.int .i64 b)) qkR (l0) (fun r=> ?_);refine tl 0 (.pointer (some gr)) ?_;refine tl 1 (.pointer (some gr)) ?_;refine tl 2 (.pointer (some ⟨gr,1,none⟩)) ?_;refine tl 3 (.pointer (some ⟨a,1,none⟩)) ?_;refine tl 4 (.int .i64 b) ?_;refine tl 5 (.slice s o u) ?_;refine rh 6 fun G n=> ?_;go_simp;refine (y2.out).mono ?_;rintro e m0 ⟨rfl,z2,K⟩;have K:B1.grownBy m0 (some gr):=⟨K.os,K.tape,K.output,K.size,K.block⟩;have U:=C1.grown K (fun e=>J (by injection e with e;exact e.symm));have A2:=U.c 1;refine hO n A2 (fun r=> ?_);refine dn ?_;have a0:Blk m0 gr 276 [.slice (some ⟨v,C,none⟩) p cr,.slice s o u,.int .i64 (aI pv.p.depth b:Nat),.pointer (some g)]:=z2;obtain ⟨t,B2⟩:=gH (aI pv.p.depth b);rw [<-B2] at a0;clear z2 y2 l0 A2;have o3:=a0.c 2;have p3:=a0.c 0;have q3:=U.c 2;have v0:=U.c 3;have r3:=U.free 2;have s3:=U.free 3;have t3:((m0.setCell ⟨a,2,none⟩ (.int .i64 t)).setCell ⟨a,3,none⟩ (.int .i64 j)).cell? gr=some (.slice (some ⟨v,C,none⟩) p cr):=by rw [((a0.far (p:=⟨a,2,none⟩) J _).far (p:=⟨a,3,none⟩) J _).cell];rfl
   have u3:=((a0.far (p:=⟨a,2,none⟩) J (.int .i64 t)).far (p:=⟨a,3,none⟩) J (.int .i64 j)).free 0;go_upto_region 14 with (fail);obtain ⟨n0,B0⟩:=gX (((m0.setCell ⟨a,2,none⟩ (.int .i64 t)).setCell ⟨a,3,none⟩ (.int .i64 j)).setCell gr (.slice t0 Q u0));have j1:Blk n0 a 306 [.string ⟨k.toArray⟩,(b:Int),t,j]:=by rw [B0];exact ((U.set 2 _).set 3 _).far (Ne.symm J) _
   have k1:Blk n0 gr 276 [.slice t0 Q u0,.slice s o u,t,.pointer (some g)]:=by rw [B0];exact ((a0.far (p:=⟨a,2,none⟩) J _).far (p:=⟨a,3,none⟩) J _).set 0 _
   have l1:w.grownBy n0 (some gr):=by rw [B0];exact ae (vT (vT (aq (ax v2 (some gr)) K) (by show w<=a;rw [r0];exact lR _) _) (by show w<=a;rw [r0];exact lR _) _) 0 _
   have D1:m0.grownBy ((m0.setCell ⟨a,2,none⟩ (.int .i64 t)).setCell ⟨a,3,none⟩ (.int .i64 j)) (some a):=ae (ae (gR _ _) 2 _) 3 _;have E1:=(a0.far (p:=⟨a,2,none⟩) J (.int .i64 t)).far (p:=⟨a,3,none⟩) J (.int .i64 j);have F1:((m0.setCell ⟨a,2,none⟩ (.int .i64 t)).setCell ⟨a,3,none⟩ (.int .i64 j)).grownBy n0 (some gr):=by rw [B0];exact ae (gR _ _) 0 _
   have C2:=((w2.grown K (v8 A0.blk (by decide) (zL))).grown D1 (v8 U (by decide) (zL))).grown F1 (v8 E1 (by decide) (zL));have G1:Seg n0 base 5 1 t0 Q u0 (bc Q):=fy (fy (fy x2 A0.blk (by decide) K) U (by decide) D1) E1 (by decide) F1;have hP10:=h.pck.grown h.blk l1 (by decide) (by decide) (by decide) (by decide);rw [<-B0];clear B0 D1 E1 F1 w2 x2 U a0 o3 p3 q3 v0 r3 s3 t3 u3 K C1 A0 v2;have v3:(it A l c).ownBlock≠some a:=fun e=>by
    have h1:=(h.pck.parts.lt a e).2;have:=r0.out;omega
   have w3:=NJ l9 s2;obtain ⟨x3,L,y3,H1,D2,B⟩:=hP10.map.drew.update jR D7 w3 (.slice s o u);have B:n0.grownBy L (some m):=⟨B.os,B.tape,B.output,B.size,B.block⟩;have z3:=hP10.map.blk_ne j1;have A3:=hP10.map.blk_ne k1;have E2:=hP10.map.blk_ne hP10.blk;have S0:=j1.grown B (fun e=>z3 (by injection e));have F2:=k1.grown B (fun e=>A3 (by injection e));have I1:=hP10.blk.grown B (fun e=>E2 (by injection e));have B3:=hP10.map.is.kept hP10.parts B;have G2:=k1.c 3;have H0:n0.cell? ⟨g,1,none⟩=some (.map (some m)):=by rw [hP10.blk.cell];rfl
   have G0:=j1.c 0;have H2:=F2.c 3;have X0:=I1.c 1;have I0:=S0.c 0;refine wp_region_held_drew (S:=fun d=>d.cell? ⟨gr,3,none⟩=some (.pointer (some g))/\d.cell? ⟨g,1,none⟩=some (.map (some m))/\d.cell? a=some (.string ⟨k.toArray⟩)) qkR (⟨G2,H0,G0⟩) (fun r=> ?_);refine tl 0 (.pointer (some gr)) ?_;refine tl 1 (.pointer (some gr)) ?_;refine tl 2 (.pointer (some ⟨gr,3,none⟩)) ?_;refine tl 3 (.pointer (some g)) ?_;refine tl 4 (.pointer (some g)) ?_;refine tl 5 (.pointer (some ⟨g,1,none⟩)) ?_;refine tl 6 (.map (some m)) ?_;refine tl 7 (.pointer (some a)) ?_;refine tl 8 (.string ⟨k.toArray⟩) ?_;refine tl 9 (.slice s o u) ?_;refine rh 10 fun G n=> ?_;go_simp;refine hO n (⟨H2,X0,I0⟩) (fun r=> ?_);refine dn ?_;obtain ⟨b0,c0⟩: ∃b0:PtA,b0=⟨⟨k,b,t,j.length,o⟩,s,u⟩:=⟨_,rfl⟩;have C3: ∀I2∈ptm l,I2.1≠Value.string ⟨k.toArray⟩:=fun I2 D3 e=>by
    obtain ⟨z,hz,rfl⟩:=e9.1 D3;injection e with e;have e2:z.p.id=k:=by have:=mc.1 e;simpa using this
    exact z183
   have J2:x3=ptm (l++[b0]):=by
    rcases D2 with ⟨_,rfl⟩ | ⟨K4,L4,E3,e1,_⟩
    ·rw [GG,c0];rfl
    exact absurd rfl (C3 (Value.string ⟨k.toArray⟩,E3) (by rw [e1];simp))
   have K2:B8 L base s o:=by
    refine C2.grown B fun J1 hj=>⟨zL,fun L2 F3 e=> ?_⟩;exact z202
   have M2: ∀y∈l,B8 L base y.A y.p.raw/\y.p.raw.length<=y.c/\y.c<=maxLen:=fun y V=>by
    refine ⟨(hP10.raws y V).1.grown B fun J1 hj=>⟨zL,fun L2 F3 e=> ?_⟩,(hP10.raws y V).2⟩;exact z202
   have G3:Seg L base 5 1 t0 Q u0 (bc Q):=G1.keepR B fun J1 hj e=>by
    injection e with e;subst e;obtain ⟨es,clock,hbm⟩:=hP10.map.is;unfold aT at hj;split at hj
    ·rcases G1.2.2.2 with M4 | ⟨H3,N4,L2,rfl,_,N2,_⟩
     ·omega
     have I3:H3=J1:=by simpa [au] using hj
     rw [I3,hbm] at N2;cases N2
    cases hj
   have m1:=(ak l1 h.gb hbase).trans (ak B hP10.mb (lT hbase l1.size));clear y3 D2 B G1 C2 l1 j1 k1 G2 H0 G0;rw [J2] at H1;clear J2;have J3:=I1.c 0;have K3:=S0.c 1;have L3:=S0.c 2;have M3:=S0.c 3;go_upto_region 15 with (fail);refine pF (S:=fun d=>d.cell? ⟨gr,3,none⟩=some (.pointer (some g))/\d.cell? g=some (.slice A l c)/\d.cell? a=some (.string ⟨k.toArray⟩)/\d.cell? ⟨a,1,none⟩=some (.int .i64 b)/\d.cell? ⟨a,2,none⟩=some (.int .i64 t)/\d.cell? ⟨a,3,none⟩=some (.int .i64 j)) 16 _ qkR rfl qkR rfl rfl ⟨H2,J3,I0,K3,L3,M3⟩ (fun r=> ?_);simp only [List.setIfInBounds_toArray,List.set_cons_zero,List.set_cons_succ,bU,List.getElem_toArray,List.getElem_cons_succ,List.getElem_cons_zero];refine tl 0 (.pointer (some gr)) ?_;refine tl 1 (.pointer (some gr)) ?_;refine tl 2 (.pointer (some ⟨gr,3,none⟩)) ?_;refine tl 3 (.pointer (some g)) ?_;refine tl 4 (.pointer (some gr)) ?_;refine tl 5 (.pointer (some gr)) ?_;refine tl 6 (.pointer (some ⟨gr,3,none⟩)) ?_;refine tl 7 (.pointer (some g)) ?_;refine tl 8 (.pointer (some g)) ?_;refine tl 9 (.pointer (some g)) ?_;refine tl 10 (.slice A l c) ?_;refine tl 11 (.agg #[.string ⟨k.toArray⟩,(b:Int),t,j]) ?_;have C0:=(az B3 ((bR _ _).drew (w:=L))).alloc (.cells #[.string ⟨k.toArray⟩,(b:Int),t,j] 306);have N3:=Rd.newS L.drew 306 [.string ⟨k.toArray⟩,.int .i64 b,.int .i64 t,.int .i64 j] 4 rfl;have O3:[Value.string ⟨k.toArray⟩,.int .i64 b,.int .i64 t,.int .i64 j]=ptc [b0]:=by rw [c0];rfl
   have O2:=Gk [b0];rw [<-O3] at O2;have P3:[Value.string ⟨k.toArray⟩,.int .i64 b,.int .i64 t,.int .i64 j]=b0.cells:=by rw [c0];rfl
   have T0:=S0.drew.alloc (.cells #[.string ⟨k.toArray⟩,(b:Int),t,j] 306);have K1:=F2.drew.alloc (.cells #[.string ⟨k.toArray⟩,(b:Int),t,j] 306);have L1:=I1.drew.alloc (.cells #[.string ⟨k.toArray⟩,(b:Int),t,j] 306);have Q3:=K1.c 3;have e1:=L1.c 0;have e2:=T0.c 0;have R3:=T0.c 1;have S3:=T0.c 2;have T3:=T0.c 3;refine rh 12 fun G n=> ?_;go_simp;refine hO n (⟨Q3,e1,e2,R3,S3,T3⟩) (fun r=> ?_);refine rh 13 fun G n=> ?_;refine ft rfl (.tmp 129) (.tmp 131) 203 306 _ 4 40 rfl Tryz.underlying203 GH rfl (by decide) base _ l (ptc l) rfl C0 _ _ 1 1 _ rfl N3 O2 (by unfold maxLen;omega) qO (lT hbase (lT m1.size (by simp))) ?_;intro n1 o1 M1 U3 P2 D0 O4 P4;have V3:some a≠(it A l c).ownBlock:=fun e=>v3 (by rw [<-e]);have W3:some gr≠(it A l c).ownBlock:=fun e=>own_ne C0 K1 (by decide) e.symm;have X3:some g≠(it A l c).ownBlock:=fun e=>own_ne C0 L1 (by decide) e.symm;have p1:=T0.grown D0 V3;have Q2:=K1.grown D0 W3;have E0:=L1.grown D0 X3;have Y3:=Q2.c 3;have Z3:=E0.c 0;have a4:=p1.c 0;have b4:=p1.c 1;have c4:=p1.c 2;have d4:=p1.c 3;refine hO n (⟨Y3,Z3,a4,b4,c4,d4⟩) (fun r=> ?_);refine tl 14 (.pointer (some g)) ?_;refine tl 15 (.pointer (some g)) ?_;refine tl 16 undef ?_;refine dn ?_;have Q4:=E0.free 0;simp only [dt];go_simp;have o0:M1.grownBy (M1.setCell g (.slice n1 (l.length+1) o1)) (some g):=ae (gR _ _) 0 _;obtain ⟨N1,O1⟩:=gX (M1.setCell g (.slice n1 (l.length+1) o1));have e4:Blk N1 g 205 [.slice n1 (l.length+1) o1,.map (some m),.int .u32 0,.int .i32 0,.int .u32 0,eL]:=by rw [O1];exact E0.set 0 _
   rw [<-O1] at o0 ⊢;have p0:Below L L (L.drew.alloc (.cells #[.string ⟨k.toArray⟩,(b:Int),t,j] 306)):=((bR _ _).drew).alloc (by simp) _;have f4:Other (L.drew.alloc (.cells #[.string ⟨k.toArray⟩,(b:Int),t,j] 306)) 0 (it A l c).ownBlock:=K9 C0 (by decide) (zL);have g4:=v8 E0 (by decide) (zL);have P1: ∀(Q1:OA) (R1:LU),B8 L base Q1 R1->B8 N1 base Q1 R1:=fun Q1 R1 h4=>((h4.keepB (fun Q0 _ R0=>p0.block Q0 R0) p0.size).grown D0 f4).grown o0 g4;have i4:=Q2.grown o0 (fun e=>n3 (by injection e with e;exact e.symm));have j4:=fy (GE (G3.belowW p0) C0 (by decide) D0) E0 (by decide) o0;have k4:=((H1.belowW p0).grown D0 (fun e=>(H1.belowW p0).own_ne C0 e.symm)).grown o0 (fun e=>E2 (by injection e with e;exact e.symm));have l4:=aE U3 E0 (by decide) o0;have m4:=(m1.trans (p0.mono (lT hbase m1.size))).trans (P2.trans (ak o0 h.pck.gb (lT (lT hbase m1.size) (lT p0.size P2.size))));have R2:(l++[b0]).length=l+1:=by simp
   have n4: ¬k∈l.map fun y=>y.p.id:=fun h1=>by
    obtain ⟨z,hz,e2⟩:=e9.1 h1;exact z183
   have S2:vS w base gr g l m O (.returned i0) N1:=by
    rw [y0];refine ⟨m4,?_⟩;rw [if_neg n4];refine ⟨rfl,b0,n1,o1,Q,t0,u0,?_,d3,?_,h.gb,⟨?_,hP10.gb,hP10.mb,?_,k4,?_,.inl ⟨rfl,rfl⟩⟩,j4,?_⟩
    ·unfold Hid;rw [c0,B2,X]
    ·rw [c0];exact i4
    ·rw [R2];exact e4
    ·rw [R2,GF,<-P3];exact l4
    ·intro y V;rcases l7.1 V with V | V
     ·exact ⟨P1 _ _ (M2 y V).1,(M2 y V).2⟩
     obtain rfl:=i7.1 V;rw [c0];exact ⟨P1 _ _ K2,w1,x1⟩
    rw [c0];exact ⟨P1 _ _ K2,w1,x1⟩
   have o4:=qI S2;clear S2 O1 c0;go_wp2_with fail;go_ret;exact o4.out
  have P:Hid (O=none):=by unfold Hid;rw [y0,if_neg (fun h=>i1 h.1)]
  go_upto_region 9 with (fail);refine wp_region_held_drew (S:=fun d=>d.cell? a=some (.string ⟨i.toArray⟩)) qkR (j0) (fun r=> ?_);refine tl 0 i0 ?_;refine tl 1 (.bool false) ?_;refine tl 2 (.bool false) ?_;refine tl 3 (.bool false) ?_;refine tl 4 (.bool false) ?_;refine tl 5 (.bool false) ?_;refine tl 6 (.slice s o u) ?_;refine tl 8 (.pointer (some a)) ?_;refine tl 9 (.string ⟨i.toArray⟩) ?_;refine rh 7 fun G n=> ?_;go_simp;refine (g1.out).mono ?_;rintro e k0 ⟨k,Y,rfl,f⟩;have f:Below E E k0:=⟨f.os,f.tape,f.output,f.size,f.block⟩;have Z:=(f.cell (p:=⟨a,0,none⟩) N.lt).trans j0;have P0:Hid (k=aw raw):=by unfold Hid;rw [Y,X]
  clear Y;refine hO n Z (fun r=> ?_);have J: ¬k=i:=by rw [P0];exact i1
  refine tl 10 (.bool true) ?_;refine tl 11 (.bool true) ?_;refine tl 12 (.bool true) ?_;refine tl 13 undef ?_;refine tl 14 undef ?_;refine tl 15 undef ?_;refine tl 16 (.bool true) ?_;refine dn ?_;go_wp2_with fail;go_ret;rw [P];exact ⟨rfl,(f1.next f).mono hbase⟩
 have v1: ∀x,(Instr.lookup 140 (.map (some m)) (.string ⟨i.toArray⟩) true).run an (D.drewN x)= .ok (.tuple #[.slice O0.A O0.p.raw O0.c,true]) (D.drewN x):=fun x=>N0 (D.drewN x) rfl;clear N0;go_wp2_with fail;go_quiet (fail);go_wp2_with fail;go_quiet (fail);go_wp2_with fail;go_ret;have p4:i∈l.map fun y=>y.p.id:=by
  have h1:=List.find?_some l3;have h2:O0.p.id=i:=by simpa using of_decide_eq_true h1
  exact e9.2 ⟨O0,k3,h2⟩
 rw [y0];split
 ·exact ⟨((x0.drewN' _).drewN' _).mono hbase,by rw [if_pos p4];rfl⟩
 exact ⟨rfl,((x0.drewN' _).drewN' _).mono hbase⟩
end
def Iv (base:Nat) (w:World) (dn:Nat) (r:Option (LU)) (c:Ending) (w':World):Prop:=
 Below w w w'/\match r with
 | none=> ∃e:Int,c= .returned (.tuple #[eL,.int .i64 e,false])
 | some f=> ∃(a:LU) (d:OA) (b:Nat),Hid (a=f)/\c= .returned (.tuple #[.slice d a b,(dn:Nat),true])/\B8 w' base d a/\a<=b/\b<=maxLen
theorem Iw {l n x} (a:l.length=n+1) (b:l[n]?=some x):cL [] (ptp l)=x.p.raw/\bO 0 (ptp l)=x.p.depth:=by
 have c:(ptp l).getLast?=some x.p:=by
  have d:(ptp l).length-1=n:=by simp [ptp,a]
  rw [NC,d];unfold ptp;rw [m7,b];rfl
 unfold cL bO;rw [c];exact ⟨rfl,rfl⟩
theorem B8.drewQ {w base A l} (a:B8 w base A l) (n):B8 (w.drewN n) base A l:=a.keepB (fun _ _ _=>rfl) (lR _)
theorem Ix (Al l) (W k base:Nat) (A b c w) (M:Rd w w.heap.size 5 Al l.length (rpc l)) (m0:l.length<=4096)
  (N: ∀x∈l,B8 w base x.A x.p.raw/\x.p.raw.length<=x.c/\x.c<=maxLen) (O: ∀x∈l,0<x.p.raw.length/\x.p.raw.length<=2097152) (P: ∀x∈l,x.p.depth<=7)
  (y:B8 w base A b) (hbase:base<=w) (z:b.length<=c) (X:c<=maxLen) (n0:b.length<=kab):
  Calls an 144 #[.slice Al l W,k,.slice A b c] w (Iv base w (aI (bO 0 (ptp l)) k) (bk (cL [] (ptp l)) (bO 0 (ptp l)) k b)):=by
 by_cases j:k=0
 ·have Y:((k:Int)==0)=true:=by simp;omega
  have f: ∀d a,bk d a k b=some b:=fun d a=>by unfold bk;rw [if_pos j]
  have m: ∀a,aI a k=0:=fun a=>by unfold aI;rw [if_neg qO]
  rw [f,m];clear f m j;go_in;go_wp2_with fail;go_ret3;exact ⟨bR _ _,b,A,c,rfl,rfl,y,z,X⟩
 have Y:((k:Int)==0)=false:=by simp;omega
 by_cases n:k=1
 ·have Z:((k:Int)==1)=true:=by simp;omega
  have f: ∀d a,bk d a k b=cf b 2097152:=fun d a=>by unfold bk;rw [if_neg j,if_pos n]
  have m: ∀a,aI a k=0:=fun a=>by unfold aI;rw [if_neg qO]
  rw [f,m];have B:=qI (tK A b c 2097152 w y.rd qO z qO);clear f m j n;go_in;go_wp2_with fail;refine B.mono ?_;intro a0 b0 C;have g:=C.toB hbase;cases h:cf b 2097152 with
  | none=>
   rw [h] at g;obtain ⟨i,rfl⟩:=g;go_wp2_with fail;go_ret3;rw [h];exact ⟨i,_,rfl⟩
  | some c0=>
  rw [h] at g;obtain ⟨i,D,E,F,G,rfl,o,H,I⟩:=g;go_wp2_with fail;go_ret3;rw [h];exact ⟨i,D,E,F,G,rfl,o,H,I⟩
 have Z:((k:Int)==1)=false:=by simp;omega
 by_cases q:k=2
 ·have d0:((k:Int)==2)=true:=by simp;omega
  have f: ∀d a,bk d a k b=if 0<d.length/\a<7 then cH d b 2097152 else none:=fun d a=>by unfold bk;rw [if_neg j,if_neg n,if_pos q]
  have m: ∀a,aI a k=a+1:=fun a=>by unfold aI;rw [if_pos q]
  rw [f,m];clear f m j n q;by_cases J:l.length=0
  ·have Q:=nZ J;have e0:((l:Int)==0)=true:=beq_iff_eq.2 qO;rw [if_neg (by rw [Q];simp [cL,ptp])];clear Q J;go_in;go_wp2_with fail;go_ret3;exact ⟨bR _ _,_,rfl⟩
  obtain ⟨e,R⟩: ∃e,l.length=e+1:=⟨l.length-1,qO⟩;obtain ⟨x,r⟩: ∃x,l[e]?=some x:=⟨l[e]'qO,gE qO⟩;have e0:((l:Int)==0)=false:=beq_eq_false_iff_ne.2 qO;have o0:IntKind.i64.wrap (l-1)=(e:Int):=by rw [qJ qO];omega
  have p0:=zeI e;have q0:=ltI e l.length;obtain ⟨o,S⟩:=Iw R r;rw [o,S];have t:=g8 r;obtain ⟨f0,g0,r0⟩:=N x t;obtain ⟨h0,s0⟩:=O x t;have i0:=P x t;obtain ⟨u,v,rfl,T,K⟩:=M.at_ qO;have L:w.cell? ⟨u,v+e*5+2,none⟩=some (.int .i64 (x.p.depth:Nat)):=K (e*5+2) _ (bD r 2 qO);have t0:w.cell? ⟨u,v+e*5+4,none⟩=some (.slice x.A x.p.raw x.c):=K (e*5+4) _ (bD r 4 qO);obtain ⟨s,U⟩:=gX x.p.depth;rw [<-U] at L i0 ⊢;clear U K r t o S N O P M R J;by_cases V:s<7
  ·have j0: ¬((7:Int)<=(s:Int)):=qO;have u0:=qiJ (s+1);rw [if_pos ⟨h0,V⟩];have B:=qI (Iy x.A x.p.raw x.c A b c 2097152 w f0.rd qO g0 y.rd qO z qO);go_in;go_wp2_with fail;refine B.mono ?_;intro a0 b0 C;have g:=C.toB hbase;cases h:cH x.p.raw b 2097152 with
   | none=>
    rw [h] at g;obtain ⟨i,rfl⟩:=g;have k0:=(i.cell (p:=⟨u,v+e*5+2,none⟩) T).trans L;go_wp2_with fail;go_quiet (fail);go_wp2_with fail;go_ret3;rw [h];exact ⟨i.drewN' _,_,rfl⟩
   | some c0=>
   rw [h] at g;obtain ⟨i,D,E,F,G,rfl,o,H,I⟩:=g;have k0:=(i.cell (p:=⟨u,v+e*5+2,none⟩) T).trans L;go_wp2_with fail;go_quiet (fail);go_wp2_with fail;go_ret3;rw [h];exact ⟨i.drewN' _,D,E,F,G,by first | rfl | simp,o.drewQ _,H,I⟩
  have j0:(7:Int)<=(s:Int):=qO;rw [if_neg (fun l0=>V l0.2)];go_in;go_wp2_with fail;go_ret3;exact ⟨bR _ _,_,rfl⟩
 have d0:((k:Int)==2)=false:=by simp;omega
 have f: ∀d a,bk d a k b=none:=fun d a=>by unfold bk;rw [if_neg j,if_neg n,if_neg q]
 rw [f];clear f j n q;go_in;go_wp2_with fail;go_ret3;exact ⟨bR _ _,_,rfl⟩
