/- Walks and laws. Conditions: as stated. -/
import Derived.Test.YtecpbcmpncgokaaGreatRPk2
set_option maxRecDepth 99999
set_option maxHeartbeats 25600000
set_option linter.all false
open Go.Region renaming noSelect->Qe,wanted->up,ready->PL,binds->P7,Mode->P6,free->Qn
open Go.Proofs.Tryz renaming prog->an
open Go.RowKit Go.Dol
namespace Go.Dol
open Go
section
variable {P:Program} {ops:Array Oper} {Q:Exit->Act->World->Prop} {md:P6} {T:Array Bool->World->Prop}
def bY (P:Program) (md:P6) (ops:Array Oper) (Q:Exit->Act->World->Prop) (T:Array Bool->World->Prop):Nat->Array Bool->Act->World->Prop
 | 0,b,a,w=>PL md ops b=[]/\Q .normal a w
 | c+1,b,a,w=>
  (PL md ops b=[]->Q .normal a w)/\
  ∀i∈PL md ops b,wpOp P ops Q i (fun d w'=>T (b.setIfInBounds i true) w'/\bY P md ops Q T c (b.setIfInBounds i true) d w') a w
theorem xP: ∀(b:Nat) (d:Array Bool) (a:Act) (w:World),bY P md ops Q T b d a w->wpAny P md ops Q b d a w
 | 0,_,_,_,c=>c
 | b+1,_,_,_,c=>⟨c.1,fun i hi=>wpOp_mono (fun e w' f=>xP b _ e w' f.2) (c.2 i hi)⟩
def behind (md:P6) (ops:Array Oper) (i:Nat) (ks:List Nat):Bool:=
 ks.all fun b=>match ops[b]? with | none=>false | some c=>c.after.any fun a=>P7 md a&&(a.on==i||ks.contains a.on)
def Unl (ks:List Nat) (a:Array Bool):Prop:=∀ b∈ks,a.getD b true=false
theorem qy {a:Array Bool} {k} (b:a.getD k true=false) (c:a.getD k false=true):False:=by
 rcases D8 k a.size with d | d
 ·simp [d] at b c;rw [b] at c;cases c
 simp [Oh d] at b
theorem Unl.step {i j ks L} (k:behind md ops i ks=true) (e:Unl ks L) (hi:L.getD i true=false) (l:j∈PL md ops L):Unl ks (L.setIfInBounds j true):=fun f g=>by
 by_cases a:j=f
 ·subst a;obtain ⟨_,p,m,n⟩:=mem_ready.1 l;have h:=Nu.1 k j g;rw [m] at h;obtain ⟨a,o,b⟩:=OM.1 h;simp only [m8,Pl,beq_iff_eq,y9] at b;have c:=n a o b.1;rcases b.2 with d | d
  ·rw [d] at c;exact (qy hi c).elim
  exact (qy (e _ d) c).elim
 rw [getD_set_ne true a];exact e f g
theorem JW {i oi v} (hi:ops[i]?=some oi) (z: ∀(j:Nat) (A:Oper) l b,ops[j]?=some A->A.op≠ .select l b)
  (I: ∀c a w,Q (.panic c) (a.put oi.dst v) w->Q (.panic c) a w) (ks) (J:behind md ops i ks=true) (u: ∀m w,T (m.setIfInBounds i true) w↔T m w):
  ∀(n:Nat) (d:Array Bool) (a:Act) (w:World),
   (∀j g,ops[j]?=some g->j≠i->d.getD j true=false->(∀e∈g.after,P7 md e=true->e.on≠i)->oi.apart ops g=true)->
   i∈PL md ops d->Unl ks d->YieldsIf P ops (fun w=> ∃m,Unl ks m/\T m w) oi v a->T d w->
   bY P md ops Q T n (d.setIfInBounds i true) (a.put oi.dst v) w->bY P md ops Q T (n+1) d a w:=by
 intro n;induction n with
 | zero=>
  intro d a w _ h r s o p;refine ⟨fun x=>(by rw [x] at h;cases h),fun j q=> ?_⟩;by_cases f:j=i
  ·subst f;exact s.wpOp hi ⟨_,r,o⟩ ⟨(u _ _).2 o,p⟩
  have:=ready_mono q f;rw [p.1] at this;cases this
 | succ n K=>
 intro d a w B h r s o p;refine ⟨fun x=>(by rw [x] at h;cases h),fun j q=> ?_⟩;by_cases f:j=i
 ·subst f;exact s.wpOp hi ⟨_,r,o⟩ ⟨(u _ _).2 o,p⟩
 have t:=p.2 j (ready_mono q f);obtain ⟨C,g,y,L⟩:=mem_ready.1 q;have D:=(mem_ready.1 h).1;have M: ∀e∈g.after,P7 md e=true->e.on≠i:=fun e N O R=>by
  have t:=L e N O;rw [R] at t;exact qy D t
 have S:=wpOp_putIf y (B j g y f C M) (fun l b=>z i oi l b hi) (fun l b=>z j g l b y) I s t;have U: ∀k ok,ops[k]?=some ok->k≠i->(d.setIfInBounds j true).getD k true=false->
   (∀e∈ok.after,P7 md e=true->e.on≠i)->oi.apart ops ok=true:=fun k ok hk hki hun hno=>by
  refine B k ok hk hki ?_ hno;by_cases E:j=k
  ·subst E;exact C
  rw [getD_set_ne true E] at hun;exact hun
 refine wpOp_mono (fun V W X=> ?_) S;obtain ⟨Y,F,G⟩:=X;rw [Array.setIfInBounds_comm _ _ (Ne.symm f)] at F G;have H:=(u _ _).1 F;exact ⟨H,K (d.setIfInBounds j true) V W U (ready_mono h (Ne.symm f)) (r.step J D q) Y H G⟩
theorem xQ {i oi v fuel listed a w} (ks) (hi:ops[i]?=some oi)
  (d:Qe ops=true) (e:Qn md ops listed i=true) (f:(PL md ops listed).contains i=true) (g:behind md ops i ks=true) (h:ks.all (fun k=> !listed.getD k true)=true)
  (j: ∀c a w,Q (.panic c) (a.put oi.dst v) w->Q (.panic c) a w) (l: ∀b w,T (b.setIfInBounds i true) w↔T b w) (m:YieldsIf P ops (fun w=> ∃b,Unl ks b/\T b w) oi v a) (n:T listed w)
  (o:bY P md ops Q T fuel (listed.setIfInBounds i true) (a.put oi.dst v) w):bY P md ops Q T (fuel+1) listed a w:=
 JW hi (Region.noSelect_spec d) j ks g l fuel listed a w (Region.free_spec hi e) (by simpa using f) (fun k p=>by simpa using Nu.1 h k p) m n o
def dJ (S:World->Prop) (k:Nat) (a:Array Bool) (w:World):Prop:=a.getD k true=false->S w
theorem xR {S k i} (a:i≠k) (L w):dJ S k (L.setIfInBounds i true) w↔dJ S k L w:=by
 unfold dJ;rw [getD_set_ne true a]
theorem JX {S k i oi v fuel listed a w} (ks) (hi:ops[i]?=some oi)
  (b:Qe ops=true) (d:Qn md ops listed i=true) (e:(PL md ops listed).contains i=true) (f:behind md ops i ks=true) (g:ks.all (fun k=> !listed.getD k true)=true) (h:k∈ks) (j:i≠k)
  (l: ∀c a w,Q (.panic c) (a.put oi.dst v) w->Q (.panic c) a w) (m:YieldsIf P ops S oi v a) (n:dJ S k listed w)
  (o:bY P md ops Q (dJ S k) fuel (listed.setIfInBounds i true) (a.put oi.dst v) w):bY P md ops Q (dJ S k) (fuel+1) listed a w:=
 xQ ks hi b d e f g l (xR j) (m.imp (fun ⟨p,q⟩=>⟨p,fun w ⟨_,r,s⟩=>q w (s (r k h))⟩) id) n o
theorem JY {S k i oi v fuel listed a w} (hi:ops[i]?=some oi)
  (b:Qe ops=true) (d:Qn md ops listed i=true) (e:(PL md ops listed).contains i=true) (f:i≠k)
  (g: ∀c a w,Q (.panic c) (a.put oi.dst v) w->Q (.panic c) a w) (h:YieldsIf P ops (fun _=>True) oi v a) (j:dJ S k listed w)
  (l:bY P md ops Q (dJ S k) fuel (listed.setIfInBounds i true) (a.put oi.dst v) w):bY P md ops Q (dJ S k) (fuel+1) listed a w:=
 xQ [] hi b d e rfl rfl g (xR f) (h.imp (fun ⟨m,n⟩=>⟨m,fun w _=>n w trivial⟩) id) j l
def AllReadyT (P:Program) (md:P6) (ops:Array Oper) (Q:Exit->Act->World->Prop) (T:Array Bool->World->Prop) (e:Nat) (c:Array Bool) (a:Act) (w:World) (f:List Nat):Prop:=
 ∀b∈f,wpOp P ops Q b (fun g d=>T (c.setIfInBounds b true) d/\bY P md ops Q T e (c.setIfInBounds b true) g d) a w
theorem AllReadyT.nil {fuel listed a w}:AllReadyT P md ops Q T fuel listed a w []:=fun _ b=>by cases b
theorem AllReadyT.cons {fuel listed a w i o rs} (e:ops[i]?=some o)
  (f: ∀b:Act->World->Prop,Shut (∀a w,T (listed.setIfInBounds i true) w->(T (listed.setIfInBounds i true) w->bY P md ops Q T fuel (listed.setIfInBounds i true) a w)->b a w)->if up o (yielded ops a.tmps)=true then Oper.wp P o a w b Q else b (a.put o.dst undef) w)
  (g:AllReadyT P md ops Q T fuel listed a w rs):AllReadyT P md ops Q T fuel listed a w (i::rs):=fun h c=>by
 rcases i8.1 c with rfl | c
 ·exact wpOp_step e (fun b j=>f b (fun a w d k=>j a w ⟨d,k d⟩))
 exact g h c
def Ps:=@AllReadyT.cons
theorem xS {rs fuel listed a w} (b:PL md ops listed=rs) (c:rs≠[])
  (d:AllReadyT P md ops Q T fuel listed a w rs):bY P md ops Q T (fuel+1) listed a w:=⟨fun e=>absurd (b▸e) c,b▸d⟩
theorem JZ {listed a w} (b:PL md ops listed=[]) (c:Q .normal a w): ∀d,bY P md ops Q T d listed a w
 | 0=>⟨b,c⟩
 | _+1=>⟨fun _=>c,by rw [b];simp⟩
theorem rT (i) {b:Oper} {fuel listed a w}
  (d: ∀c:Act->World->Prop,Shut (∀a w,T (listed.setIfInBounds i true) w->(T (listed.setIfInBounds i true) w->bY P md ops Q T fuel (listed.setIfInBounds i true) a w)->c a w)->if up b (yielded ops a.tmps)=true then Oper.wp P b a w c Q else c (a.put b.dst undef) w)
  (e:PL md ops listed=[i]:=by kernel_rfl) (f:ops[i]?=some b:=by rfl):bY P md ops Q T (fuel+1) listed a w:=
 xS e (by simp) (Ps f d AllReadyT.nil)
theorem rT2 (i j) {c d:Oper} {fuel listed a w}
  (e: ∀b:Act->World->Prop,Shut (∀a w,T (listed.setIfInBounds i true) w->(T (listed.setIfInBounds i true) w->bY P md ops Q T fuel (listed.setIfInBounds i true) a w)->b a w)->if up c (yielded ops a.tmps)=true then Oper.wp P c a w b Q else b (a.put c.dst undef) w)
  (f: ∀b:Act->World->Prop,Shut (∀a w,T (listed.setIfInBounds j true) w->(T (listed.setIfInBounds j true) w->bY P md ops Q T fuel (listed.setIfInBounds j true) a w)->b a w)->if up d (yielded ops a.tmps)=true then Oper.wp P d a w b Q else b (a.put d.dst undef) w)
  (g:PL md ops listed=[i,j]:=by kernel_rfl) (h:ops[i]?=some c:=by rfl) (k:ops[j]?=some d:=by rfl):bY P md ops Q T (fuel+1) listed a w:=
 xS g (by simp) (Ps h e (Ps k f AllReadyT.nil))
theorem tlF {S k} (i:Nat) (v:Value) {oi fuel listed a a' w}
  (b:bY P md ops Q (dJ S k) fuel (listed.setIfInBounds i true) a' w)
  (hi:ops[i]?=some oi:=by rfl) (d:a.put oi.dst v=a':=by (try simp only [Act.put,sA,sB,sC,sD,sE,sF]);rfl) (e:dJ S k listed w:=by assumption)
  (f: ∀c a w,Q (.panic c) (a.put oi.dst v) w->Q (.panic c) a w:=by exact fun _ _ _ b=>b) (g:YieldsIf P ops (fun _=>True) oi v a:=by refine Pg ⟨by rfl,fun n _=> ?_⟩;go_simp)
  (h:Qe ops=true:=by kernel_rfl) (j:Qn md ops listed i=true:=by kernel_rfl) (l:(PL md ops listed).contains i=true:=by kernel_rfl) (m:i≠k:=by decide):bY P md ops Q (dJ S k) (fuel+1) listed a w:=
 JY hi h j l m f g e (d▸b)
theorem tlT {S k} (i:Nat) (v:Value) (ks) {oi fuel listed a a' w}
  (d:bY P md ops Q (dJ S k) fuel (listed.setIfInBounds i true) a' w)
  (hi:ops[i]?=some oi:=by rfl) (e:a.put oi.dst v=a':=by (try simp only [Act.put,sA,sB,sC,sD,sE,sF]);rfl) (b:dJ S k listed w:=by assumption)
  (f: ∀c a w,Q (.panic c) (a.put oi.dst v) w->Q (.panic c) a w:=by exact fun _ _ _ d=>d) (g:YieldsIf P ops S oi v a:=by refine Pg ⟨by rfl,fun q b=> ?_⟩;(try dsimp only at b);(repeat (have:=b.1;replace b:=b.2));go_simp)
  (h:Qe ops=true:=by kernel_rfl) (j:Qn md ops listed i=true:=by kernel_rfl) (l:(PL md ops listed).contains i=true:=by kernel_rfl) (m:behind md ops i ks=true:=by kernel_rfl) (n:ks.all (fun k=> !listed.getD k true)=true:=by kernel_rfl) (o:k∈ks:=by decide) (p:i≠k:=by decide):bY P md ops Q (dJ S k) (fuel+1) listed a w:=
 JX ks hi h j l m n o p f g b (e▸d)
theorem Ka {id a w} (b:P.follows .mixedOrders=true) (c:T (Array.replicate ops.size false) w.drew)
  (d:T (Array.replicate ops.size false) w.drew->bY P .any ops Q T ops.size (Array.replicate ops.size false) a w.drew):(Code.region id ops true).wp P Q a w:=
 wp_region_any b (xP _ _ _ _ (d c))
end
end Go.Dol
namespace Go.Proofs.YtecpbcmpncgokaaGreat
def GB (w:World) (r:Option (List Pt)) (a:Ending) (w':World):Prop:=
 Below w w w'/\match r with
 | none=>a= .returned (.tuple #[.pointer none,.int .i64 2])
 | some d=> ∃b c e f g,Hid (ptp c=d)/\a= .returned (.tuple #[.pointer (some ⟨b,0,none⟩),i0])/\Pck w' w b c e f g 0 eL
def pE (c:LU) (n:Nat) (d g m:Nat) (w:World) (i:Value) (wr:World):Prop:=
 ∃(l:List PtA) (e:OA) (f:Nat) (b:LU) (h:OA) (j:Nat) (a:PtA),i= .int .i64 l.length/\l<=n/\Rdr wr w d g l e f m b h j a/\Hid (bp geS l [] 0 c=some (ptp l,b))/\Hid (a.p.raw=cL [] (ptp l)/\a.p.depth=bO 0 (ptp l))/\a.p.raw.length<=kae/\a.p.depth<=7/\b.length<=c/\Below w w wr
theorem GC (A b c w) (I0:Rd w w.heap.size 1 A b.length (bc b)) (J0:b.length<=c) (m0:c<=maxLen) (S1:b.length<=kab):
  Calls an 140 #[.slice A b c] w (GB w (ba geS b)):=by
 obtain ⟨l,Y⟩:=gH (ba geS b);rw [<-Y];obtain ⟨m,K0⟩:=gX (b.length-32);have T1:=qiJ (b-32);have k1: ∀r:World,(Builtin.max_ #[3,3] 3 #[.int .i64 (b-32),.int .i64 0]).run an r= .ok (.int .i64 m) r:=fun r=>by
  have e:(m:Int)=if 0>((b:Int)-32) then 0 else ((b:Int)-32):=by split<;>omega
  rw [e];exact run_max_int2 _ _ _ _ _ _ _
 obtain ⟨n,G,U1,V1,Z,_,l1⟩:=fV (k:=m) (m:Int) rfl I0 qO J0 m0;have y:=qI K0;clear K0;have m1:=ny w;have j:=bAl w (.cells #[.int .u8 68,.int .u8 80,.int .u8 75,.int .u8 49] 5 (4,5));have L0:Hid (Calls an 208 #[.slice A n c,.slice (some ⟨w,0,none⟩) 4 4] (w.alloc (.cells #[.int .u8 68,.int .u8 80,.int .u8 75,.int .u8 49] 5 (4,5))) (iY (w.alloc (.cells #[.int .u8 68,.int .u8 80,.int .u8 75,.int .u8 49] 5 (4,5))) w A n c mgL)):=AF A n c (some ⟨w,0,none⟩) mgL 4 (w.alloc (.cells #[.int .u8 68,.int .u8 80,.int .u8 75,.int .u8 49] 5 (4,5))) w _ (Z.1.alloc (lR _) _) (nz w) Z.2.1 m0;go_in;go_wp2_with fail;refine L0.mono ?_;intro e O P;unfold iY at P;by_cases z:n.take mgL.length=mgL
 ·rw [if_pos z] at P;obtain ⟨H,M0,N0,O0,rfl,P0,a0⟩:=P;have Q0:36<=b.length:=by
   have B:=congrArg List.length z;rw [b9] at B;have W1:mgL.length=4:=rfl;have X1:=y.out;omega
  have R0:Hid (b.take 4=magicL):=by
   unfold Hid;have B:n.take 4=magicL:=z;rw [G,Om] at B;rw [<-B];congr 1;have:=y.out;omega
  have Y1:(b:Int)-32=m:=by have:=y.out;omega
  obtain ⟨o,b0,C,S0,Z1,a2,n0,_,_,_,n1⟩:=cm (k:=m) (m:Int) rfl I0 qO J0 m0;obtain ⟨o1,o0⟩:=gX (w.alloc (.cells #[.int .u8 68,.int .u8 80,.int .u8 75,.int .u8 49] 5 (4,5)));rw [<-o0] at a0 j;have p0:ii o1 w H M0 N0:=by rw [o0];exact P0
  subst a0;clear o0 P0 m1 z;have q0:=bA (c:=C) (n0.1.below j).drew;have r0:=qI (iu A n c O.drew (((Z.1.below j).more j.size).drew) qO);have s0:=n0.1;by_cases c0:aw n=o
  ·have t0:=qI c0;clear c0;go_upto_region 3 with (fail);refine wp_region_held_drew (S:=fun r=>(convert 36 9 (.slice b0 o C)).run an r= .ok (.string ⟨o.toArray⟩) r) qkR (q0) (fun u0=> ?_);refine tl 0 (.bool true) ?_;refine tl 1 (.bool false) ?_;refine tl 2 (.bool false) ?_;refine tl 3 (.slice A b c) ?_;refine tl 4 (.int .i64 m) ?_;refine tl 5 (.slice A n c) ?_;refine tl 7 (.slice A b c) ?_;refine tl 8 (.int .i64 m) ?_;refine tl 9 (.slice b0 o C) ?_;refine tl 10 (.string ⟨o.toArray⟩) ?_;refine rh 6 fun p1 v0=> ?_;go_simp;refine (r0.out).mono ?_;rintro e d0 ⟨w0,e0,rfl,f⟩;have f:Below O O d0:=⟨f.os,f.tape,f.output,f.size,f.block⟩;have f0:=bA (c:=C) ((s0.below j).belowW f j.size);refine hO v0 f0 (fun u0=> ?_);obtain rfl:w0=o:=by rw [e0];exact t0.out
   refine tl 11 (.bool false) ?_;refine tl 12 (.bool false) ?_;refine dn ?_;have x0:=j.next f;have T0:=x0.size;have q1:=(p0.1.belowW f j.size).more T0;have b2:H.length<=b:=by rw [O0,G,b8,b9];omega
   have I:Hid (l=match ad H with
    | none=>none
    | some (i,p)=>if 4096<i then none else match bp geS i [] 0 p with
     | none=>none
     | some (Q,q)=>if q=[]/\(Q.map (·.id)).Nodup then some Q else none):=by
    unfold Hid;rw [Y];unfold ba;rw [if_neg (by
     rintro (h | h | h)
     ·omega
     ·exact h R0.out
     ·exact h (by rw [<-y,<-G,<-S0];exact t0.out))]
    rw [<-y,<-G];rw [show n.drop 4=H from O0.symm];rfl
   have J:=fu M0 H N0 d0 q1 qO p0.2.1;clear t0 q0 f0 r0 e0 f p0 n0 s0 n1 l1 Z k1 R0 L0;cases R:ad H with
   | none=>
    rw [R] at J I;have T:=qI J;have hr0:Hid (l=none):=I.out;clear J R;go_wp2_with fail;refine T.mono ?_;rintro e g ⟨rfl,g0⟩;go_wp2_with fail;go_ret2;rw [hr0];exact ⟨x0.next g0,rfl⟩
   | some r1=>
   obtain ⟨i,p⟩:=r1;rw [R] at J I;have T:=qI J;have s1:=bL R;clear J R;go_wp2_with fail;refine T.mono ?_;rintro e g ⟨q,K,L,U0,rfl,h0,g0,c2,d2⟩;have j0:=x0.next g0;have t1:=j0.size;have h0:=h0.base T0;by_cases e2:i<=4096
   ·have f2:=dfX ((4096:Int)<(i:Int));have u1:=@run_makeMap an;have y0:Hid (l=match bp geS i [] 0 p with
     | none=>none
     | some (Q,q)=>if q=[]/\(Q.map (·.id)).Nodup then some Q else none):=by unfold Hid;rw [I];(try simp only);rw [if_neg qO]
    clear T I;obtain ⟨a,U⟩:=gX g.heap.size;obtain ⟨M,N⟩:=gX ((((g.alloc (.map #[] 0)).alloc (.cells #[eL,.map (some g.heap.size),.int .u32 0,.int .i32 0,.int .u32 0,eL] 205)).alloc (.cells #[.slice K q L,eL,i0,.pointer (some ⟨g+1,0,none⟩)] 276)));have z0:Below g g M:=by rw [N];exact ((((bR _ _).alloc (lR _) _).alloc (by simp) _).alloc (by simp;omega) _)
    have V0:MapL an 9 M a []:=by rw [N,U];exact ((Pn g).alloc _).alloc _
    have W0:Blk M (a+1) 205 [.slice none 0 0,.map (some a),.int .u32 0,.int .i32 0,.int .u32 0,.slice none 0 0]:=by
     rw [N,U];have h:=(o9 (g.alloc (.map #[] 0)) 205 [.slice none 0 0,.map (some g.heap.size),.int .u32 0,.int .i32 0,.int .u32 0,.slice none 0 0]).alloc (.cells #[.slice K q L,eL,i0,.pointer (some ⟨g+1,0,none⟩)] 276);rw [show (g.alloc (.map #[] 0)).heap.size=g+1 by simp] at h;exact h
    have X0:Blk M (a+1+1) 276 [.slice K q L,.slice none 0 0,.int .i64 0,.pointer (some ⟨a+1,0,none⟩)]:=by
     rw [N,U];have h:=o9 ((g.alloc (.map #[] 0)).alloc (.cells #[eL,.map (some g.heap.size),.int .u32 0,.int .i32 0,.int .u32 0,eL] 205)) 276 [.slice K q L,.slice none 0 0,.int .i64 0,.pointer (some ⟨g+1,0,none⟩)];rw [show ((g.alloc (.map #[] 0)).alloc (.cells #[eL,.map (some g.heap.size),.int .u32 0,.int .i32 0,.int .u32 0,eL] 205)).heap.size=g+1+1 by simp] at h;exact h
    have Y0:Rdr M w (a+1+1) (a+1) [] none 0 a q K L ⟨⟨[],0,0,0,[]⟩,none,0⟩:=
     ⟨X0,qO,⟨W0,qO,qO,j9 _ _ _ _,V0,(fun D v1=>(m9 v1).elim),.inl ⟨rfl,rfl⟩⟩,(s7 h0).belowW z0,B8.nil,lR _,by show 0<=maxLen;unfold maxLen;omega⟩
    have A0:=U0.out;have Z0:pE p i (a+1+1) (a+1) a w i0 M:=⟨[],none,0,q,K,L,_,rfl,zL,Y0,by unfold Hid;rw [A0];rfl,qI ⟨rfl,rfl⟩,by simp,by simp,by rw [A0];exact lR _,j0.next z0⟩;have a1:=qI Z0;have w1:Hid (p.length<=kab):=by unfold Hid;omega
    clear Z0 Y0 X0 W0 V0 z0 A0 U0 h0 g0 j0 s1;go_upto_block 1 with (fail);rw [<-N,<-U];clear N U u1 t1;go_loopw [57] (fun B0 wr=>pE p i (a+1+1) (a+1) a w B0 wr) (fun B0 _=>i-(intOf B0).toNat)
    case atStart=>exact a1.out
    case round=>
     clear a1;obtain ⟨d,x1,y1,u,z1,A1,b1,rfl,g2,s,v,x,B1,c1,h2,hbel⟩:=hrel;have C1:=hbel.size;have i2:=qiJ (d+1);by_cases B:d<i
     ·have D1:(d:Int)<i:=qO;have t:=GD s qO B1 c1 (by have:=w1.out;omega) C1;rw [Gj dD] at t;cases E:cg geS 1099511627776 b1.p.raw b1.p.depth u with
      | none=>
       rw [E] at t;have hr0:Hid (l=none):=by
        unfold Hid;rw [y0,iI v.out B (by rw [<-x.1,<-x.2];exact E)]
       have HP:=qI t;clear t E v x s;exact z138
      | some E1=>
      obtain ⟨C0,F1⟩:=E1;rw [E] at t;obtain ⟨d1,G1,j2,k2⟩:=vw E c1;have D0:Hid (cg geS 1099511627776 (cL [] (ptp d)) (bO 0 (ptp d)) u=some (C0,F1)):=by unfold Hid;rw [<-x.1,<-x.2];exact E
      have H1:=dD _ d1;clear E d1;by_cases V:C0.id∈d.map fun D=>D.p.id
      ·have hr0:Hid (l=none):=by
        unfold Hid;rw [y0];cases k0:bp geS i [] 0 p with
        | none=>rfl
        | some I1=>
        obtain ⟨l2,m2⟩:=I1;have:=Gf v.out B D0.out (by simpa [ptp] using V) k0;simp only;rw [if_neg (fun h=>this h.2)]
       have W:Calls an 210 #[.pointer (some ⟨a+1+1,0,none⟩)] wr (fun e X=>e= .returned (.int .i64 2)/\Below w wr X):=t.mono fun e X E0=>by
        obtain ⟨F0,F⟩:=E0;rw [if_pos V] at F;exact ⟨F,F0⟩
       have HP:=qI W;clear t W v x s V;exact z138
      have W:Calls an 210 #[.pointer (some ⟨a+1+1,0,none⟩)] wr (fun e X=>e= .returned (.int .i64 0)/\pE p i (a+1+1) (a+1) a w (.int .i64 ((d.length+1:Nat):Int)) X):=t.mono fun e X E0=>by
       obtain ⟨F0,F⟩:=E0;rw [if_neg V] at F;obtain ⟨F,D,J1,K1,L1,M1,N1,l0,e1,O1⟩:=F;have f1:(d++[D]).length=d+1:=by simp
       have g1:ptp (d++[D])=ptp d++[C0]:=by unfold ptp;rw [p8,List.map_cons,l0];rfl
       refine ⟨F,d++[D],J1,K1,L1,M1,N1,D,by rw [f1],qO,O1,?_,?_,?_,?_,?_,hbel.trans F0⟩
       ·unfold Hid;rw [f1,g1,e1];exact pt v.out D0.out
       ·unfold Hid;rw [g1,Gd,Ge,l0];exact ⟨rfl,rfl⟩
       ·rw [l0];exact H1
       ·rw [l0];exact G1
       rw [e1];omega
      have HP:=qI W;clear t W v x s V D0;go_wp2_with fail;refine HP.mono ?_;rintro e w5 ⟨rfl,h1⟩;have P1:=qI h1;clear h1;go_wp2_with fail;exact ⟨by rw [show ((d:Int)+1)=((d.length+1:Nat):Int) by omega];exact P1.out,by simp [intOf];omega⟩
     have D1: ¬(d:Int)<i:=qO;have i1:d=i:=qO;have k0:Hid (l=if u=[]/\((ptp d).map (·.id)).Nodup then some (ptp d) else none):=by
      unfold Hid;rw [y0,<-i1,v]
     have n2:wr.cell? ⟨a+1+1,0,none⟩=some (.slice z1 u A1):=by rw [s.blk.cell];rfl
     have o2:wr.cell? ⟨a+1+1,3,none⟩=some (.pointer (some ⟨a+1,0,none⟩)):=by rw [s.blk.cell];rfl
     have G0:((ptp d).map (·.id)).Nodup:=by have:=s.pck.nodup;unfold ptp;rw [w9];exact this
     have Q1:=qI s.pck;clear i1 v x s;by_cases H0:u.length=0
     ·have j1:=nZ H0;have hr0:Hid (l=some (ptp d)):=by unfold Hid;rw [k0,if_pos ⟨j1,G0⟩]
      have R1: ¬0<u.length:=qO;clear j1 H0 G0;go_wp2_with fail;go_ret2;rw [hr0];exact ⟨hbel,a+1,d,x1,y1,a,rfl,rfl,Q1.out⟩
     have hr0:Hid (l=none):=by unfold Hid;rw [k0,if_neg (fun h=>H0 (by rw [h.1];rfl))]
     have p2:=ltI 0 u.length;have R1:0<u.length:=qO;clear G0;exact z169
   have q2:=ltI 4096 i;have hr0:Hid (l=none):=by unfold Hid;rw [I];(try simp only);rw [if_pos qO]
   clear T;go_wp2_with fail;go_ret2;rw [hr0];exact ⟨j0,rfl⟩
  have hr0:Hid (l=none):=by unfold Hid;rw [Y];unfold ba;rw [if_pos (.inr (.inr (by rw [<-y,<-G,<-S0];exact c0)))]
  go_upto_region 3 with (fail);refine wp_region_held_drew (S:=fun r=>(convert 36 9 (.slice b0 o C)).run an r= .ok (.string ⟨o.toArray⟩) r) qkR (q0) (fun u0=> ?_);refine tl 0 (.bool true) ?_;refine tl 1 (.bool false) ?_;refine tl 2 (.bool false) ?_;refine tl 3 (.slice A b c) ?_;refine tl 4 (.int .i64 m) ?_;refine tl 5 (.slice A n c) ?_;refine tl 7 (.slice A b c) ?_;refine tl 8 (.int .i64 m) ?_;refine tl 9 (.slice b0 o C) ?_;refine tl 10 (.string ⟨o.toArray⟩) ?_;refine rh 6 fun p1 v0=> ?_;go_simp;refine (r0.out).mono ?_;rintro e d0 ⟨w0,e0,rfl,f⟩;have f:Below O O d0:=⟨f.os,f.tape,f.output,f.size,f.block⟩;have f0:=bA (c:=C) ((s0.below j).belowW f j.size);refine hO v0 f0 (fun u0=> ?_);have r2: ¬w0=o:=by rw [e0];exact c0
  refine tl 11 (.bool true) ?_;refine tl 12 (.bool true) ?_;refine dn ?_;go_wp2_with fail;go_ret2;rw [hr0];exact ⟨j.next f,rfl⟩
 rw [if_neg z] at P;obtain ⟨rfl,a0⟩:=P;have hr0:Hid (l=none):=by
  unfold Hid;rw [Y];unfold ba;rw [if_pos];by_cases Q0:b.length<36
  ·exact .inl Q0
  refine .inr (.inl fun h=>z ?_);show n.take 4=magicL;rw [G,Om,<-h];congr 1;have:=y.out;omega
 clear z;subst a0;go_wp2_with fail;go_quiet (fail);go_wp2_with fail;go_ret2;rw [hr0];exact ⟨j.drewN' _,rfl⟩
