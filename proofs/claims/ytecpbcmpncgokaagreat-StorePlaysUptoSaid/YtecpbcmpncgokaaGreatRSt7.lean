/- Walks and laws. Conditions: as stated. -/
import Derived.Test.YtecpbcmpncgokaaGreatStoSum
import Derived.Test.YtecpbcmpncgokaaGreatRPk4
set_option maxRecDepth 99999
set_option maxHeartbeats 25600000
set_option linter.all false
open Go.RowKit Go.Dol
namespace Go.Proofs.YtecpbcmpncgokaaGreat
def iL:Except Int (List (LU))->Except Int (LU)
 | .error k=> .error k
 | .ok a=>match bl geS a with
  | none=> .error 1
  | some b=> .ok b
def dS (D:Dk) (P:List Pk) (ids:List BA):Except Int (LU):=if ¬ids.Nodup then .error 1 else iL (bJ geS D P ids)
def bqR (ids:List BA):Except Int (LU)->Except Int (Option (BA×LU))
 | .error k=> .error k
 | .ok b=>if ids=[] then .ok none else .ok (some (ap b,b))
theorem qi (D P ids):bF geS D P ids=bqR ids (dS D P ids):=by
 unfold bF dS iL bqR;split
 ·rfl
 cases bJ geS D P ids with
 | error c=>rfl
 | ok a=>cases b:bl geS a<;>simp only [b]
theorem qj {D P ids b} (a:dS D P ids= .ok b):32<=b.length/\b.length<=140737488351232:=by
 unfold dS iL at a;split at a
 ·cases a
 split at a
 ·cases a
 split at a
 ·cases a
 rename_i d c;injection a with a;subst a;exact ⟨iM c,qk c⟩
theorem xr {D P ids k} (a:dS D P ids= .error k):k≠0:=by
 unfold dS iL at a;split at a
 ·injection a with a;omega
 split at a
 ·rename_i d e;injection a with a;subst a;have f: ∀(b:List BA),bJ geS D P b= .error d->d≠0:=by
   intro b;induction b with
   | nil=>intro a;cases a
   | cons i j g=>
   intro a;rw [bJ] at a;split at a
   ·rename_i h c;injection a with a;subst a;exact fO c
   split at a
   ·rename_i h c;injection a with a;subst a;exact g c
   cases a
  exact f _ e
 split at a
 ·injection a with a;omega
 cases a
def Jm (ids:List BA) (n:Nat) (w:World) (i:Value) (wr:World):Prop:=
 ∃a:Nat,i= .int .i64 a/\a<=n/\Hid ((ids.take a).Nodup)/\Below w w wr
def Jn (ids:List BA) (k:Nat) (x:BA) (w:World) (i:Value) (wr:World):Prop:=
 ∃a:Nat,i= .int .i64 a/\a<=k/\Hid (x∉ids.take a)/\Below w w wr
section
variable {w w':World} {gs gr:Nat} {D:Dk} {P:List Pk}
theorem xt (h:RSto w gs gr D) (f0:OkG kac kab D) (U:ai geS D.l=some P) (A n ids c) (t:ids.length=n) (V:Rd w w 1 A n (sc ids)) (F0:n<=kad) (W: ∀x∈ids,x.size<=70368744177600):
  Calls Tryz.prog 147 #[.pointer (some gs),.slice A n c] w (RetGet w (dS D P ids)):=by
 have g0:=hJ U;obtain ⟨u,F⟩:=gH (dS D P ids);rw [<-F];have h0:=qI W;have HL:=qI t;clear W t;go_in;go_wp2_with fail;go_loopw [6] (fun i wr=>Jm ids n w i wr) (fun i _=>n-(intOf i).toNat)
 case atStart=>exact ⟨0,rfl,zL,On,bR _ _⟩
 case round=>
  obtain ⟨a,rfl,G0,hup,b⟩:=hrel;have G:=b.size;have i0:=qiJ (a+1);by_cases H:a<n
  ·have I:=dtX ((a:Int)<n);have j0:=ltI a n;have k0:=zeI a;have l0:a<ids:=by rw [HL];exact H
   obtain ⟨x,d⟩: ∃x,ids[a]?=some x:=⟨ids[a],gE l0⟩;have J:=qI d;obtain ⟨H0,X⟩:=gX wr;rw [<-X] at b ⊢;clear X d G;go_wp2_with fail;go_loopw [7] (fun i wr=>Jn ids a x w i wr) (fun i _=>a-(intOf i).toNat)
   case atStart=>exact ⟨0,rfl,zL,by simp [Hid],b⟩
   case round=>
    clear b;obtain ⟨j,rfl,m0,v,b⟩:=hrel;have I0:=qiJ (j+1);by_cases n0:j<a
    ·have J0:=ltI j n;have K0:=zeI j;obtain ⟨y,hy⟩: ∃y,ids[j]?=some y:=⟨ids[j]'qO,gE qO⟩;obtain ⟨o0,p0,rfl,q0,m⟩:=(V.below b).at_ qO;have L0:=m _ _ (by rw [sc,m7,J];rfl);have M0:=m _ _ (by rw [sc,m7,hy];rfl);have Y:=qI hy;clear m hy;by_cases e:x=y
     ·have r0:Hid (u= .error 1):=by
       unfold Hid;rw [F];refine if_pos fun z=> ?_;have K:=c9.1 J.out;have f:=c9.1 Y.out;have:=(List.nodup_iff_pairwise_ne.1 z);exact (E8.1 this j a f.1 K.1 n0) (by rw [K.2,f.2,e])
      have s0:=eM e;clear e;go_wp2_with fail;go_quiet (fail);go_wp2_with fail;go_ret2;rw [r0];exact ⟨b.trans ((bR _ _).drewN' _),rfl⟩
     have t0:Hid (x∉ids.take (j+1)):=by
      unfold Hid;rw [t7,Y];intro u0;rcases l7.1 u0 with L | L
      ·exact v.out L
      exact e (by simpa using L)
     have s0:=eN e;clear e v;go_wp2_with fail;go_quiet (fail);go_wp2_with fail;exact ⟨⟨j+1,by go_num,qO,t0,b.trans ((bR _ _).drewN' _)⟩,by simp [intOf];omega⟩
    have N0:=dfX ((j:Int)<a);obtain rfl:j=a:=qO;have v0:Hid ((ids.take (j+1)).Nodup):=by
     unfold Hid;rw [t7,J];refine E9.2 ⟨hup.out,w8 ..,fun K ha f w0 o=> ?_⟩;obtain rfl:=i7.1 w0;exact v.out (o▸ha)
    clear v hup;go_wp2_with fail;exact ⟨⟨j+1,by go_num,qO,v0,b⟩,by simp [intOf];omega⟩
  have I:=dfX ((a:Int)<n);obtain rfl:a=n:=qO;have z:ids.Nodup:=by
   exact z213
  obtain ⟨s,B⟩:=gX (bJ geS D P ids);have Z:Hid (u=iL s):=by
   unfold Hid;rw [F,B];exact if_neg (not_not_intro z)
  have x0:=qI B;have y0: ∀(l:LU) {M:List (LU)},s= .ok M->l∈M->l.length<=140737488351232:=fun l M o t=>by
   have:=ql g0 (B▸o) l t;omega
  clear B z hup I;go_wp2_with fail;go_loopw [8,9] (fun z0 i A0=>xu geS D P s ids a w z0 i A0) (fun _ i _=>a-(intOf i).toNat)
  case atStart=>exact ⟨0,[],none,0,rfl,zL,rfl,j9 _ _ _ _,fun x d=>(m9 d).elim,⟨rfl,by rw [x0,y8];cases bJ geS D P ids<;>rfl⟩,b⟩
  case round=>
   clear b;obtain ⟨j,ys,a0,b0,rfl,m0,rfl,c0,hfar,g,b⟩:=hrel;have G:=b.size;have i0:=qiJ (j+1);have B0:=h.below b;by_cases H:j<a
   ·have j0:=ltI j a;have k0:=zeI j;obtain ⟨x,d⟩: ∃x,ids[j]?=some x:=⟨ids[j]'(by rw [HL];exact H),gE _⟩;obtain ⟨o0,p0,rfl,q0,m⟩:=(V.below b).at_ qO;have O0:=m j (.string x) (by rw [sc,m7,d];rfl);have C0:=h0.out x (g8 d);have d0:=hU d;have C:=qI (mD B0 f0 U x C0);obtain ⟨D0,q⟩:=gX (aP geS D P x);rw [<-q] at C;have r:=g.2;rw [d0] at r;clear m d0 d;go_wp2_with fail;refine C.mono ?_;intro o k e;cases D0 with
    | error N=>
     obtain ⟨hb3,rfl⟩:=e;have hq3:Hid (u= .error N):=by
      unfold Hid;rw [Z,r,xv q.symm];rfl
     have P0:=bne_iff_ne.2 (fO q.symm);clear q r g C;go_wp2_with fail;go_ret2;rw [hq3];exact ⟨b.next hb3,rfl⟩
    | ok f=>
    obtain ⟨hb3,l3,A3,c3,E,rfl,ho3,i1,i2⟩:=e;rw [xw _ q.symm,<-E] at r;have hq3:Hid ((ys++[⟨l3,A3,c3⟩]:List RowB).length=j+1/\s=gw ((ys++[(⟨l3,A3,c3⟩:RowB)]).map (·.l)) (bJ geS D P (ids.drop (j+1)))):=⟨by rw [b7,g.1];rfl,by rw [p8];exact r⟩;have e0:=az c0 hb3;have hbel3:=b.next hb3;have hs3:=hbel3.size;have hfar3:qm k (ys++[⟨l3,A3,c3⟩]):=fun y hy=>by
     exact z84
    have hb4:=bAl k (.cells #[.slice A3 l3.length c3] 36);have hO:Other (k.alloc (.cells #[.slice A3 l3.length c3] 36)) 0 (Value.slice a0 j b0).ownBlock:=K9 (e0.alloc _) (by decide) (zL);clear q r g C E ho3;go_wp2_with (at_builtin;refine eF rfl (.tmp 50) (.tmp 52) 240 36 _ 24 rfl Tryz.underlying240 xx rfl w.heap.size _ j (rc ys) rfl (e0.alloc _) (k+1) _ 1 1 [.slice A3 l3.length c3] rfl (NX k _ _) (by intro Q0 E0;obtain rfl:=i7.1 E0;rfl) (by unfold maxLen;omega) (by omega) (by simp;omega) ?_;intro A5 c5 R0 hown5 hb5 hg5 S0 T0);exact z248
   have I:=dfX ((j:Int)<a);obtain rfl:j=a:=qO;have O:s= .ok (ys.map (·.l)):=by
    rw [g.2,List.drop_of_length_le (by rw [HL];exact lR _),xy];simp [gw]
   have Q:Hid (u=match bl geS (ys.map (·.l)) with | none=> .error 1 | some f=> .ok f):=by
    unfold Hid;rw [Z,O];rfl
   have R:=g.1;have S:=qI (II a0 ys b0 wr (by rw [R];exact d8 c0) (fun y hy=>⟨(hfar y hy).1.1,(hfar y hy).2⟩) (fun y hy=>y0 y.l O (e9.2 ⟨y,hy,rfl⟩)));rw [R] at S;clear g O R;go_wp2_with fail;refine S.mono ?_;obtain ⟨N,T⟩:=gX (bl geS (ys.map (·.l)));rw [<-T];rw [<-T] at Q;clear S T;cases N with
   | none=>
    rintro o k ⟨hb3,rfl⟩;go_wp2_with fail;go_ret2;rw [Q];exact ⟨b.next hb3,rfl⟩
   | some f=>
   rintro o k ⟨hb3,l3,A3,c3,E,rfl,ho3,i1,i2⟩;go_wp2_with fail;go_ret2;rw [Q];exact ⟨b.next hb3,l3,A3,c3,E,rfl,ho3.base G,i1,i2⟩
end
section
variable {w w':World} {gs gr:Nat} {D:Dk} {P:List Pk}
theorem Jo (h:RSto w gs gr D) (F:OkG kac kab D) (R:ai geS D.l=some P) (A n ids c) (t:ids.length=n) (S:Rd w w 1 A n (sc ids)) (T:n<=kad) (U: ∀x∈ids,x.size<=70368744177600):
  Calls Tryz.prog 77 #[.pointer (some gs),.slice A n c] w fun a w'=>a= .returned (.tuple #[.int .i64 (gy geS D P ids).1,.int .i64 (gy geS D P ids).2])/\Below w w w':=by
 have V:OkW D:=F.mono (lR _) (by decide);have q0:=V.len;obtain ⟨m,u⟩:=gH (gy geS D P ids);rw [<-u];have o:=qI (xt h F R A n ids c t S T U);obtain ⟨q,r⟩:=gX (dS D P ids);have s:Hid (m=mJ D (bqR ids q)):=by
  unfold Hid;rw [u,xz,qi,r]
 have G:=qI r;rw [<-r] at o;have H:=qI t;clear r t u;go_in;go_wp2_with fail;refine o.mono ?_;intro a e g;cases q with
 | error W=>
  obtain ⟨hb1,rfl⟩:=g;have hr3:Hid (m=(0,W)):=s.out;have r0:=bne_iff_ne.2 (xr G.symm);clear s o;exact z96
 | ok X=>
 obtain ⟨hb1,l,I,J,Y,rfl,Z,a0,b0⟩:=g;obtain ⟨K,s0⟩:=qj G.symm;obtain rfl:l=X:=Y.out;have g:=h.below hb1;have c0:=iN K;obtain ⟨f,v⟩: ∃f:Bool,f=(decide (n=0)||(aa D.l (ap l)).isSome):=⟨_,rfl⟩;have L:=qI v;obtain ⟨i,j⟩:=gX (ap l);have M: ∀d,Below e e d->Calls Tryz.prog 72 #[.slice I l J] d fun a w'=>a= .returned i/\Below d.heap.size d w':=fun d N=>by rw [j];exact qc I l J d (((d8 Z).below N).more N.size) a0 b0 K qO
 have d0:=qI j;rw [<-j] at c0;have hr3:Hid (m=if f=true then (0,0) else (16+((i.size:Int)+1)+l,0)):=by
  unfold Hid;rw [s,v,j];unfold mJ bqR;by_cases b:ids=[]
  ·have:n=0:=by have:=H.out;rw [b] at this;exact this.symm
   simp [b,this]
  have:n≠0:=fun a=>b (nZ (by rw [H];exact a));simp [b,this]
 have e0:=g.cell;clear s o v j;go_upto_region 4 with (fail);go_cut [28] (fun f0 g0=>f0= .bool f/\Below e e g0)
 case first=>
  by_cases b:n=0
  ·have h0:((n:Int)==0)=true:=by rw [b];rfl
   have y:Hid (f=true):=by unfold Hid;rw [L,dT b];rfl
   clear b;go_quiet (fail);go_wp2_with fail;go_meet;exact ⟨by rw [y],(bR _ _).drewN' _⟩
  have h0:((n:Int)==0)=false:=beq_eq_false_iff_ne.2 qO;have y:Hid (f=(aa D.l i).isSome):=by unfold Hid;rw [L,qF b,d0];rfl
  have z:Below e e e.drew:=(bR _ _).drew;clear b;go_region_held3 (fun d=>d.cell? gs=some (.pointer (some gr))) (first | exact e0 | exact i0 | exact j0 | go_keep)
   ((first
    | (go_at_call 72;(with_reducible refine (M _ z).mono ?_);rintro a O ⟨rfl,k⟩;have B:=(g.below z).below k;have i0:=B.cell)
    | (go_at_call 125;(with_reducible refine (gi B.dk i qO).mono ?_);rintro a C ⟨k0,rfl,l0⟩;have E:Below O O C:=(by rw [l0];exact (bR _ _).drewN' k0);have j0:=(B.below E).cell)))
  go_wp2_with fail;go_meet;exact ⟨by rw [y],(z.next k).trans ((bR _ _).drewN' _)⟩
 case rest=>
 obtain ⟨rfl,k⟩:=hcut;have Q:=hb1.next k;cases f with
 | true=>
  go_wp2_with fail;go_ret2;rw [hr3];exact ⟨rfl,Q⟩
 | false=>
 have m0:=qI (M _ k);have n0:Hid (m=(83+(l:Int),0)):=by
  unfold Hid;rw [hr3,if_neg (by decide)];congr 1;omega
 go_wp2_with fail;refine m0.mono ?_;rintro a C ⟨rfl,E⟩;have o0:=qI (wV i (l.length:Int) C qO qO qO);go_wp2_with fail;refine o0.mono ?_;rintro a t0 ⟨rfl,p0⟩;obtain rfl:=p0.symm;go_wp2_with fail;go_ret2;rw [n0];exact ⟨rfl,Q.next E⟩
end
