/- Walks and laws. Conditions: as stated. -/
import Derived.Test.YtecpbcmpncgokaaGreatStoBoth
import Derived.Test.YtecpbcmpncgokaaGreatRSt8
set_option maxRecDepth 99999
set_option maxHeartbeats 25600000
set_option linter.all false
open Go.Value renaming cells->Qc
open Go.World renaming drew->pp
open Go.DataW renaming trod->PS
open Go.Proofs.Tryz renaming prog->an
open Go.RowKit Go.Dol
namespace Go.Proofs.YtecpbcmpncgokaaGreat
open Go.ChangeShapes Go.WideShapes Go.RowKit Go.Deep Go.Dol
section
variable {H:Type} {enc:TypeId×Value->H} {P:Program} {w:World} {base:Nat} {spare:Nat->Bool} {held:Bool}
end
section
variable {H:Type} {enc:TypeId×Value->H} {W:World}
theorem Cy (l:List FilA): ∀D:Nat->DataW H,(∀i x,l[i]?=some x->dB x.f<=16*(Rows.uptoBulk (D i):Nat))->ar (l.map FilA.f)<=16*(Rows.uptoBulkAll ((List.range l).map D):Nat):=by
 induction l with
 | nil=>intro D _;simp [ar,Rows.uptoBulkAll]
 | cons x g b=>
 intro D a;have h:=a 0 x rfl;have j:=b (fun i=>D (i+1)) fun i c d=>a (i+1) c (by simpa using d);rw [List.length_cons,List.range_succ_eq_map];simp only [List.map_cons,w9,ar,Rows.uptoBulkAll];have e:(D∘Nat.succ)=fun i=>D (i+1):=rfl;rw [e];omega
def lc (x:FilA) (d:DataW H):Prop:=∃ a,d= .agg [.lit (.string x.n.data.toList),a]/\(a= .nil/\x.b.length=0\/ ∃c e,a= .slice c e/\c.length=x.b.length)
theorem sQ {v:Value} {d:DataW H} {ps:List MemPlace} (A:OA) (e cap:Nat) (P:v= .slice A e cap) (Q:DataW.Trod enc an W 0 (fun _=>true) true 22 v d ps):
  ∃l:List FilA,l.length=e/\Rd W W 2 A e (fc l)/\Fls8 W W l/\ar (l.map FilA.f)<=16*(Rows.uptoBulk d:Nat)/\(d= .nil/\e=0\/ ∃j p,d= .slice j p/\j.length=e)/\(∀x∈l,∃j p C,d= .slice j p/\C∈j/\lc x C):=by
 subst P;obtain ⟨x0,R⟩:=Q;rcases sR N7 Tryz.underlying110 qkR qkR R with ⟨g,a⟩ | ⟨q,y0,z0,S,D,A0,g,_,B0,C0,T,a,U⟩
 ·simp [Qc] at g;obtain ⟨rfl,rfl,rfl⟩:=g;exact ⟨[],rfl,L8,fun x a=>(m9 a).elim,by show (0:Int)<=_;omega,.inl ⟨(NK a).1,rfl⟩,fun x a=>(m9 a).elim⟩
 simp [Qc] at g;obtain ⟨rfl,rfl,rfl⟩:=g;obtain ⟨l,s,r⟩:=ld (p:=fun i (x:FilA)=>W.cell? (q.add (i*2+0))=some (.string x.n)/\W.cell? (q.add (i*2+1))=some (.slice x.A x.b x.c)/\(Far W W x.A x.b/\x.b.length<=x.c/\x.c<=maxLen)/\dB x.f<=16*(Rows.uptoBulk (D i):Nat)/\lc x (D i)) e (fun i k=>by
  obtain ⟨E,V,F,_,X,G⟩:=U i (by simp at T;omega);obtain ⟨Y,t,Z,a0,b0⟩:=G 0 _ rfl;obtain ⟨c0,m,d0,e0,I⟩:=G 1 _ rfl;obtain ⟨n,f0,g0,_⟩:=M9 l9 b0;obtain rfl:Y= .string n:=by simpa using f0
  have J:E=[t,m]:=by
   match E,X with
   | [h0,i0],_=>
    have j0:h0=t:=by simpa using a0
    have k0:i0=m:=by simpa using e0
    rw [j0,k0]
  have K:t.1= .lit (.string n.data.toList):=by rw [g0]
  have l0:n.data.toList=n.size:=by rw [v7];rfl
  have m0:Rows.uptoBulk (D i)=n.size+1+(Rows.uptoBulk m.1+0)+1:=by
   rw [F,J];simp only [List.map_cons,List.map_nil,Rows.uptoBulk,Rows.uptoBulkAll,K,l0]
  have L: ∀(A:OA) (M u:Nat),c0= .slice A M u-> ∃x:FilA,W.cell? (q.add (i*2+0))=some (.string x.n)/\W.cell? (q.add (i*2+1))=some (.slice x.A x.b.length x.c)/\(Far W W x.A x.b/\x.b.length<=x.c/\x.c<=maxLen)/\dB x.f<=16*(Rows.uptoBulk (D i):Nat)/\lc x (D i):=by
   intro A M u h;subst h;obtain ⟨w,n0,o0,p0,q0,o⟩:=sS (d:=m.1) (ps:=m.2) ⟨V,I⟩;subst n0;refine ⟨⟨n,w,A,u⟩,Z,d0,⟨Far.of_rd o0 (lR _),p0,q0⟩,?_,⟨m.1,by rw [F,J,List.map_cons,List.map_cons,List.map_nil,K],o⟩⟩;have D0:w+1<=Rows.uptoBulk m.1:=by
    rcases o with ⟨y,N⟩ | ⟨j,p,y,N⟩
    ·rw [y,N];simp [Rows.uptoBulk]
    have:=lf j;rw [y];simp only [Rows.uptoBulk];omega
   show 16+(n.size:Int)+w<=_;rw [m0];omega
  rcases open_ints q7 z8 qkR I with ⟨g,_⟩ | ⟨x,r0,z,E0,g,_⟩
  ·exact L none 0 0 (by simpa using g)
  ·exact L (some x) r0 z (by simpa using g))
 have o:d= .slice ((List.range e).map D) ((List.range (S-e)).map fun b=>D (e+b)):=(NK a).1;refine ⟨l,s,?_,fun x a=> ?_,?_,.inr ⟨_,_,o,by simp⟩,fun x a=>by
  obtain ⟨i,k⟩:=Nv a;have F0:=(c9.1 k).1;exact ⟨_,_,D i,o,e9.2 ⟨i,Nq.2 qO,rfl⟩,(r i x k).2.2.2.2⟩⟩
 ·refine lg qO (by rw [ir,s]) fun b G0 h=> ?_;have s0:=(c9.1 h).1;rw [ir] at s0;have O:b/2<l:=qO;obtain ⟨t0,u0⟩:=di (gE O);obtain ⟨v0,z,_⟩:=r (b/2) _ (gE O);have B:b%2=0\/b%2=1:=qO;rcases B with B | B
  ·rw [show b=b/2*2 by omega] at h ⊢;rw [t0] at h;rw [<-h];exact v0
  rw [show b=b/2*2+1 by omega] at h ⊢;rw [u0] at h;rw [<-h];exact z
 ·obtain ⟨i,k⟩:=Nv a;exact (r i x k).2.2.1
 have w0:=Cy l D fun i x k=>(r i x k).2.2.2.1;rw [s] at w0;rw [o];simp only [Rows.uptoBulk];omega
end
theorem sT {H:Type} {e:List (DataW H)} {d:DataW H} {l:List FilA} (g:Rows.uptoSmall H e=true) (h:d∈e) (i: ∀x∈l,∃a f c,d= .slice a f/\c∈a/\lc x c): ∀x∈l,x.n.size<=140737488351232/\x.b.length<=140737488351232:=by
 intro x j;obtain ⟨a,f,c,rfl,k,m,rfl,o⟩:=i x j;have t:=oo g;have p:=jp h;have q:=jp k;have u:x.n.data.toList=x.n.size:=by rw [v7];rfl
 have b:x.b<=Rows.uptoBulk m:=by
  rcases o with ⟨rfl,r⟩ | ⟨s,v,rfl,r⟩
  ·omega
  have:=lf s;simp only [Rows.uptoBulk];omega
 simp only [Rows.uptoBulk,Rows.uptoBulkAll] at p q;omega
end Go.Proofs.YtecpbcmpncgokaaGreat
namespace Go.Proofs.YtecpbcmpncgokaaGreat
structure Two (w:World) (B gs g m base gp gr g2:Nat) (D:Dk) (xs:List PkA):Prop where
 sto:Sto w gs g m base gp D xs
 rst:RSto w g2 gr D
 pk:ai geS D.l=some (xs.map PkA.pk)
 lo:B<=gs/\B<=g/\B<=m/\B<=base/\B<=gp/\B<=gr/\B<=g2
 lt:gr<base
def pq (w:World) (B:Nat) (x:Op10):Prop:=Rd w B 1 x.o.Ad x.o.d (bc x.o.d)/\Rd w B 3 x.o.Ae x.o.en (ec x.o.en)/\Rd w B 1 x.o.Ap x.o.pa (pc x.o.pa)/\Rd w B 1 x.A x.l (fK x.l)/\
 Hid ((∀a∈x.o.en,a.name.size<=maxLen)/\ ∀b∈x.o.pa,b.size<=maxLen)/\x.o.en.length<=kab/\x.o.pa.length<=kab/\x.l.length<=kab/\x.id.size<=kad
def yp (B gs g m b c d:Nat) (w:World) (e:Ending) (w':World):Prop:=
 e= .returned true/\Below B w w'/\ ∃(a:Dk) (f h:Nat) (i:List PkA),Two w' B gs g m f h b c a i/\OkG (d+1) 140737488351232 a
def KK:Except Int (LU)->LU
 | .error _=>[]
 | .ok p=>p
def mQ:Except Int (LU)->Int
 | .error k=>k
 | .ok _=>0
theorem RetGet.any {w w' r e} (b:RetGet w r e w'): ∃(l:LU) (A:OA) (c:Nat),Hid (l=KK r)/\e= .returned (.tuple #[.slice A l.length c,.int .i64 (mQ r)])/\Rd w' w'.heap.size 1 A l.length (bc l)/\Below w.heap.size w w':=by
 cases r with
 | error h=>
  obtain ⟨a,rfl⟩:=b;exact ⟨[],none,0,rfl,rfl,L8,a⟩
 | ok i=>
 obtain ⟨a,d,A,c,f,rfl,g,_,_⟩:=b;exact ⟨d,A,c,f,rfl,d8 g,a⟩
def yq:Except Int Go.Dol.Obj->Go.Dol.Obj
 | .error _=>⟨0,[],[],⟨#[]⟩,[],⟨#[]⟩,⟨#[]⟩,⟨#[]⟩,0,⟨#[]⟩⟩
 | .ok a=>a
def yr:Except Int Go.Dol.Obj->Int
 | .error k=>k
 | .ok _=>0
theorem RetObjS.any {w w' r e} (t:RetObjS w r e w'): ∃(k:Int) (c:OA) (d:LU) (o:Nat) (f:OA) (a:List Ent) (p:Nat) (g:BA) (h:OA) (b:List BA) (q:Nat) (i j l:BA) (m:Int) (n:BA),
  Hid (yq r=⟨k,d,a,g,b,i,j,l,m,n⟩)/\e= .returned (.tuple #[.agg #[k,.slice c d.length o,.slice f a.length p,g,.slice h b.length q,i,j,l,m,n],.int .i64 (yr r)])/\
  RdN w' w 1 c d.length (bc d)/\RdN w' w 3 f a.length (ec a)/\RdN w' w 1 h b.length (pc b)/\Below w w w'/\a.length<=kaa/\b.length<=kaa:=by
 cases r with
 | error k=>
  obtain ⟨rfl,s⟩:=t;exact ⟨0,none,[],0,none,[],0,⟨#[]⟩,none,[],0,⟨#[]⟩,⟨#[]⟩,⟨#[]⟩,0,⟨#[]⟩,rfl,rfl,D9,D9,D9,s,by decide,by decide⟩
 | ok B=>
 obtain ⟨k,c,d,o,f,a,p,g,h,b,q,i,j,l,m,n,u,rfl,v,x,y,s,z,A,_⟩:=t;exact ⟨k,c,d,o,f,a,p,g,h,b,q,i,j,l,m,n,u,rfl,v,x,y,s,z,A⟩
theorem mN {P w ops o a K Q} {c:Prop} (d:o.guard=none) (ty x y) (f:o.op= .store ty x y) (g vs) (i:a.eval x= .pointer (some ⟨g,0,none⟩)) (j:a.eval y= .agg vs.toArray)
  (T old) (b:Blk w g T old) (hi:(P.info? ty).map (·.size)=some vs.length) (l:old.length=vs.length) (m: ∀v∈vs,v.oneCell'=true)
  (h: ∀w',Blk w' g T vs->w.grownBy w' (some g)->K (a.put o.dst undef) w'):if Region.wanted o (yielded ops a.tmps)=true then Oper.wp P o a w K Q else c:=by
 have n:Region.wanted o (yielded ops a.tmps)=true:=by simp [Region.wanted,d]
 rw [if_pos n];refine wp_store_row ty x y f g vs.toArray i j T old.toArray b (by simpa using hi) (by simpa using l) ?_ (h _ ?_ ?_)
 ·rw [N9];intro v q;exact m v (by simpa using q)
 ·exact setRow_heap w g old.toArray _ T _ b
 exact z207
def yt (r:Except Int Go.Dol.Obj) (p:Value) (w w':World):Prop:=
 ∃(c:Nat) (e:Int) (f:OA) (d:LU) (o:Nat) (g:OA) (a:List Ent) (q:Nat) (h:BA) (i:OA) (b:List BA) (s:Nat) (j k l:BA) (m:Int) (n:BA),
  p= .pointer (some c)/\Hid (yq r=⟨e,d,a,h,b,j,k,l,m,n⟩)/\Blk w' c 40 [e,.slice f d o,.slice g a q,h,.slice i b s,j,k,l,m,n]/\
  Rd w' w' 1 f d (bc d)/\Rd w' w' 3 g a (ec a)/\Rd w' w' 1 i b (pc b)/\Below w w w'/\a.length<=kaa/\b.length<=kaa
theorem KL {D P id}:(mQ (aP geS D P id)==0)=qG (aP geS D P id):=by
 cases a:aP geS D P id with
 | error b=>exact beq_eq_false_iff_ne.2 (fO a)
 | ok c=>rfl
theorem KM {L D P} (d:OkG L 140737488351232 D) (o:L+1<=kac) (e:ai geS D.l=some P) (ids):OkG (L+1) 140737488351232 (cP geS D P (bF geS D P ids)).1.2/\ai geS (cP geS D P (bF geS D P ids)).1.2.l=some (cP geS D P (bF geS D P ids)).2:=by
 have b:OkG (L+1) 140737488351232 D:=d.mono qO (lR _);have h:OkG kac kab D:=d.mono qO (lR _);have p:=d.len;rw [qi];cases i:dS D P ids with
 | error q=>exact ⟨b,e⟩
 | ok r=>
 obtain ⟨s,c⟩:=qj i;have f:=pG e;have g: ∀(a:Dk) (n:BA),OkG (L+1) 140737488351232 a->cv a.l->OkG (L+1) 140737488351232 (bm geS a n).2/\ai geS (bm geS a n).2.l=some (gA geS (bm geS a n).2 P):=fun a n j k=>⟨GO j n,GP (GL (j.mono qO (by decide)) n k)⟩;unfold bqR;simp only;split
 ·exact g D _ b f
 unfold cP;simp only;split
 ·exact g D _ b f
 split
 ·rename_i m;exact ⟨b.save _ _ qO c,(GM h qO c m).trans e⟩
 exact g _ _ (b.save _ _ qO c) (vX h qO c (xA i) f)
theorem yu {D P} (f:ai geS D.l=some P): ∀y∈idsS D P,y.size=32:=by
 intro y b;unfold idsS at b;rw [iK] at b;obtain ⟨m,c,rfl⟩:=e9.1 b;have c:=(gv _ _).1 c;obtain ⟨g,a,rfl⟩:=e9.1 c;rcases l7.1 a with a | a
 ·have:=qo a;exact this
 obtain ⟨n,d,rfl⟩:=e9.1 a;obtain ⟨h,i,d⟩:=I7.1 ((gv _ _).1 d);obtain ⟨e,j,rfl⟩:=e9.1 d;obtain ⟨g,_,_,k,_⟩:=(eV f).2 h i;have:=((mI k).2.1 e j).2;rw [this];show ((idS (aw e.raw)).data.toList.toArray).size=32;rw [fM,List.size_toArray,ew]
theorem yv: ∀l:List (LU),(bZ l).length<=l.length
 | []=>lR _
 | [_]=>lR _
 | a::b::r=>by
  have c:=yv (b::r);unfold bZ;split
  ·exact Nat.le_succ_of_le c
  rw [List.length_cons,List.length_cons];omega
theorem yw (l):(fp l).length<=l.length:=by
 refine lT (yv _) ?_;unfold df;rw [OY];exact lR _
theorem KN {P} (a:cQ P):(P.flatMap fun p=>p.2.map (·.id)).length<=4096*P:=by
 induction P with
 | nil=>exact lR _
 | cons p e b=>
 have f:=(a p (j8 ..)).1;have g:=b fun c d=>a c (k8 _ d);rw [List.flatMap_cons,b7,g7,List.length_cons];omega
theorem yx {D P} (a:ai geS D.l=some P) (c:D.l.length<=2000000):(cX P).length<=4398046511104/\(idsS D P).length<=kab:=by
 have d:=KN (hJ a);have e:=(eV a).1;have f:(cX P).length<=(P.flatMap fun b=>b.2.map (·.id)).length:=by
  unfold cX;rw [g7];exact yw _
 have g:(idsS D P).length<=(bE D).length+(cX P).length:=by
  unfold idsS;rw [iK,g7];refine lT (yw _) ?_;unfold lsS;rw [g7,b7];exact lR _
 have h:=kf D;omega
section
variable {w:World} {B gs g m base gp gr g2 L:Nat} {D:Dk} {xs:List PkA}
theorem yy (h:Two w B gs g m base gp gr g2 D xs) (hK:OkG L 140737488351232 D) (G4:L<=2000000) (hB:B<=w) (x) (T2:pq w B x):
  Calls an 19 #[.pointer (some gs),.pointer (some g2),.agg x.cells.toArray] w (yp B gs g m gr g2 L w):=by
 obtain ⟨C0,D0,E0,F0,G0,U2,V2,L1,M1⟩:=T2;obtain ⟨Q,q,d,⟨r,C,j,G,E,n,H,s,F,o,I,t,u,v,y,z⟩,i,R,O,U⟩:=x;simp only at C0 D0 E0 F0 G0 U2 V2 L1 M1;change Calls an 19 #[.pointer (some gs),.pointer (some g2),.agg #[Q,q,d,r,.slice C j G,.slice E n H,s,.slice F o I,t,u,v,y,z,i,.slice R O U]] w _;have W:OkG kac kab D:=hK.mono qO (lR _);have f:OkW D:=W.mono (lR _) (by decide);have W2:D.l.length<=2000000:=by have:=hK.len;omega
 have m0:=hJ h.pk;have H4:xs.length<=2000000:=by
  have:=(eV h.pk).1;rw [g7] at this;omega
 obtain ⟨I4,X2⟩:=yx h.pk W2;have N1:=qI (yu h.pk);have hPK:=qI h.pk;obtain ⟨d1,t0⟩:=gX (w.alloc (.cells #[Q,q,d,r,.slice C j G,.slice E n H,s,.slice F o I,t,u,v,y,z,i,.slice R O U] 43));have H0:Blk d1 w 43 [Q,q,d,r,.slice C j G,.slice E n H,s,.slice F o I,t,u,v,y,z,i,.slice R O U]:=by rw [t0];exact o9 w _ _
 have I0:Below w w d1:=by rw [t0];exact (bR _ _).alloc (lR _) _
 have J4:d1.heap.size=w+1:=by rw [t0];simp
 have O1:=h.sto.below I0;have e1:=h.rst.below I0;have P1:=qI (xq e1 W h.pk (by rw [g7];omega) qO);go_in;go_upto_region 1 with (fail);rw [<-t0];obtain ⟨b,u0⟩:=gH w.heap.size;rw [<-u0] at H0 ⊢;clear t0;go_wp2_with fail;refine P1.mono ?_;rintro e w1 ⟨ks,Z,e0,Q1,rfl,J0,v0⟩;have h1s:=O1.below v0;have h1r:=e1.below v0;have hX1:=H0.below v0 H0.lt;have hb01:=(I0.mono hB).trans (v0.mono qO);have R1:ks.length<=kab:=by rw [Q1];exact X2
 have f1:=fun K0 L0=>N1.out K0 (by rw [<-Q1];exact L0);have Y2:=qI f1;obtain ⟨g1,Z2⟩:=gY (bits .and .i64 Q 7);obtain ⟨A,h1⟩:=gY (eX ks q i);have K4:A.size<=kad:=by
  rw [<-h1];rcases yz ks q i with h9 | h9
  ·rw [h9];exact M1
  rw [f1 _ h9];decide
 have f0: ∀a,Below w1 w1 a->Calls an 73 #[.slice Z ks e0,q,i] a fun e g0=>e= .returned A/\g0=a:=fun a c=>by rw [<-h1];exact yA Z ks e0 q i a _ ((d8 J0).below c) R1
 have M0:=hX1.c 0;have S1: ∀a,Blk a b 43 [Q,q,d,r,.slice C j G,.slice E n H,s,.slice F o I,t,u,v,y,z,i,.slice R O U]->a.cell? ⟨b,1,none⟩=some (.int .i64 q)/\a.cell? ⟨b,2,none⟩=some (.int .i64 d)/\a.cell? ⟨b,13,none⟩=some (.string i):=fun a f=>by
  exact ⟨by rw [f.cell];rfl,by rw [f.cell];rfl,by rw [f.cell];rfl⟩
 have HCZ:=qI S1;have L4:=h.sto.st.lt;have M4:=h.sto.dk.lt;have N4:=h.rst.dk.lt;have T1:b≠g:=by have:=u0.out;omega
 have U1:b≠m:=by have:=u0.out;omega
 have a3:b≠gs:=by have:=u0.out;omega
 have b3:some b≠some gr:=fun e=>by injection e with e;have:=u0.out;omega
 clear P1 f1 h1 O1 e1 H0 I0 v0 N1 S1;go_upto_region 3 with (fail);by_cases n0:g1=3
 ·as_aux_lemma=>
  obtain ⟨o0,a0,w0⟩:=HCZ.out _ hX1;have V1:=qI (f0 w1 (bR _ _));have W1:=qI (hV h1s f m0 qO A qO);obtain ⟨er,HER⟩:=gH (mQ (aP geS D (xs.map PkA.pk) A));have c3:=KL (D:=D) (P:=xs.map PkA.pk) (id:=A);obtain ⟨ok,X1⟩:=gH (qG (aP geS D (xs.map PkA.pk) A));rw [<-HER,<-X1] at c3;have Y1:aP geS D (xs.map PkA.pk) A≠ .error 0:=fun e=>fO e rfl;subst n0;clear a0 M0;go_wp2_with fail;refine V1.mono ?_;rintro e w2 ⟨rfl,d3⟩;obtain rfl:=d3.symm;go_wp2_with fail;refine W1.mono ?_;intro e w2 h9;obtain ⟨e3,f3,g3,h3,rfl,i3,V⟩:=RetGet.any h9;rw [<-HER];have hX2:=hX1.below V hX1.lt;have p0:=h1r.below V;obtain ⟨j3,k3,l3⟩:=HCZ.out _ hX2;have Z1:=qI (f0 w2 V);have a2:=qI (mD p0 W h.pk A qO);clear o0 w0 V1 W1 h9 k3;go_wp2_with fail;refine Z1.mono ?_;rintro e N ⟨rfl,m3⟩;obtain rfl:=m3.symm;go_wp2_with fail;refine a2.mono ?_;intro e N h9;obtain ⟨n3,o3,p3,q3,rfl,s3,X⟩:=RetGet.any h9;rw [<-HER];have hb13:=V.next X;have hX3:=hX2.below X hX2.lt;obtain ⟨N0,x0,O4⟩:=HCZ.out _ hX3;have i1:=qI (nr f3 e3 g3 o3 n3 p3 N _ _ (i3.below X) s3 (qI (h3.out.trans q3.symm)));have t3:=qI (f0 N hb13);have b2:=qI (KO ((h1s.below V).below X) f m0 qO A qO Y1);rw [<-X1] at b2;clear j3 l3 Z1 a2 h9 x0 Y1;go_wp2_with fail;refine i1.mono ?_;rintro e j1 ⟨rfl,k1⟩;obtain rfl:=k1;go_wp2_with fail;refine t3.mono ?_;rintro e j1 ⟨rfl,k1⟩;obtain rfl:=k1.symm;go_wp2_with fail;refine b2.mono ?_;rintro e j1 ⟨rfl,hb4⟩;exact z66
 by_cases O0:g1=5
 ·as_aux_lemma=>
  obtain ⟨J,P0⟩:=gY (mR ks ⟨Q,q,d,⟨r,C,j,G,E,n,H,s,F,o,I,t,u,v,y,z⟩,i,R,O,U⟩);have P4:J.length<=40:=by rw [<-P0];unfold mR;rw [g7,b9];omega
  have c2: ∀K0∈J,K0.size<=70368744177600:=by
   intro K0 L0;rw [<-P0] at L0;obtain ⟨d2,_,rfl⟩:=e9.1 L0;rcases yz ks d2 i with h9 | h9
   ·show (eX ks d2 i).size<=_;rw [h9];omega
   rw [Y2.out _ h9];decide
  have Q0: ∀a,Below B w a->Rd a a.heap.size 1 R O (fK O):=fun a c=>(F0.below c).more (lT hB c.size);have l1: ∀a,Below B w a->Rd a a.heap.size 1 Z ks (sc ks)->Calls an 76 #[.slice Z ks e0,.agg #[Q,q,d,r,.slice C j G,.slice E n H,s,.slice F o I,t,u,v,y,z,i,.slice R O U]] a fun e g0=> ∃(R0:OA) (S0:Nat),e= .returned (.slice R0 J S0)/\g0.ownsRow a.heap.size 9 1 (.slice R0 J S0) J (sc J)/\Below a.heap.size a g0:=fun a c hk=>(KP Z ks e0 ⟨Q,q,d,⟨r,C,j,G,E,n,H,s,F,o,I,t,u,v,y,z⟩,i,R,O,U⟩ hk R1 (Q0 a c) L1).mono fun e g0 ⟨Q4,R0,S0,u3,b0,v3,c⟩=>by
   have m1:=u3.out.trans P0;subst m1;exact ⟨R0,S0,b0,v3,c⟩
  have e2:=qI (l1 w1 hb01 (d8 J0));have n1:=qI l1;have T0:=qI c2;subst O0;clear P0 l1 c2 M0 n0;go_wp2_with ((refine wpList_load_row rfl 43 _ rfl b rfl _ _ _ _ hX1 Tryz.underlying43 rfl qkR ?_));refine e2.mono ?_;rintro e w2 ⟨w3,a0,rfl,x3,V⟩;have U0:=h1s.below V;have p0:=h1r.below V;have hX2:=hX1.below V hX1.lt;have o1:=qI (KQ U0 f m0 qO w3 J J a0 rfl (d8 x3) qO T0.out);obtain ⟨y3,f2⟩:=gK (gy geS D (xs.map PkA.pk) J);rw [f2] at o1;clear e2;go_wp2_with fail;refine o1.mono ?_;rintro e N ⟨rfl,X⟩;have z3:=U0.below X;have h0:=p0.below X;have hX3:=hX2.below X hX2.lt;have hb13:=V.next X;have j0:=lT hB hb01.size;have A3:=hb01.trans (hb13.mono j0);have h2:=qI (n1.out N A3 ((d8 J0).below hb13 |>.more hb13.size));clear o1;go_wp2_with ((refine wpList_load_row rfl 43 _ rfl b rfl _ _ _ _ hX3 Tryz.underlying43 rfl qkR ?_));refine h2.mono ?_;rintro e j1 ⟨B3,V0,rfl,C3,hb4⟩;have D3:=z3.below hb4;have i2:=h0.below hb4;have j2:=hX3.below hb4 hX3.lt;have p1:=qI (Jo i2 W h.pk B3 J J V0 rfl (d8 C3) qO T0.out);rw [f2] at p1;clear h2;go_wp2_with fail;refine p1.mono ?_;rintro e w5 ⟨rfl,W0⟩;have E3:=D3.below W0;have F3:=i2.below W0;have hX5:=j2.below W0 j2.lt;have X0:=(hb13.next hb4).next W0;clear p1;obtain ⟨R4,S4⟩:=y3;go_wp2_with fail;have q0:D.l.length+1<=kac:=qO;obtain ⟨Y,T⟩:=gY (cP geS D (xs.map PkA.pk) (bF geS D (xs.map PkA.pk) J));have q1:=qI (KM hK qO h.pk J);rw [T] at q1;have Y0:=qI T;obtain ⟨⟨T4,y0⟩,U4⟩:=Y;have z0:Hid ( ∀a,Blk a b 43 [Q,q,d,r,.slice C j G,.slice E n H,s,.slice F o I,t,u,v,y,z,i,.slice R O U]->a.cell? b=some (.int .i64 Q)/\a.cell? ⟨b,1,none⟩=some (.int .i64 q)/\a.cell? ⟨b,2,none⟩=some (.int .i64 d)/\a.cell? ⟨b,3,none⟩=some (.int .i64 r)/\a.cell? ⟨b,4,none⟩=some (.slice C j G)/\a.cell? ⟨b,5,none⟩=some (.slice E n H)/\a.cell? ⟨b,6,none⟩=some (.string s)/\a.cell? ⟨b,7,none⟩=some (.slice F o I)/\a.cell? ⟨b,8,none⟩=some (.string t)/\a.cell? ⟨b,9,none⟩=some (.string u)/\a.cell? ⟨b,10,none⟩=some (.string v)/\a.cell? ⟨b,11,none⟩=some (.int .i64 y)/\a.cell? ⟨b,12,none⟩=some (.string z)/\a.cell? ⟨b,13,none⟩=some (.string i)/\a.cell? ⟨b,14,none⟩=some (.slice R O U)):=fun a f=>⟨by rw [f.cell];rfl,by rw [f.cell];rfl,by rw [f.cell];rfl,by rw [f.cell];rfl,by rw [f.cell];rfl,by rw [f.cell];rfl,by rw [f.cell];rfl,by rw [f.cell];rfl,by rw [f.cell];rfl,by rw [f.cell];rfl,by rw [f.cell];rfl,by rw [f.cell];rfl,by rw [f.cell];rfl,by rw [f.cell];rfl,by rw [f.cell];rfl⟩;have s1:=hX5.drew;have G3:=E3.below ((bR _ _).drew);have H3:=F3.below ((bR _ _).drew);have k2:=hb01.trans (X0.mono j0);have l2:=az J0 (X0.drew);have m2:B<=w5.drew:=lT j0 X0.size;have I3:=qI (n1.out w5.drew k2.drew (d8 l2));have n2:=z0 _ s1;clear T;go_region_held3 (fun a=>a.cell? b=some (.int .i64 Q)/\a.cell? ⟨b,1,none⟩=some (.int .i64 q)/\a.cell? ⟨b,2,none⟩=some (.int .i64 d)/\a.cell? ⟨b,3,none⟩=some (.int .i64 r)/\a.cell? ⟨b,4,none⟩=some (.slice C j G)/\a.cell? ⟨b,5,none⟩=some (.slice E n H)/\a.cell? ⟨b,6,none⟩=some (.string s)/\a.cell? ⟨b,7,none⟩=some (.slice F o I)/\a.cell? ⟨b,8,none⟩=some (.string t)/\a.cell? ⟨b,9,none⟩=some (.string u)/\a.cell? ⟨b,10,none⟩=some (.string v)/\a.cell? ⟨b,11,none⟩=some (.int .i64 y)/\a.cell? ⟨b,12,none⟩=some (.string z)/\a.cell? ⟨b,13,none⟩=some (.string i)/\a.cell? ⟨b,14,none⟩=some (.slice R O U)) (first | exact n2 | exact o2 | exact J3 | exact K3 | exact L3 | go_keep)
   ((first
    | (go_at_call 76;(with_reducible refine I3.out.mono ?_);rintro e M3 ⟨N3,Z0,rfl,O3,r0⟩;have t1:=s1.below r0 s1.lt;have o2:=z0.out _ t1;have u1:=G3.below r0;have P3:=H3.below r0;have Q3:=az l2 r0;have p2:=r0.size;have R3:=lT m2 p2)
    | (go_at_call 58;(with_reducible refine (qH u1 W q0 m0 qO N3 J J Z0 rfl (d8 O3) qO T0.out).mono ?_);rw [Y0.out];rintro e v1 ⟨rfl,c0,A0,a1,x1,S3,T3,U3⟩;have V3:=P3.tw3 u1 c0;have y1:Blk v1 b 43 [Q,q,d,r,.slice C j G,.slice E n H,s,.slice F o I,t,u,v,y,z,i,.slice R O U]:=t1.keepB (c0.block b t1.lt T1 U1 a3);have J3:=z0.out _ y1;have W3:=KR u1 c0 Q3 (by decide) (by decide);have q2:Below B M3 v1:=⟨c0.os,c0.tape,c0.output,c0.size,fun k0 V4=>c0.block k0 qO (by have:=h.lo.2.1;omega) (by have:=h.lo.2.2.1;omega) (by have:=h.lo.1;omega)⟩;have s2:=(k2.drew.trans (r0.mono m2)).trans q2;have X3:=qI (n1.out v1 s2 (d8 W3)))
    | (go_at_call 76;(with_reducible refine X3.out.mono ?_);rintro e W4 ⟨Y3,b1,rfl,z1,B0⟩;have t2:=y1.below B0 y1.lt;have K3:=z0.out _ t2;have Z3:=S3.below B0;have u2:=V3.below B0)
    | (go_at_call 78;(with_reducible refine (Jt u2 W h.pk q0 Y3 J J b1 rfl (d8 z1) qO T0.out).mono ?_);rw [Y0.out];rintro e X4 ⟨rfl,a4,A1⟩;have b4:=t2.grown A1 b3;have L3:=z0.out _ b4)))
  go_wp2_with fail;have c4:=hb01.size;have d4:=X0.drew.size;have Y4:=lT c4 (lT d4 p2);have c1:gr<A0/\B<=A0/\B<=a1:=by
   rcases U3 with ⟨N0,x0,_⟩ | ⟨N0,x0⟩
   ·rw [N0,x0];exact ⟨h.lt,h.lo.2.2.2.1,h.lo.2.2.2.2.1⟩
   exact ⟨qO,qO,qO⟩
  have x2:=lT R3 q2.size;have e4:=lT x2 B0.size;go_ret;exact ⟨by simp,(s2.trans (B0.mono x2)).trans (ak A1 h.lo.2.2.2.2.2.1 e4),y0,A0,a1,x1,⟨Z3.ref u2 A1 c1.1,a4,by rw [T3];exact q1.2,⟨h.lo.1,h.lo.2.1,h.lo.2.2.1,c1.2.1,c1.2.2,h.lo.2.2.2.2.2.1,h.lo.2.2.2.2.2.2⟩,c1.1⟩,q1.1⟩
 by_cases B1:g1=4
 ·as_aux_lemma=>
  have C1: ∀a,Below w1 w1 a->Calls an 62 #[.pointer (some gs),A,d] a (RetObjS a (dZ geS D (xs.map PkA.pk) A d)):=fun a c=>KS (h1s.below c) f m0 qO A qO d;have y2:Hid ( ∀a,Below w1 w1 a->Calls an 75 #[.pointer (some g2),A,d] a (RetObjS a (dZ geS D (xs.map PkA.pk) A d))):=fun a c=>Ja (h1r.below c) W h.pk A qO d;obtain ⟨Y,T⟩:=gY (dZ geS D (xs.map PkA.pk) A d);have z2:=qI T;rw [T] at C1 y2;have HO1:=qI C1;obtain ⟨er,HER⟩:=gK (yr Y);have f4:=beq_eq_false_iff_ne.2 n0;subst B1;clear T C1 n0 O0 M0;go_upto_region 8 with (fail);go_cut [12,13] (fun p e D1=>e= .int .i64 er/\yt Y p w1 D1)
  case first=>
   obtain ⟨o0,a0,w0⟩:=HCZ.out _ hX1.drew;have hbA:Below w1 w1 (World.alloc (pp w1) (.cells #[i0,eL,eL,eS,eL,eS,eS,eS,i0,eS] 40)):=((bR w1 w1).drew).alloc (by first | exact lR _ | exact (bR w1 w1).size) _;have E1:Below w1 w1 (World.alloc (pp w1) (.cells #[i0,eL,eL,eS,eL,eS,eS,eS,i0,eS] 40)):=((bR _ _).drew).alloc (lR _) _;have hXA:=hX1.below E1 hX1.lt;have hN:=o9 (pp w1) 40 zcells;refine wp_region_held_drew (S:=fun a=>a.cell? ⟨b,1,none⟩=some (.int .i64 q)/\a.cell? ⟨b,2,none⟩=some (.int .i64 d)/\a.cell? ⟨b,13,none⟩=some (.string i)) qkR ⟨o0,a0,w0⟩ (fun hHeld=> ?_);refine tl 0 (.pointer (some gs)) ?_;refine tl 1 (.slice Z ks e0) ?_;refine tl 2 (.pointer (some ⟨b,1,none⟩)) ?_;refine tl 3 (.int .i64 q) ?_;refine tl 4 (.pointer (some ⟨b,13,none⟩)) ?_;refine tl 5 (.string i) ?_;refine tl 7 (.pointer (some ⟨b,2,none⟩)) ?_;refine tl 8 (.int .i64 d) ?_;refine rh2 6 13 (fun K hK=> ?_) fun K hK=> ?_
   ·go_simp;refine (f0 _ (bR w1 w1).drew).mono ?_;rintro e F1 ⟨rfl,l0⟩;obtain rfl:=l0.symm;refine hO hK hHeld (fun hHeld=> ?_);refine rh2 9 13 (fun K hK=> ?_) fun K hK=> ?_
    ·go_simp;refine (HO1.out _ (bR w1 w1).drew).mono ?_;intro e w2 h9;obtain ⟨k9,Ad9,d9,cd9,Ae9,en9,ce9,tr9,Ap9,pa9,cp9,ta9,na9,wh9,st9,te9,ho9,rfl,r1,r2,r3,hb9,r5,r6⟩:=RetObjS.any h9;rw [HER];have hX2:=(hX1.drew).below hb9 (hX1.drew).lt;refine hO hK (HCZ.out _ hX2) (fun hHeld=> ?_);clear h9;refine tl 10 (.tuple #[.agg #[k9,.slice Ad9 d9 cd9,.slice Ae9 en9 ce9,tr9,.slice Ap9 pa9 cp9,ta9,na9,wh9,st9,te9],er]) ?_;refine tl 11 (.agg #[k9,.slice Ad9 d9 cd9,.slice Ae9 en9 ce9,tr9,.slice Ap9 pa9 cp9,ta9,na9,wh9,st9,te9]) ?_;refine tl 12 (.int .i64 er) ?_;refine rh 13 fun K hK=> ?_;go_simp;have M:=bAl w2 (.cells #[i0,eL,eL,eS,eL,eS,eS,eS,i0,eS] 40);have hX3:=hX2.below M hX2.lt;have G1:=o9 w2 40 zcells;have hxl:=hX2.lt;refine hO hK (HCZ.out _ hX3) (fun hHeld=> ?_);refine rh 14 fun K hK=> ?_;refine mN (by rfl) _ (.tmp 12) (.tmp 87) (by rfl) _ [.int .i64 k9,.slice Ad9 d9 cd9,.slice Ae9 en9 ce9,.string tr9,.slice Ap9 pa9 cp9,.string ta9,.string na9,.string wh9,.int .i64 st9,.string te9] (by rfl) (by rfl) 40 zcells G1 qkR rfl (gn _ _ _ _ _ _ _ _ _ _ rfl rfl rfl) ?_;intro w5 hB5 hg5;have hX5:=hX3.grown hg5 (fun e=>by injection e with e;omega);refine hO hK (HCZ.out _ hX5) (fun hHeld=> ?_);refine tl 15 (.int .i64 er) ?_;refine dn ?_;go_wp2_with fail;go_meet;have hb25:=M.grown hg5 M.size (fun k hk=>by cases hk;exact lR _);have hb19:=((bR w1 w1).drew.next hb9).trans (hb25.mono ((bR w1 w1).drew.next hb9).size);exact z74
    go_simp;refine hO hK (HCZ.out _ hXA) (fun hHeld=> ?_);exact z220
   go_simp;refine hO hK (HCZ.out _ hXA) (fun hHeld=> ?_);refine rh 6 fun K hK=> ?_;go_simp;refine (f0 _ hbA).mono ?_;rintro e F1 ⟨rfl,l0⟩;obtain rfl:=l0.symm;refine hO hK hHeld (fun hHeld=> ?_);exact z220
  case rest=>
  obtain ⟨rfl,Z4,k9,Ad9,d9,cd9,Ae9,en9,ce9,tr9,Ap9,pa9,cp9,ta9,na9,wh9,st9,te9,rfl,ho9,H1,r1,r2,r3,d0,r5,r6⟩:=hcut;obtain ⟨v2,A2⟩:=gX wc;rw [<-A2] at H1 r1 r2 r3 d0 ⊢;clear A2;have hXv:=hX1.below d0 hX1.lt;have B2: ∀a,Below v2 v2 a->Calls an 73 #[.slice Z ks e0,q,i] a fun e g0=>e= .returned A/\g0=a:=fun a c=>f0 a (d0.next c);have HO3:Hid ( ∀a,Below v2 v2 a->Calls an 75 #[.pointer (some g2),A,d] a (RetObjS a (dZ geS D (xs.map PkA.pk) A d))):=fun a c=>by have:=y2.out a (d0.next c);rw [z2];exact this
  rw [z2] at HO3;clear f0;go_upto_region 9 with (fail);go_cut [14,15] (fun p e D1=>e= .int .i64 er/\yt Y p v2 D1)
  case first=>
   obtain ⟨o0,a0,w0⟩:=HCZ.out _ hXv.drew;have hbA:Below v2 v2 (World.alloc (pp v2) (.cells #[i0,eL,eL,eS,eL,eS,eS,eS,i0,eS] 40)):=((bR v2 v2).drew).alloc (by first | exact lR _ | exact (bR v2 v2).size) _;have E1:Below v2 v2 (World.alloc (pp v2) (.cells #[i0,eL,eL,eS,eL,eS,eS,eS,i0,eS] 40)):=((bR _ _).drew).alloc (lR _) _;have hXA:=hXv.below E1 hXv.lt;have hN:=o9 (pp v2) 40 zcells;refine wp_region_held_drew (S:=fun a=>a.cell? ⟨b,1,none⟩=some (.int .i64 q)/\a.cell? ⟨b,2,none⟩=some (.int .i64 d)/\a.cell? ⟨b,13,none⟩=some (.string i)) qkR ⟨o0,a0,w0⟩ (fun hHeld=> ?_);refine tl 0 (.pointer (some g2)) ?_;refine tl 1 (.slice Z ks e0) ?_;refine tl 2 (.pointer (some ⟨b,1,none⟩)) ?_;refine tl 3 (.int .i64 q) ?_;refine tl 4 (.pointer (some ⟨b,13,none⟩)) ?_;refine tl 5 (.string i) ?_;refine tl 7 (.pointer (some ⟨b,2,none⟩)) ?_;refine tl 8 (.int .i64 d) ?_;refine rh2 6 13 (fun K hK=> ?_) fun K hK=> ?_
   ·go_simp;refine (B2 _ (bR v2 v2).drew).mono ?_;rintro e F1 ⟨rfl,l0⟩;obtain rfl:=l0.symm;refine hO hK hHeld (fun hHeld=> ?_);refine rh2 9 13 (fun K hK=> ?_) fun K hK=> ?_
    ·go_simp;refine (HO3.out _ (bR v2 v2).drew).mono ?_;intro e w2 h9;obtain ⟨k9,Ad9,d9,cd9,Ae9,en9,ce9,tr9,Ap9,pa9,cp9,ta9,na9,wh9,st9,te9,ho9,rfl,r1,r2,r3,hb9,r5,r6⟩:=RetObjS.any h9;rw [HER];have hX2:=(hXv.drew).below hb9 (hXv.drew).lt;refine hO hK (HCZ.out _ hX2) (fun hHeld=> ?_);clear h9;refine tl 10 (.tuple #[.agg #[k9,.slice Ad9 d9 cd9,.slice Ae9 en9 ce9,tr9,.slice Ap9 pa9 cp9,ta9,na9,wh9,st9,te9],er]) ?_;refine tl 11 (.agg #[k9,.slice Ad9 d9 cd9,.slice Ae9 en9 ce9,tr9,.slice Ap9 pa9 cp9,ta9,na9,wh9,st9,te9]) ?_;refine tl 12 (.int .i64 er) ?_;refine rh 13 fun K hK=> ?_;go_simp;have M:=bAl w2 (.cells #[i0,eL,eL,eS,eL,eS,eS,eS,i0,eS] 40);have hX3:=hX2.below M hX2.lt;have G1:=o9 w2 40 zcells;have hxl:=hX2.lt;refine hO hK (HCZ.out _ hX3) (fun hHeld=> ?_);refine rh 14 fun K hK=> ?_;refine mN (by rfl) _ (.tmp 14) (.tmp 100) (by rfl) _ [.int .i64 k9,.slice Ad9 d9 cd9,.slice Ae9 en9 ce9,.string tr9,.slice Ap9 pa9 cp9,.string ta9,.string na9,.string wh9,.int .i64 st9,.string te9] (by rfl) (by rfl) 40 zcells G1 qkR rfl (gn _ _ _ _ _ _ _ _ _ _ rfl rfl rfl) ?_;intro w5 hB5 hg5;have hX5:=hX3.grown hg5 (fun e=>by injection e with e;omega);refine hO hK (HCZ.out _ hX5) (fun hHeld=> ?_);refine tl 15 (.int .i64 er) ?_;refine dn ?_;go_wp2_with fail;go_meet;have hb25:=M.grown hg5 M.size (fun k hk=>by cases hk;exact lR _);have hb19:=((bR v2 v2).drew.next hb9).trans (hb25.mono ((bR v2 v2).drew.next hb9).size);exact z74
    go_simp;refine hO hK (HCZ.out _ hXA) (fun hHeld=> ?_);exact z219
   go_simp;refine hO hK (HCZ.out _ hXA) (fun hHeld=> ?_);refine rh 6 fun K hK=> ?_;go_simp;refine (B2 _ hbA).mono ?_;rintro e F1 ⟨rfl,l0⟩;obtain rfl:=l0.symm;refine hO hK hHeld (fun hHeld=> ?_);exact z219
  case rest=>
  obtain ⟨rfl,a5,b5,g4,c5,h4,i4,d5,j4,e5,k4,f5,l4,g5,h5,i5,j5,k5,rfl,z1,C2,D2,E2,F2,M,n2,o2⟩:=hcut;obtain ⟨m4,G2⟩:=gX wc;rw [<-G2] at C2 D2 E2 F2 M ⊢;clear G2;have n4:=ho9.symm.trans z1.out;injection n4 with C0 D0 E0 F0 G0 o4 p4 q4 r4 s4;subst C0 D0 E0 F0 G0 o4 p4 q4 r4 s4;have t4:=H1.below M H1.lt;have hb13:=d0.next M;have i1:=qI (JU k9 Ad9 d9 cd9 Ae9 en9 ce9 tr9 Ap9 pa9 cp9 ta9 na9 wh9 st9 te9 g4 h4 i4 j4 k4 l4 m4 ((r1.below M).more M.size) ((r2.below M).more M.size) ((r3.below M).more M.size) r5 r6 D2 E2 F2);obtain ⟨l5,o0,a0,H2,V0,I2,Z0,J2,b1,K2⟩:=bg t4;obtain ⟨m5,N0,x0,u4,v4,w4,x4,y4,z4,m1⟩:=bg C2;go_wp2_with fail;refine i1.mono ?_;rintro e n5 ⟨rfl,hb4⟩;exact z66
 as_aux_lemma=>
  have f4:=beq_eq_false_iff_ne.2 n0;have o5:=beq_eq_false_iff_ne.2 B1;have p5:=beq_eq_false_iff_ne.2 O0;have q0:D.l.length+1<=kac:=qO;obtain ⟨A4,B4⟩:=G0.out;have Q0: ∀a,Below B w a->Rd a a.heap.size 1 C j (bc j)/\Rd a a.heap.size 3 E n (ec n)/\Rd a a.heap.size 1 F o (pc o):=fun a c=>⟨(C0.below c).more (lT hB c.size),(D0.below c).more (lT hB c.size),(E0.below c).more (lT hB c.size)⟩;have j0:=lT hB hb01.size;have L2: ∀a,Below w1 w1 a->Calls an 37 #[.agg #[r,.slice C j G,.slice E n H,s,.slice F o I,t,u,v,y,z]] a (RetEnc a ⟨r,j,n,s,o,t,u,v,y,z⟩):=fun a c=>by
   obtain ⟨r1,r2,r3⟩:=Q0 a (hb01.trans (c.mono j0));exact oR r C j G E n H s F o I t u v y z a r1 r2 r3 qO qO (qI B4)
  have I1:=qI (yB h1s f q0 m0 qO r C j G E n H s F o I t u v y z L2);obtain ⟨Y,T⟩:=gY (hP geS D (xs.map PkA.pk) ⟨r,j,n,s,o,t,u,v,y,z⟩);rw [T] at I1;have Y0:=qI T;have M2:OkG (L+1) 140737488351232 Y.2/\ai geS Y.2.l=some (xs.map PkA.pk):=by
   rw [<-T];unfold hP;split
   ·exact ⟨GN hK _,(GK W q0 _).trans h.pk⟩
   exact ⟨hK.mono qO (lR _),h.pk⟩
  have H2:=hX1.c 3;have V0:=hX1.c 4;have I2:=hX1.c 5;have Z0:=hX1.c 6;have J2:=hX1.c 7;have b1:=hX1.c 8;have K2:=hX1.c 9;have C4:=hX1.c 10;have D4:=hX1.c 11;have E4:=hX1.c 12;clear T L2 n0 B1 O0 Z2 M0;obtain ⟨N2,y0⟩:=Y;go_wp2_with fail;refine I1.mono ?_;intro e w2 h9;have F4:e= .returned (jt N2)/\Sto w2 gs g m base gp y0 xs/\Tw w1 w2 g m:=h9;obtain ⟨b0,U0,J1⟩:=F4;have p0:=h1r.tw h1s.dk J1;have hX2:=Blk.tw hX1 J1 T1 U1;have d0:=J1.toBelow h.lo.2.1 h.lo.2.2.1 j0;have O2:=hb01.trans d0;have P2:=lT j0 d0.size;have Q2: ∀a,Below w2 w2 a->Calls an 51 #[.agg #[r,.slice C j G,.slice E n H,s,.slice F o I,t,u,v,y,z]] a (RetEnc a ⟨r,j,n,s,o,t,u,v,y,z⟩):=fun a c=>by
   obtain ⟨r1,r2,r3⟩:=Q0 a (O2.trans (c.mono P2));exact uV r C j G E n H s F o I t u v y z a r1 r2 r3 qO qO (qI A4)
  have K1:=qI (Jc p0 W h.pk q0 r C j G E n H s F o I t u v y z Q2);rw [Y0] at K1;clear Q2 I1 h9;have u4:=hX2.c 3;have v4:=hX2.c 4;have w4:=hX2.c 5;have x4:=hX2.c 6;have y4:=hX2.c 7;have z4:=hX2.c 8;have m1:=hX2.c 9;have q5:=hX2.c 10;have s5:=hX2.c 11;have t5:=hX2.c 12;clear H2 V0 I2 Z0 J2 b1 K2 C4 D4 E4;have R2:Hid ( ∀N,RSto N g2 gr y0->w2.grownBy N (some gr)->Below B w N/\ ∃(S2:Dk) (A0 a1:Nat) (x1:List PkA),Two N B gs g m A0 a1 gr g2 S2 x1/\OkG (L+1) 140737488351232 S2):=fun N h0 s0=>⟨O2.trans (ak s0 h.lo.2.2.2.2.2.1 P2),y0,base,gp,xs,⟨U0.ref p0 s0 h.lt,h0,M2.2,h.lo,h.lt⟩,M2.1⟩;cases N2 with
  | ok k0=>
   obtain rfl:e= .returned (.tuple #[k0,i0]):=b0;go_wp2_with fail;refine K1.mono ?_;rintro e N ⟨b0,h0,s0⟩;obtain rfl:e= .returned (.tuple #[k0,i0]):=b0;go_wp2_with fail;go_ret;exact ⟨by simp,R2.out N h0 s0⟩
  | error k0=>
  obtain rfl:e= .returned (.tuple #[eS,k0]):=b0;go_wp2_with fail;refine K1.mono ?_;rintro e N ⟨b0,h0,s0⟩;obtain rfl:e= .returned (.tuple #[eS,k0]):=b0;go_wp2_with fail;go_ret;exact ⟨by simp,R2.out N h0 s0⟩
end
end Go.Proofs.YtecpbcmpncgokaaGreat
namespace Go.Proofs.YtecpbcmpncgokaaGreat
open Go.Joins Go.ChangeShapes Go.WideShapes Go.RowKit Go.Deep Go.Dol
def o10 (l:List Op10):List Value:=l.flatMap Op10.cells
theorem vl (l):(o10 l).length=l.length*15:=by
 induction l with
 | nil=>rfl
 | cons a b c=>
 show (a.cells++o10 b).length=_;rw [b7,c,List.length_cons];show 15+_=_;omega
theorem pn {l k x} (a:l[k]?=some x) (j) (f:j<15):(o10 l)[k*15+j]?=x.cells[j]?:=by
 induction l generalizing k with
 | nil=>cases a
 | cons b c d=>
 cases k with
 | zero=>
  have:b=x:=by simpa using a
  subst this;show (b.cells++o10 c)[_]?=_;rw [G9 (by show _<15;omega)];congr 1;omega
 | succ k=>
 have e:c[k]?=some x:=by simpa using a
 rw [<-d e];show (b.cells++o10 c)[_]?=_;rw [G7 (by show 15<=_;omega)];congr 1;show (k+1)*15+j-15=_;omega
def OpR10 (a:World) (B:Nat) (x:Op10):Prop:=vq a B x.o/\Rd a B 1 x.A x.l (fK x.l)/\(Lit.int .i64 x.n).wf=true
section
variable {H:Type} {enc:TypeId×Value->H} {W:World}
theorem FT {d:DataW H} {ps} (A len cap) (i:DataW.Trod enc an W 0 (fun _=>true) true 41 (.slice A len cap) d ps):
  ∃l:List Int,l.length=len/\Rd W W 1 A len (fK l)/\iH d len:=by
 obtain ⟨q,j⟩:=i;rcases open_ints Tryz.underlying41 B9 qkR j with ⟨a,b⟩ | ⟨r,l,s,c,a,_,t,u,k,b,m,v⟩
 ·simp [Qc] at a;obtain ⟨rfl,rfl,rfl⟩:=a;exact ⟨[],rfl,L8,.inl ⟨(NK b).1,rfl⟩⟩
 simp [Qc] at a;obtain ⟨rfl,rfl,rfl⟩:=a;have w:c=cap:=by simpa using k
 have e:(c.take len).length=len:=by rw [b9];omega
 refine ⟨c.take len,e,?_,.inr ⟨_,_,(NK b).1,by simp [lits];omega⟩⟩;refine ⟨by rw [fK,g7];omega,fun x=> ?_⟩;obtain ⟨n,o,rfl,f⟩:=ints_at m qO;refine ⟨n,o,rfl,o7 W _ (f 0 qO),fun p y g=> ?_⟩;have h:=(c9.1 g).1;rw [fK,g7,e] at h;rw [f p qO,<-g];unfold fK;rw [m7,w7,if_pos h,List.getD,gE qO];rfl
def jO (x:Op10) (c:DataW H):Prop:=∃ d e f a b:DataW H,c= .agg [d,e,f,a,.lit (.string x.id.data.toList),b]/\uW x.o a/\iH b x.l
theorem FU {fuel cs} {O:DataW H×List MemPlace} (h:PS enc an W 0 (fun _=>true) true fuel 43 cs=some O): ∃x:Op10,cs=x.cells/\OpR10 W W x/\jO x O.1:=by
 obtain ⟨b,a,s0,X,T,P,v⟩:=DataW.trod_struct Tryz.underlying43 h;rw [show an.cellsOf 43=15 from by kernel_rfl] at T;obtain ⟨e,f,g,i,j,k,l,m,n,o,r,s,t,u,c,rfl⟩:=FV T;have Q:an.cellsOf 3=1:=qkR;have Y:an.cellsOf 40=10:=qkR;have Z:an.cellsOf 41=1:=qkR;have a0:an.cellsOf 9=1:=qkR;have F:PS enc an W 0 (fun _=>true) true a 3 (([e,f,g,i,j,k,l,m,n,o,r,s,t,u,c].drop 0).take (an.cellsOf 3))=b[0]?:=v 0 _ rfl;rw [Q] at F;change PS enc an W 0 (fun _=>true) true a 3 [e]=_ at F;have G:PS enc an W 0 (fun _=>true) true a 3 (([e,f,g,i,j,k,l,m,n,o,r,s,t,u,c].drop 1).take (an.cellsOf 3))=b[1]?:=v 1 _ rfl;rw [Q] at G;change PS enc an W 0 (fun _=>true) true a 3 [f]=_ at G;have I:PS enc an W 0 (fun _=>true) true a 3 (([e,f,g,i,j,k,l,m,n,o,r,s,t,u,c].drop 2).take (an.cellsOf 3))=b[2]?:=v 2 _ rfl;rw [Q] at I;change PS enc an W 0 (fun _=>true) true a 3 [g]=_ at I;have J:PS enc an W 0 (fun _=>true) true a 40 (([e,f,g,i,j,k,l,m,n,o,r,s,t,u,c].drop 3).take (an.cellsOf 40))=b[3]?:=v 3 _ rfl;rw [Y] at J;change PS enc an W 0 (fun _=>true) true a 40 [i,j,k,l,m,n,o,r,s,t]=_ at J;have K:PS enc an W 0 (fun _=>true) true a 9 (([e,f,g,i,j,k,l,m,n,o,r,s,t,u,c].drop 13).take (an.cellsOf 9))=b[4]?:=v 4 _ rfl;rw [a0] at K;change PS enc an W 0 (fun _=>true) true a 9 [u]=_ at K;have B:PS enc an W 0 (fun _=>true) true a 41 (([e,f,g,i,j,k,l,m,n,o,r,s,t,u,c].drop 14).take (an.cellsOf 41))=b[5]?:=v 5 _ rfl;rw [Z] at B;change PS enc an W 0 (fun _=>true) true a 41 [c]=_ at B;have P:b.length=6:=P;obtain ⟨w,y,z2,z,A,z5,rfl⟩: ∃w y z2 z A z5,b=[w,y,z2,z,A,z5]:=by
  match b,P with
  | [w,y,z2,z,A,z5],_=>exact ⟨w,y,z2,z,A,z5,rfl⟩
 change _=some w at F;change _=some y at G;change _=some z2 at I;change _=some z at J;change _=some A at K;change _=some z5 at B;obtain ⟨L,b0,_,t0⟩:=OU B9 F;obtain rfl:e= .int .i64 L:=by simpa using b0
 obtain ⟨M,c0,_,u0⟩:=OU B9 G;obtain rfl:f= .int .i64 M:=by simpa using c0
 obtain ⟨N,d0,_,e0⟩:=OU B9 I;obtain rfl:g= .int .i64 N:=by simpa using d0
 obtain ⟨x,f0,g0,h0⟩:=FW J;obtain ⟨C,i0,j0,v0⟩:=M9 l9 K;obtain rfl:u= .string C:=by simpa using i0
 have k0:A.1= .lit (.string C.data.toList):=by rw [j0]
 have U: ∀(D:OA) (R E:Nat),c= .slice D R E-> ∃x:Op10,[.int .i64 L,.int .i64 M,.int .i64 N,i,j,k,l,m,n,o,r,s,t,.string C,c]=x.cells/\OpR10 W W x/\jO x O.1:=by
  intro D R E l0;subst l0;obtain ⟨V,m0,n0,o0⟩:=FT (d:=z5.1) (ps:=z5.2) D R E ⟨a,B⟩;subst m0;refine ⟨⟨L,M,N,x,C,D,V,E⟩,?_,⟨g0,n0,e0⟩,w.1,y.1,z2.1,z.1,z5.1,?_,h0,o0⟩
  ·show _=Value.int .i64 L:: .int .i64 M:: .int .i64 N::(x.cells++[.string C,.slice D V E]);rw [<-f0];rfl
  rw [X];simp only [List.map_cons,List.map_nil,k0]
 rcases open_ints Tryz.underlying41 B9 qkR B with ⟨S,_⟩ | ⟨p0,q0,r0,w0,S,_⟩
 ·exact U none 0 0 (by simpa using S)
 exact U (some p0) q0 r0 (by simpa using S)
theorem vr {d:DataW H} {ps} (A len cap) (s:DataW.Trod enc an W 0 (fun _=>true) true 23 (.slice A len cap) d ps):
  ∃l:List Op10,l.length=len/\Rd W W 15 A len (o10 l)/\(∀x∈l,OpR10 W W x)/\iH d len/\(∀x∈l,∃h t j,d= .slice h t/\j∈h/\jO x j):=by
 obtain ⟨G,u⟩:=s;have v:an.cellsOf 43=15:=qkR;rcases open_slice Tryz.underlying23 u with ⟨c,a⟩ | ⟨w,I,J,K,L,D,M,c,_,N,O,y,a,z⟩
 ·simp [Qc] at c;obtain ⟨rfl,rfl,rfl⟩:=c;exact ⟨[],rfl,L8,fun x a=>(m9 a).elim,.inl ⟨(NK a).1,rfl⟩,fun x a=>(m9 a).elim⟩
 simp [Qc] at c;obtain ⟨rfl,rfl,rfl⟩:=c;obtain ⟨l,k,g⟩:=ld (p:=fun i (x:Op10)=>(∀b,b<15->W.cell? ((w.add (i*15)).add b)=x.cells[b]?)/\OpR10 W W x/\jO x (D i)) len (fun i hi=>by
  obtain ⟨P,m,B⟩:=z i (by simp at y;omega);rw [v] at m;obtain ⟨_,_,C⟩:=World.cells?_some m;obtain ⟨x,rfl,e,f⟩:=FU B;exact ⟨x,C,e,f⟩)
 have n:=(NK a).1;refine ⟨l,k,?_,fun x a=> ?_,.inr ⟨_,_,n,by simp⟩,fun x a=>by
  obtain ⟨i,hi⟩:=Nv a;have Q:=(c9.1 hi).1;exact ⟨_,_,D i,n,e9.2 ⟨i,Nq.2 qO,rfl⟩,(g i x hi).2.2⟩⟩
 ·refine lg qO (by rw [vl,k]) fun b R o=> ?_;have E:=(c9.1 o).1;rw [vl] at E;have F:b/15<l:=qO;have q:=gE F;have e:=pn q (b%15) qO;have r:b/15*15+b%15=b:=qO;rw [r] at e;have f:=(g (b/15) _ q).1 (b%15) qO;rw [Go.Deep.add_add,r] at f;exact f.trans (e.symm.trans o)
 obtain ⟨i,hi⟩:=Nv a;exact (g i x hi).2.1
theorem vu {c:List (DataW H)} {d:DataW H} {l:List Op10} (f:Rows.uptoSmall H c=true) (g:d∈c) (h: ∀x∈l,∃a e b,d= .slice a e/\b∈a/\jO x b):
  ∀x∈l,x.o.en.length<=140737488351232/\x.o.pa.length<=140737488351232/\x.l.length<=140737488351232/\x.id.size<=1048576:=by
 intro x i;obtain ⟨a,e,b,rfl,j,r,s,t,u,v,rfl,⟨w,y,z,A,B,C,D,E,F,G,rfl,k,m⟩,n⟩:=h x i;have I:=oo f;have p:=jp g;have q:=jp j;have J:=po k;have K:=po n;have L:=po m;have M:x.id.data.toList=x.id.size:=by rw [v7];rfl
 simp only [Rows.uptoBulk,Rows.uptoBulkAll] at p q;omega
theorem OpR10.step {W w x} (c:OpR10 W W.heap.size x) (a:x.o.en.length<=kab/\x.o.pa.length<=kab/\x.l.length<=kab/\x.id.size<=kad) (b:Below W.heap.size W w):pq w W.heap.size x:=by
 obtain ⟨⟨d,e,f,g⟩,h,_⟩:=c;exact ⟨d.below b,e.below b,f.below b,h.below b,g,a.1,a.2.1,a.2.2.1,a.2.2.2⟩
end
end Go.Proofs.YtecpbcmpncgokaaGreat
namespace Go.Proofs.YtecpbcmpncgokaaGreat
section
variable {w w' w1 w2:World} {B gs g m base gp gr g2:Nat} {D D':Dk} {xs:List PkA}
theorem Two.below (a:Two w B gs g m base gp gr g2 D xs) (b:Below w w w'):Two w' B gs g m base gp gr g2 D xs:=⟨a.sto.below b,a.rst.below b,a.pk,a.lo,a.lt⟩
theorem Two.turn (a:Two w B gs g m base gp gr g2 D xs) (e:D'.l=D.l) (f:Dsk w1 g m D') (b:Tw w w1 g m) (h:Rdk w2 gr D') (c:w1.grownBy w2 (some gr)):Two w2 B gs g m base gp gr g2 D' xs:=by
 have d:=a.rst.tw a.sto.dk b;exact ⟨(a.sto.tw b f).ref d c a.lt,d.grown h c,by rw [e];exact a.pk,a.lo,a.lt⟩
theorem Two.anew (a:Two w B gs g m base gp gr g2 D xs) {gs' base' gp' g2' xs'} (k:B<=w) (b:Hid (xs'.map PkA.pk=xs.map PkA.pk)) (l:w.heap.size<=gs') (n:w.heap.size<=gp') (o:w.heap.size<=base') (c:Sto w1 gs' g m base' gp' D xs') (d:Below w w w1)
  (p:w1.heap.size<=g2') (e:RSto w2 g2' gr D) (f:Below w1 w1 w2):Two w2 B gs' g m base' gp' gr g2' D xs':=by
 have q:=a.rst.dk.lt;have r:=d.size;obtain ⟨s,h,i,t,u,j,v⟩:=a.lo;exact ⟨c.below f,e,by rw [b];exact a.pk,⟨qO,h,i,qO,qO,j,qO⟩,qO⟩
theorem qY (b:Sto w gs g m base gp D xs) (d:xs.length<=kaf) (e:ai geS D.l=some (xs.map PkA.pk)):Calls an 22 #[.pointer (some gs)] w fun a w'=> ∃(ys:List BA) (A:OA) (c:Nat),Hid (ys=pnL D)/\a= .returned (.slice A ys.length c)/\w'.ownsRow w 9 1 (.slice A ys.length c) ys.length (sc ys)/\Below w w w':=by
 refine (Lf b d).mono ?_;rintro a w1 ⟨A,c,rfl,f,h⟩;refine ⟨xs.map (·.n),A,c,?_,by rw [g7],by rw [g7];exact f,h⟩;unfold Hid;rw [mB e,w9];rfl
theorem Two.few (a:Two w B gs g m base gp gr g2 D xs) (c:D.l.length<=2000000):xs.length<=2000000/\cQ (xs.map PkA.pk)/\(cX (xs.map PkA.pk)).length<=4398046511104/\(idsS D (xs.map PkA.pk)).length<=kab/\(pnL D).length<=2000000:=by
 have d:=(eV a.pk).1;rw [g7] at d;have b:=yx a.pk c;refine ⟨qO,hJ a.pk,b.1,b.2,?_⟩;unfold pnL;have:=OZ aD (D.l.map Prod.fst);rw [g7] at this;omega
end
