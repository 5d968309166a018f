/- Walks and laws. Conditions: as stated. -/
import Derived.Test.YtecpbcmpncgokaaGreatRPk5
import Derived.Test.YtecpbcmpncgokaaGreatPckBuild
set_option maxRecDepth 99999
set_option maxHeartbeats 25600000
set_option linter.all false
open Go.Region renaming wanted->up
open Go.RowKit Go.Dol
namespace Go.Dol
def dg (y:RowB):PtA:=⟨⟨aw y.l,0,0,0,y.l⟩,y.A,y.c⟩
theorem wN {d k} (a:k<=1):aI d k=0:=by unfold aI;rw [if_neg qO]
theorem IC {prev raw d} (a:fE prev d raw≠true):aO prev d raw=db raw:=by unfold aO;rw [if_neg (fun b=>a b.1)]
theorem ID {a b:LU} (ha:0<a.length) (d:0<b.length):(b[0]'d).toNat=(a[0]'ha).toNat↔a.head?=b.head?:=by
 cases a with
 | nil=>cases ha
 | cons e a=>
 cases b with
 | nil=>cases d
 | cons f b=>
 simp only [List.getElem_cons_zero,List.head?_cons,M6];exact ⟨fun c=>(C9.1 c).symm,fun c=>by rw [c]⟩
theorem mu {l:List PtA} {k x} (a:l[k]?=some x) (x'):(l.set k x')[k]?=some x':=by
 obtain ⟨b,_⟩:=c9.1 a;rw [List.getElem?_set_self b]
theorem mv {j} (c:j<5): ∀{l:List PtA} {k:Nat} {x x':PtA} {u:Value},l[k]?=some x->x'.rcells=x.rcells.set j u->(rpc l).set (k*5+j) u=rpc (l.set k x')
 | [],k,x,x',u,a,_=>by simp at a
 | y::l,0,x,x',u,a,b=>by
  obtain rfl:y=x:=by simpa using a
  rw [rpc,List.flatMap_cons,Nat.zero_mul,x9,Oq _ _ (by show j<5;exact c),<-b];rfl
 | y::l,k+1,x,x',u,a,b=>by
  rw [rpc,List.flatMap_cons,List.set_append_right _ _ (by show 5<=_;omega)];have d:(k+1)*5+j-y.rcells=k*5+j:=by show (k+1)*5+j-5=_;omega
  rw [d];have:=mv c (l:=l) (k:=k) (x:=x) (x':=x') (u:=u) (by simpa using a) b;unfold rpc at this;rw [this];rfl
structure BPre (ys:List RowB) (ls:List PtA) (k:Nat) (pv:LU) (d:Nat):Prop where
 len:ls.length=ys
 all: ∀(j:Nat) (y:RowB),ys[j]?=some y-> ∃x,ls[j]?=some x/\x.p.id=aw y.l/\x.p.raw=y.l/\x.A=y.A/\x.c=y.c/\(k<j->x.p.kind=0/\x.p.depth=0)
 zero:k=0->pv=[]/\d=0
 last: ∀j,k=j+1-> ∃y x,ys[j]?=some y/\ls[j]?=some x/\pv=y.l/\x.p.depth=d
def mw (ys:List RowB) (b:List PtA) (k:Nat) (c:LU) (d:Nat):Prop:=BPre ys b k c d/\ ∀a,b[k]?=some a->a.p.kind=0/\a.p.depth=0
section
variable {ys:List RowB} {ls:List PtA} {k:Nat} {pv:LU} {d:Nat}
theorem BPre.prev (e:BPre ys ls k pv d):(k=0/\pv=[]/\d=0)\/ ∃j a b,k=j+1/\ys[j]?=some a/\ls[j]?=some b/\pv=a.l/\Value.slice b.A b.p.raw.length b.c= .slice a.A a.l.length a.c/\True/\Value.int .i64 (b.p.depth:Nat)= .int .i64 (d:Int):=by
 cases k with
 | zero=>exact .inl ⟨rfl,e.zero rfl⟩
 | succ j=>
 obtain ⟨f,m,g,h,n,o⟩:=e.last j rfl;obtain ⟨t,i,_,q,r,s,_⟩:=e.all j f g;rw [h] at i;obtain rfl:=K8 i;exact .inr ⟨j,f,m,rfl,g,h,n,by rw [q,r,s],trivial,by rw [o]⟩
theorem BPre.next (a:BPre ys ls k pv d) {y:RowB} {x d'} (i:ys[k]?=some y) (j:ls[k]?=some x) (m:x.p.depth=d'):mw ys ls (k+1) y.l d':=by
 refine ⟨⟨a.len,fun e g b=> ?_,fun n=>qO,fun e n=> ?_⟩,fun g b=> ?_⟩
 ·obtain ⟨h,c,o,q,r,s,f⟩:=a.all e g b;exact ⟨h,c,o,q,r,s,fun t=>f qO⟩
 ·obtain rfl:k=e:=qO;exact ⟨y,x,i,j,rfl,m⟩
 have u:=(c9.1 b).1;have v:=a.len;obtain ⟨h,c,_,_,_,_,f⟩:=a.all (k+1) ys[k+1] (gE qO);rw [b] at c;obtain rfl:=K8 c;exact f qO
theorem BPre.set (a:BPre ys ls k pv d) {x x'} (i:ls[k]?=some x) (n:x'.p.id=x.p.id/\x'.p.raw=x.p.raw/\x'.A=x.A/\x'.c=x.c):BPre ys (ls.set k x') k pv d:=by
 obtain ⟨o,q,r,s⟩:=n;refine ⟨by rw [OJ];exact a.len,fun b t u=> ?_,a.zero,fun b v=> ?_⟩
 ·obtain ⟨g,h,j,e,f,l,w⟩:=a.all b t u;by_cases m:k=b
  ·subst m;rw [i] at h;obtain rfl:=K8 h;exact ⟨x',mu i x',by rw [o,j],by rw [q,e],by rw [r,f],by rw [s,l],fun C=>by omega⟩
  exact ⟨g,by rw [List.getElem?_set_ne m];exact h,j,e,f,l,w⟩
 obtain ⟨y,g,z,B,e,f⟩:=a.last b v;exact ⟨y,g,z,by rw [List.getElem?_set_ne qO];exact B,e,f⟩
end
theorem IE (ys):mw ys (ys.map dg) 0 [] 0:=by
 refine ⟨⟨by simp,fun c a d=>⟨dg a,by simp [d],rfl,rfl,rfl,rfl,fun _=>⟨rfl,rfl⟩⟩,fun _=>⟨rfl,rfl⟩,fun c e=>by omega⟩,fun f b=> ?_⟩;rw [m7,OW] at b;obtain ⟨a,_,rfl⟩:=b;exact ⟨rfl,rfl⟩
section
variable {w w':World} {base:Nat} {e:TypeId} {size n c g:Nat} {xs:List Value}
theorem wO {v} (a:w.ownsRow base e size v n xs) (k):(w.drewN k).ownsRow base e size v n xs:=a
theorem kc (f:w.ownsRow base e size (.slice (some ⟨g,0,none⟩) n c) n xs): ∃a,base<=g/\w.heap[g]?=some (.cells a e (0,0))/\n<=c/\c<=maxLen/\a.size=c*size/\a.toList.take (n*size)=xs:=by
 rcases f.2 with ⟨b,_⟩ | ⟨j,k,a,b,h⟩
 ·injection b with b;cases b
 injection b with d _ i;injection d with d;injection d with d _ _;subst d;subst i;exact ⟨a,h⟩
theorem wP (a:w.ownsRow base e size (.slice (some ⟨g,0,none⟩) n c) n xs):g<w:=by
 obtain ⟨d,_,b,_⟩:=kc a;exact (j7.1 b).1
theorem wQ (a:w.ownsRow base e size (.slice (some ⟨g,0,none⟩) n c) n xs):base<=g:=by
 obtain ⟨d,b,_⟩:=kc a;exact b
theorem cx (d:w.ownsRow base e size (.slice (some ⟨g,0,none⟩) n c) n xs) {i u} (a:xs[i]?=some u):w.cell? ⟨g,i,none⟩=some u:=by
 obtain ⟨f,_,h,_,_,_,b⟩:=kc d;have j:Blk w g e f.toList:=by unfold Blk;rw [h]
 rw [j.cell,<-a,<-b,w7,if_pos];have k:=(c9.1 a).1;rw [<-b,b9] at k;omega
theorem pY (a:w.ownsRow base e size (.slice (some ⟨g,0,none⟩) n c) n xs) {i} (hi:i<xs.length) (u):
  (w.setCell ⟨g,i,none⟩ u).ownsRow base e size (.slice (some ⟨g,0,none⟩) n c) n (xs.set i u)/\w.grownBy (w.setCell ⟨g,i,none⟩ u) (some g)/\w.frozen? ⟨g,i,none⟩=false/\w.cell? ⟨g,i,none⟩=xs[i]?:=by
 obtain ⟨b,j,k,l,m,o,p⟩:=kc a;have d:Blk w g e b.toList:=by unfold Blk;rw [k]
 have q:=d.set i u;refine ⟨⟨by rw [OJ];exact a.1,.inr ⟨g,c,(b.toList.set i u).toArray,rfl,j,q,l,m,by simpa using o,?_⟩⟩,ae (gR w _) i u,d.free i,?_⟩
 ·rw [<-p,List.take_set]
 obtain ⟨f,h⟩: ∃f,xs[i]?=some f:=⟨xs[i],gE hi⟩;rw [h];exact cx a h
theorem pZ {v base2 e2 size2 m zs} (b:w.ownsRow base2 e2 size2 v m zs) (d:w.ownsRow base e size (.slice (some ⟨g,0,none⟩) n c) n xs) (f:e2≠e):v.ownBlock=none\/v.ownBlock≠some g:=by
 obtain ⟨l,_,h,_⟩:=kc d;rcases b.2 with ⟨rfl,_⟩ | ⟨i,o,p,rfl,_,a,_⟩
 ·exact .inl rfl
 refine .inr fun j=> ?_;have k:i=g:=by simpa [Value.ownBlock] using j
 rw [k,h] at a;injection a with a;injection a with _ a;exact f a.symm
theorem IF {A} (a:w.ownsRow base e size (.slice A n c) n xs) (f:0<n): ∃g,A=some ⟨g,0,none⟩:=by
 rcases a.2 with ⟨_,h⟩ | ⟨g,i,j,b,_⟩
 ·omega
 injection b with d _ k;exact ⟨g,d⟩
end
end Go.Dol
namespace Go.Proofs.YtecpbcmpncgokaaGreat
theorem _root_.Go.Dol.Seg.drewQ {w base e size A n c xs} (a:Seg w base e size A n c xs):Seg w.drew base e size A n c xs:=a
theorem qa {w w' base base2 e size n m c v xs ys A} (d:w.ownsRow base e size v n xs) (g:Seg w base2 5 1 A m c ys) (h:e≠5) (i:w.grownBy w' (aT A c)):w'.ownsRow base e size v n xs:=by
 refine d.kept i ?_;rcases d.2 with ⟨rfl,_⟩ | ⟨f,p,q,rfl,_,j,_⟩
 ·exact .inl rfl
 refine .inr fun k=> ?_;have b:some f=aT A c:=k;unfold aT at b;split at b
 ·rcases g.2.2.2 with r | ⟨l,s,t,rfl,_,a,_⟩
  ·omega
  have o:f=l:=by simpa [au] using b
  rw [<-o,j] at a;injection a with a;injection a with _ a;exact h a
 cases b
theorem wR {w ops o a K Q} {j:Prop} (k:o.guard=none) (s xo)
  (l:o.op= .call { callee:=.builtin .append,args:=#[s,xo],argTypes:=#[36,9] })
  (base A n c xs) (m:a.eval s= .slice A n c) (d:Seg w base 5 1 A n c (bc xs))
  (st) (p:a.eval xo= .string ⟨st.toArray⟩) (x:n+st.length<=kaa) (hbase:base<=w)
  (e: ∀(b:LU) (A':OA) (c':Nat) (w':World),Hid (b=xs++st)->Seg w' base 5 1 A' b.length c' (bc b)->Below base w w'->w.grownBy w' (aT A c)->((A'=A/\c'=c)\/au A'=some w.heap.size)->
   K (a.put o.dst (.slice A' b.length c')) w'):if up o (yielded ops a.tmps)=true then Oper.wp Tryz.prog o a w K Q else j:=by
 have q:up o (yielded ops a.tmps)=true:=by simp [up,k]
 rw [if_pos q];have r:(⟨st.toArray⟩:BA).size=st:=by simp [ByteArray.size]
 have f:=Src.ofString (P:=Tryz.prog) (w:=w) l9 ⟨st.toArray⟩;rw [r,vI] at f;refine mf w s xo _ _ l base _ _ 1 1 q7 eh rfl A n c (bc xs) m d _ st (bc st) p f (by unfold maxLen;omega) qO hbase ?_;intro A' c' w' g h t _ _;have y:n=xs:=by have:=d.1;rw [bC] at this;omega
 have i:n+st=(xs++st).length:=by rw [b7];omega
 rw [<-ez,i] at g;rw [i];exact e _ A' c' w' rfl g ((bR _ _).grown h hbase (fun u v=>(d.row u v).1)) h (t.imp id fun e=>e.2)
theorem IG {w ops o a K Q} {j:Prop} (k:o.guard=none) (s xo)
  (l:o.op= .call { callee:=.builtin .append,args:=#[s,xo],argTypes:=#[36,36] })
  (base A n c xs) (p:a.eval s= .slice A n c) (d:Seg w base 5 1 A n c (bc xs))
  (B A2 m c2 news) (q:a.eval xo= .slice A2 m c2) (f:Rd w B 1 A2 m (bc news))
  (x:n+m<=kaa) (hbase:base<=w)
  (e: ∀(b:LU) (A':OA) (c':Nat) (w':World),Hid (b=xs++news)->Seg w' base 5 1 A' b.length c' (bc b)->Below base w w'->w.grownBy w' (aT A c)->((A'=A/\c'=c)\/au A'=some w.heap.size)->
   K (a.put o.dst (.slice A' b.length c')) w'):if up o (yielded ops a.tmps)=true then Oper.wp Tryz.prog o a w K Q else j:=by
 have r:up o (yielded ops a.tmps)=true:=by simp [up,k]
 rw [if_pos r];refine mf w s xo _ _ l base _ _ 1 1 q7 eh rfl A n c (bc xs) p d _ m (bc news) q (Src.ofRd q7 f (fW _)) (by unfold maxLen;omega) qO hbase ?_;intro A' c' w' g h t _ _;have y:n=xs:=by have:=d.1;rw [bC] at this;omega
 have z:m=news:=by have:=f.len;rw [bC] at this;omega
 have i:n+m=(xs++news).length:=by rw [b7];omega
 rw [<-ez,i] at g;rw [i];exact e _ A' c' w' rfl g ((bR _ _).grown h hbase (fun u v=>(d.row u v).1)) h (t.imp id fun e=>e.2)
def IH (ys:List RowB) (w:World) (l i:Value) (wr:World):Prop:=
 ∃(a:Nat) (b:OA) (c:Nat),i= .int .i64 a/\a<=ys/\l= .slice b a c/\wr.ownsRow w 193 5 (.slice b a c) a (rpc ((ys.take a).map dg))/\Hid (∀d∈ys.take a,ah geS d.l=true)/\Below w w wr
def qb (ys:List RowB) (f:OA) (g:Nat) (w:World) (h i:Value) (wr:World):Prop:=
 ∃(k:Nat) (out:LU) (a:OA) (b:Nat) (c:List PtA) (e:LU) (d:Nat),i= .int .i64 k/\k<=ys/\h= .slice a out b/\wr.ownsRow w 5 1 (.slice a out b) out (bc out)/\
  wr.ownsRow w 193 5 (.slice f ys g) ys (rpc c)/\Hid (mw ys c k e d)/\Hid (out++dI e d ((ys.drop k).map (·.l))=bH (ys.map (·.l)))/\d<=7/\out<=100+k*2097252/\Below w w wr
structure BMid (w wr wx:World) (ys:List RowB) (k g cl:Nat) (out:LU) (Ao:OA) (co:Nat) (pv:LU) (d:Nat) (y:RowB) (sid:LU) (kk:Nat) (b:LU) (A:OA) (ls:List PtA) (x:PtA):Prop where
 hx:ls[k]?=some x
 L:wx.ownsRow w 193 5 (.slice (some ⟨g,0,none⟩) ys cl) ys (rpc ls)
 own:wx.ownsRow w 5 1 (.slice Ao out co) out (bc out)
 bel:Below w w wx
 R:Rd wx wx 1 A b (bc b)
 AP:0<b.length-> ∀j,au A=some j->some j≠aT Ao co
 inv:BPre ys ls k pv d
 id:Value.string (idS x.p.id)= .string ⟨sid.toArray⟩
 kd:x.p.kind=kk
 src:Value.slice x.A x.p.raw x.c= .slice y.A y.l y.c
 len:b.length<=kae
 wl:wr.heap.size<=wx
theorem BMid.drewQ {w wr wx ys k g cl out Ao co pv d} {y:RowB} {sid kk b A ls x} (a:BMid w wr wx ys k g cl out Ao co pv d y sid kk b A ls x) (q):BMid w wr (wx.drewN q) ys k g cl out Ao co pv d y sid kk b A ls x:=
 ⟨a.hx,wO a.L q,wO a.own q,a.bel.drewN' q,a.R.drewN q,a.AP,a.inv,a.id,a.kd,a.src,a.len,a.wl⟩
theorem wS {w B n A xs} (b:Rd w B 1 A n xs) (c:0<n) {j} (a:au A=some j):j<B:=by
 obtain ⟨d,f,e,g,_⟩:=b.at_ c;rw [e] at a;injection a with a;have h:d=j:=a;omega
theorem II (A ys c w) (p4:Rd w w.heap.size 1 A ys.length (rc ys)) (f1:Rws w w.heap.size ys) (S2: ∀x∈ys,x.l.length<=140737488351232):
  Calls Tryz.prog 212 #[.slice A ys c] w (vJ w (bl geS (ys.map (·.l)))):=by
 obtain ⟨g1,M0⟩:=gH (bl geS (ys.map (·.l)));rw [<-M0];have q4:=qI S2;clear S2;go_in;by_cases h4:ys.length<=4096
 ·have r4: ¬(4096:Int)<(ys:Int):=qO;go_wp2_with fail;go_loopw [4,5] (fun l i wr=>IH ys w l i wr) (fun _ i _=>ys-(intOf i).toNat)
  case atStart=>exact ⟨0,none,0,rfl,zL,rfl,j9 _ _ _ _,(fun y B=>by simp at B),bR _ _⟩
  case round=>
   obtain ⟨k,N0,n,rfl,T2,rfl,G,O0,C⟩:=hrel;have h1:=C.size;have U2:=qiJ (k+1);by_cases Z:k<ys
   ·have i1:=ltI k ys.length;have s4:=zeI k;obtain ⟨y,B⟩: ∃y,ys[k]?=some y:=⟨ys[k],gE Z⟩;obtain ⟨u,M,rfl,V2,W2⟩:=p4.at_ qO;have B0:=g8 B;obtain ⟨P0,j1,Q1⟩:=f1 y B0;have s0:=q4.out y B0;have X2:=(C.cell (p:=⟨u,M+k,none⟩) V2).trans (W2 k _ (pD B));have C0:=iv y.A y.l y.c wr ((P0.below C).more h1) j1 Q1 s0;have R1:=qI B;clear W2 B B0;cases D0:aZ geS y.l with
    | none=>
     have Q0:ah geS y.l=false:=by unfold ah;rw [D0];rfl
     have t0:Hid (g1=none):=by unfold Hid;rw [M0];exact pA R1.out (.inr Q0)
     rw [D0] at C0;have k1:=qI C0;clear C0 D0 Q0;go_wp2_with fail;refine k1.mono ?_;rintro f Z5 ⟨rfl,l1⟩;go_wp2_with fail;go_ret2;rw [t0];exact ⟨(C.next l1).alloc (C.next l1).size _,rfl⟩
    | some a6=>
    have Q0:ah geS y.l=true:=by unfold ah;rw [D0];rfl
    have t4:Hid (∀S1∈ys.take (k+1),ah geS S1.l=true):=fun S1 E0=>by
     rw [n9 Z] at E0;rcases l7.1 E0 with E0 | E0
     ·exact O0.out S1 E0
     obtain rfl:=i7.1 E0;obtain ⟨_,f⟩:=c9.1 R1.out;rw [f];exact Q0
    have Y2:Hid (rpc ((ys.take (k+1)).map dg)=rpc ((ys.take k).map dg)++(dg y).rcells):=by
     unfold Hid;obtain ⟨_,f⟩:=c9.1 R1.out;rw [n9 Z,p8,wH,f];simp [rpc]
    rw [D0] at C0;have k1:=qI C0;clear C0 D0 Q0 O0;go_wp2_with fail;refine k1.mono ?_;rintro f T1 ⟨u4,v4,d,w4,x4,y4,z4,A4,B4,C4,D4,E4,F4,G4,H4,I4,J4,rfl,_,_,_,a0,_,_,_⟩;obtain ⟨R0,U1⟩:=gX (T1.alloc (.cells #[u4,.slice v4 d w4,.slice x4 y4 z4,A4,.slice B4 C4 D4,E4,F4,G4,H4,I4] 40));have m1:Below T1 T1 R0:=by rw [U1];exact (bR _ _).alloc (lR _) _
    have V1:=(C.next a0).next m1;have Z2:=az (az G a0) m1;have K4:=V1.size;have W1:=(m1.cell (p:=⟨u,M+k,none⟩) (by show u<_;have:=a0.size;omega)).trans ((a0.cell (p:=⟨u,M+k,none⟩) (by show u<_;omega)).trans X2);have L4:u<R0:=qO;have M4:=V2;have n1:=qI (jz y.A y.l y.c R0.drew ((P0.below V1).more K4).drew qO);clear k1 a0 m1 J4 G X2;go_upto_region 8 with (fail);rw [<-U1];clear U1;go_wp2_with fail;refine wp_region_held_drew (S:=fun o=>o.cell? ⟨u,M+k,none⟩=some (.slice y.A y.l y.c)) qkR (W1) (fun hHeld=> ?_);refine tl 0 (.slice N0 k n) ?_;refine tl 1 (.slice (some ⟨u,M,none⟩) ys c) ?_;refine tl 2 (.int .i64 k) ?_;refine tl 3 (.pointer (some ⟨u,M+k,none⟩)) ?_;refine tl 4 (.slice y.A y.l y.c) ?_;refine tl 6 (.slice (some ⟨u,M,none⟩) ys c) ?_;refine tl 7 (.int .i64 k) ?_;refine tl 8 (.pointer (some ⟨u,M+k,none⟩)) ?_;refine tl 9 (.slice y.A y.l y.c) ?_;refine rh 5 fun K hK=> ?_;go_simp;refine (n1.out).mono ?_;rintro f S0 ⟨R,o1,rfl,D⟩;have D:Below R0 R0 S0:=⟨D.os,D.tape,D.output,D.size,D.block⟩;have X1:=(D.cell (p:=⟨u,M+k,none⟩) L4).trans W1;refine hO hK X1 (fun hHeld=> ?_);refine tl 10 (.agg #[.string ⟨R.toArray⟩,i0,i0,i0,.slice y.A y.l y.c]) ?_;have a3:=(az Z2 D).alloc (.cells #[.string ⟨R.toArray⟩,i0,i0,i0,.slice y.A y.l y.c] 193);have Y1:(S0.alloc (.cells #[.string ⟨R.toArray⟩,i0,i0,i0,.slice y.A y.l y.c] 193)).cell? ⟨u,M+k,none⟩=some (.slice y.A y.l y.c):=(F7 S0 _ _ (by show u<_;have:=D.size;omega)).trans X1;have b3:=Rd.newS S0 193 [.string ⟨R.toArray⟩,.int .i64 0,.int .i64 0,.int .i64 0,.slice y.A y.l y.c] 5 rfl;have Z1:=bAl S0 (.cells #[.string ⟨R.toArray⟩,i0,i0,i0,.slice y.A y.l y.c] 193);have j0:(dg y).rcells=[.string ⟨R.toArray⟩,.int .i64 0,.int .i64 0,.int .i64 0,.slice y.A y.l y.c]:=by unfold dg PtA.rcells idS;rw [<-o1];rfl
    have a2:=wI [dg y];rw [show rpc [dg y]=(dg y).rcells by simp [rpc],j0] at a2;have c3:=qI j0;clear j0;refine rh 11 fun K hK=> ?_;go_simp;refine hO hK Y1 (fun hHeld=> ?_);refine rh 12 fun K hK=> ?_;refine ft rfl (.tmp 32) (.tmp 43) 115 193 _ 5 64 rfl Tryz.underlying115 wL rfl (by decide) w _ k _ rfl a3 _ _ 1 1 _ rfl b3 a2 (by unfold maxLen;omega) qO (by have:=D.size;have:=Z1.size;omega) ?_;intro A5 c5 N4 d3 b2 O4 e3 P4;have f3:=(b2.cell (p:=⟨u,M+k,none⟩) M4).trans Y1;refine hO hK f3 (fun hHeld=> ?_);refine tl 13 (.slice A5 (k+1) c5) ?_;refine dn ?_;have l1:=(V1.next (D.trans (Z1.mono (by have:=D.size;omega)))).trans b2;have Q4:N4.ownsRow w 193 5 (.slice A5 (k+1) c5) (k+1) (rpc ((ys.take (k+1)).map dg)):=by rw [Y2,c3];exact d3
    clear d3 Y2 c3 a3 b3 a2 n1 Z2 D Z1 b2 O4 W1 X1 Y1 f3;go_wp2_with fail;exact ⟨⟨k+1,A5,c5,by go_num,qO,rfl,Q4,t4,l1⟩,by simp [intOf];omega⟩
   have R4:=dfX ((k:Int)<ys);have S4:=qF Z;have i1: ¬(k:Int)<ys:=qO;have c2:k=ys:=qO;rw [c2,y7] at G O0;rw [c2] at R4 i1 S4 ⊢;have p1:=O0;have d2:(ys.map dg).length=ys:=by simp
   have e2:wr.ownsRow w 193 5 (.slice N0 ys n) ys (rpc (ys.map dg)):=G;have f2:=qI (wK N0 (ys.map dg) n wr wr (by rw [d2];exact d8 e2) (by rw [d2];omega));rw [d2] at f2;clear c2 G U2 Z O0 T2;go_wp2_with fail;refine f2.mono ?_;rintro f q ⟨T4,rfl,q1,b6,g3⟩;have hb6:Below wr wr q:=by rw [g3];exact (bR _ _).drewN' _
   have T:=az e2 hb6;have b0:=C.next hb6;have g2:cM (ys.map dg)=(ys.map (·.l)).map aw:=by simp [cM,dg]
   clear g3 f2 e2 C hb6;cases T4 with
   | true=>
    have t0:Hid (g1=none):=by
     unfold Hid;rw [M0];unfold bl;rw [if_neg (fun h=>(q1.1 rfl) (by rw [g2];exact h.2.2))]
    clear q1;go_wp2_with fail;go_ret2;rw [t0];exact ⟨b0,rfl⟩
   | false=>
   have U4:Hid (gZ geS (ys.map (·.l))):=by
    refine ⟨by rw [g7];exact h4,fun x N=> ?_,OE fun h=> ?_⟩
    ·obtain ⟨y,B,rfl⟩:=e9.1 N;exact p1.out y B
    have:=q1.2 (by rw [g2];exact h);cases this
   have V4:=ny q;have h2:Below w w (q.alloc (.cells #[.int .u8 68,.int .u8 80,.int .u8 75,.int .u8 49] 5 (4,5))):=b0.alloc b0.size _;have i2:=cj (some ⟨q,0,none⟩) mgL 4 ys (q.alloc (.cells #[.int .u8 68,.int .u8 80,.int .u8 75,.int .u8 49] 5 (4,5))) ((nz q).more (by simp)) (by decide);have h3:aj (ys.length:Int)=ys:=by unfold aj;omega
   rw [h3] at i2;have i3:=qI i2;clear i2 h3 q1 g2;go_wp2_with fail;refine i3.mono ?_;rintro f u0 ⟨j2,j3,k3,W4,rfl,l3,k2,d6,e6⟩;have m3:=h2.next k2;have n3:=W4;have f6:j2.length<=100:=by
    rw [n3,b7];have Z:=aJ 8 ys qO;have l2:mgL.length=4:=rfl;omega
   have o3:=az (T.alloc (.cells #[.int .u8 68,.int .u8 80,.int .u8 75,.int .u8 49] 5 (4,5))) k2;have r1:Hid (qb ys N0 n w (.slice j3 j2 k3) i0 u0):=⟨0,j2,j3,k3,ys.map dg,[],0,rfl,zL,rfl,l3.base h2.size,o3,IE ys,by unfold Hid bH;rw [n3,g7,y8,g9];rfl,qO,qO,m3⟩;clear o3 m3 k2 h2 i3 V4 l3 b0 T;go_wp2_with fail;go_loopw [8,9] (fun X4 i wr=>qb ys N0 n w X4 i wr) (fun _ i _=>ys-(intOf i).toNat)
   case atStart=>exact r1.out
   case round=>
    clear r1;obtain ⟨k,out,H,I,m2,r,d,rfl,T2,rfl,G,c0,hinv,heq,Y4,g6,C⟩:=hrel;have h1:=C.size;have U2:=qiJ (k+1);by_cases Z:k<ys
    ·have i1:=ltI k ys.length;have s4:=zeI k;obtain ⟨y,B⟩: ∃y,ys[k]?=some y:=⟨ys[k],gE Z⟩;obtain ⟨g,rfl⟩:=IF c0 qO;obtain ⟨v0,s1⟩:=hinv.out;obtain ⟨x,N,n2,t1,u1,j0,_⟩:=v0.all k y B;obtain ⟨o2,p2⟩:=s1 x N;have B0:=g8 B;obtain ⟨P0,j1,Q1⟩:=f1 y B0;have q2:=p1.out y B0;have Z4:=dD y.l q2;obtain ⟨h6,i6,p3⟩:=lV q2;have s0:0<y.l.length:=by rw [p3];exact Nat.succ_pos _
     have q3:Hid (ys.drop k=y::ys.drop (k+1)):=by
      obtain ⟨_,f⟩:=c9.1 B;unfold Hid;rw [l8 Z,f]
     have F0:wr.cell? ⟨g,k*5+4,none⟩=some (.slice y.A y.l y.c):=by
      rw [<-t1,<-u1,<-j0];exact cx c0 (bD N 4 qO)
     have r3:=qI (IJ y.A y.l y.c wr ((P0.below C).more h1) qO j1);obtain ⟨sid,v1⟩:=gH (aw y.l);have j6:sid.length<=32:=by rw [v1,ew];exact lR _
     have a5:=wQ c0;have k6:=wP c0;clear p3 q2;go_wp2_with fail;refine r3.mono ?_;rintro f r2 ⟨p,s3,b5,T0,rfl,w1,U,m6,n6,U0⟩;have G0:=az G U;have H0:=az c0 U;have k0:=C.next U;have l0:=U.size;have d5:=k0.size;clear r3;obtain ⟨I0,V⟩:=gH (fE r d y.l);have x1:=qI P0;go_upto_if 69 with (fail);go_cut [10] (fun s2 O=> ∃(W:Nat) (E:LU) (w0:OA) (y1:Nat) (m0:List PtA) (j:PtA),s2= .slice w0 E y1/\W<=1/\Hid (db y.l=(W,E))/\j.p.depth=0/\BMid w wr O ys k g n out H I r d y sid W E w0 m0 j)
     case first=>
      by_cases t3:p.length<y.l
      ·obtain ⟨d0,P,e5,z1⟩:=pY H0 (i:=k*5+1) (by rw [pW,v0.len];omega) (.int .i64 1);obtain ⟨j,X⟩: ∃j:PtA,j={ x with p:={ x.p with kind:=1 } }:=⟨_,rfl⟩;rw [mv qO N (x':=j) (by rw [X];rfl)] at d0;have s:BMid w wr (r2.setCell ⟨g,k*5+1,none⟩ (.int .i64 1)) ys k g n out H I r d y sid 1 p s3 (m2.set k j) j:=
        ⟨mu N j,d0,G0.kept P (pZ G0 H0 (by decide)),k0.trans (ak P a5 d5),(w1.apartRow (lR _) P (fun m i v f=>by have:=U0 m i v;injection f with f;omega)).more P.size,
         fun m i v e=>by have A1:=(s7 G).row i e.symm;have:=U0 m i v;omega,
         v0.set N (x':=j) ⟨by rw [X],by rw [X],by rw [X],by rw [X]⟩,by rw [X,v1,<-n2];rfl,by rw [X],by rw [X,<-t1,<-u1,<-j0],qO,lT l0 P.size⟩
       have F:=qI s;have Q:Hid (db y.l=(1,p)):=by unfold Hid db;rw [<-T0,if_pos t3]
       have V0:j.p.depth=0:=by rw [X];exact p2
       have f5:r2.cell? ⟨g,k*5+1,none⟩=some (.int .i64 0):=by
        rw [z1];exact (bD N 1 qO).trans (by show some (Value.int .i64 (x.p.kind:Nat))=_;rw [o2];rfl)
       clear s d0 P z1 X G0 H0 k0 c0 v0 s1 N T0 w1 U0;go_wp2_with fail;go_meet;exact ⟨1,p,s3,b5,_,j,rfl,lR _,Q,V0,F.out⟩
      have Q:Hid (db y.l=(0,y.l)):=by unfold Hid db;rw [<-T0,if_neg t3]
      have s:BMid w wr r2 ys k g n out H I r d y sid 0 y.l y.A m2 x:=
       ⟨N,H0,G0,k0,(x1.out.below k0).more k0.size,fun m i v e=>by have A1:=(s7 G).row i e.symm;have:=wS x1.out m v;omega,v0,by rw [v1,<-n2];rfl,o2,by rw [<-t1,<-u1,<-j0],Z4,l0⟩
      have F:=qI s;clear s G0 H0 k0 c0 v0 s1 T0 w1 U0;go_wp2_with fail;go_meet;exact ⟨0,y.l,y.A,y.c,m2,x,rfl,zL,Q,p2,F.out⟩
     case rest=>
     obtain ⟨W,E,w0,y1,m0,j,rfl,t2,Q,V0,s⟩:=hcut;obtain ⟨u0,u3⟩:=gX wc;rw [<-u3] at s ⊢;clear u3 G0 H0 k0 c0 v0 s1 N T0 w1 U0 F0 n2 t1 u1 j0 o2 p2;have F0:u0.cell? ⟨g,k*5+4,none⟩=some (.slice y.A y.l y.c):=by rw [<-s.src];exact cx s.L (bD s.hx 4 qO)
     have F:=qI s;have u2:=s.bel;clear s;go_upto_region 22 with (fail);go_cut [103] (fun v2 O=>v2= .bool I0/\ ∃g5,O=u0.drewN g5)
     case first=>
      rcases F.out.inv.prev with ⟨h5,B1,i5⟩ | ⟨a,b,e0,C1,W0,x0,X0,Y0,_,Z0⟩
      ·have j5:=dfX (0<k);have h4:Hid (I0=false):=by unfold Hid;rw [V,B1];rfl
       clear h5 B1 i5;go_wp2_with fail;exact z28
      have j5:=dtX (0<k);have k5:IntKind.i64.wrap (k-1)=(a:Int):=by rw [qJ qO];omega
      have m5:=zeI a;have n5:=ltI a ys.length;have J0:=g8 W0;obtain ⟨D1,v3,w3⟩:=f1 b J0;obtain ⟨o6,p6,x3⟩:=lV (p1.out b J0);have w2:u0.cell? ⟨g,a*5+4,none⟩=some (.slice b.A b.l b.c):=by rw [<-Y0];exact cx F.out.L (bD x0 4 qO)
      have x2:u0.cell? ⟨g,a*5+2,none⟩=some (.int .i64 d):=by rw [<-Z0];exact cx F.out.L (bD x0 2 qO)
      have K0:0<b.l.length:=by rw [x3];exact Nat.succ_pos _
      obtain ⟨y3,z3,A3,q6,B3⟩:=(D1.below u2).at_ K0;have C3:=B3 0 _ (bu b.l 0 K0);obtain ⟨D3,E3,F3,r6,G3⟩:=(x1.out.below u2).at_ s0;have H3:=G3 0 _ (bu y.l 0 s0);obtain ⟨E1,y2⟩:=gX ((y.l[0]'s0).toNat);obtain ⟨F1,z2⟩:=gX ((b.l[0]'K0).toNat);rw [<-y2] at H3;rw [<-z2] at C3;have o5: ∀o:World,(Instr.indexAt 36 (.slice b.A b.l b.c) i0).run Tryz.prog o= .ok (.pointer (some ⟨y3,z3+0,none⟩)) o:=fun o=>by rw [A3];exact mg y3 z3 b.l b.c 0 0 rfl o K0
      have p5: ∀o:World,(Instr.indexAt 36 (.slice y.A y.l y.c) i0).run Tryz.prog o= .ok (.pointer (some ⟨D3,E3+0,none⟩)) o:=fun o=>by rw [F3];exact mg D3 E3 y.l y.c 0 0 rfl o s0
      have I3:E1=F1↔b.l.head?=y.l.head?:=by
       rw [y2,z2];exact ID K0 s0
      rw [Oe] at C3 H3 o5 p5;have J3:=qI I3;have q5:=qI K0;have L0:Hid (r=b.l):=X0;clear B3 G3 y2 z2 I3 C1 X0 F3 A3 x3 x0 Y0 Z0 W0;by_cases a1:E1=F1
      ·have r5:((E1:Int)==F1)=true:=by rw [a1];exact beq_self_eq_true _
       have s5:Hid (b.l.head?=y.l.head?):=J3.1 a1;subst a1;by_cases A2:d<7
       ·have s6:(d:Int)<7:=qO;have h4:Hid (I0=true):=by unfold Hid;rw [V,jP,L0];exact ⟨q5.out,s5.out,A2⟩
        go_wp2_with fail;exact z28
       have t6:=dfX ((d:Int)<7);have h4:Hid (I0=false):=by
        unfold Hid;rw [V];exact J8.2 fun h=>A2 (jP.1 h).2.2
       clear A2;go_wp2_with fail;exact z28
      have r5:((E1:Int)==F1)=false:=beq_eq_false_iff_ne.2 qO;have h4:Hid (I0=false):=by
       unfold Hid;rw [V];refine J8.2 fun h=>a1 (J3.2 ?_);have:=(jP.1 h).2.1;rw [L0] at this;exact this
      clear a1;go_wp2_with fail;exact z28
     case rest=>
     obtain ⟨rfl,t5,K3⟩:=hcut;obtain ⟨n0,B2⟩:=gX wc;have z:Hid (BMid w wr n0 ys k g n out H I r d y sid W E w0 m0 j):=by rw [B2,K3];exact F.out.drewQ t5
     rw [<-B2];clear B2 K3 F F0 u2 u0
     try go_upto_if 103 with (fail)
     go_cut [10,12] (fun s2 u6 O=> ∃(kk:Nat) (t:LU) (y0:OA) (C2:Nat) (u5:List PtA) (J:PtA),s2= .slice y0 t C2/\kk<=2/\Hid (aO r d y.l=(kk,t))/\J.p.depth=aI d kk/\BMid w wr O ys k g n out H I r d y sid kk t y0 u5 J)
     case first=>
      cases I0 with
      | false=>
       have o0:Hid (aO r d y.l=(W,E)):=by unfold Hid;rw [IC (by rw [<-V];simp),Q]
       go_wp2_with fail;go_meet;exact ⟨W,E,w0,y1,m0,j,rfl,qO,o0,by rw [V0,wN t2],z.out⟩
      | true=>
      obtain ⟨a,b,e0,C1,W0,x0,X0,Y0,Z0⟩: ∃a b e0,k=a+1/\ys[a]?=some b/\m0[a]?=some e0/\r=b.l/\Value.slice e0.A e0.p.raw.length e0.c= .slice b.A b.l.length b.c/\Value.int .i64 (e0.p.depth:Nat)= .int .i64 d:=by
       rcases z.out.inv.prev with ⟨_,B1,_⟩ | ⟨a,b,e0,w5,x5,y5,z5,B5,_,C5⟩
       ·have:=V.out;rw [B1] at this;cases this
       exact ⟨a,b,e0,w5,x5,y5,z5,B5,C5⟩
      have k5:IntKind.i64.wrap (k-1)=(a:Int):=by rw [qJ qO];omega
      have m5:=zeI a;have n5:=ltI a ys.length;have J0:=g8 W0;obtain ⟨D1,v3,w3⟩:=f1 b J0;have w6:=dD b.l (p1.out b J0);have D2:=wP z.out.L;have L3:=z.out.bel.size;have w2:n0.cell? ⟨g,a*5+4,none⟩=some (.slice b.A b.l b.c):=by rw [<-Y0];exact cx z.out.L (bD x0 4 qO)
      have x2:n0.cell? ⟨g,a*5+2,none⟩=some (.int .i64 d):=by rw [<-Z0];exact cx z.out.L (bD x0 2 qO)
      have F0:n0.cell? ⟨g,k*5+4,none⟩=some (.slice y.A y.l y.c):=by rw [<-z.out.src];exact cx z.out.L (bD z.out.hx 4 qO)
      have M3:=qI (IK b.A b.l b.c y.A y.l y.c n0.drew ((D1.below z.out.bel).more L3).drew ((x1.out.below z.out.bel).more L3).drew qO qO v3 w3 j1 Q1);have L0:Hid (r=b.l):=X0;have D5:=qI C1;clear X0 C1 x0 Y0 Z0 W0 J0 D1;go_wp2_with fail;refine wp_region_held_drew (S:=fun o=>o.cell? ⟨g,a*5+4,none⟩=some (.slice b.A b.l b.c)/\o.cell? ⟨g,k*5+4,none⟩=some (.slice y.A y.l y.c)) qkR (⟨w2,F0⟩) (fun hHeld=> ?_);refine tl 0 (.slice (some ⟨g,0,none⟩) ys n) ?_;refine tl 1 (.int .i64 k) ?_;refine tl 2 (.int .i64 a) ?_;refine tl 3 (.pointer (some ⟨g,a*5,none⟩)) ?_;refine tl 4 (.pointer (some ⟨g,a*5+4,none⟩)) ?_;refine tl 5 (.slice b.A b.l b.c) ?_;refine tl 6 (.slice (some ⟨g,0,none⟩) ys n) ?_;refine tl 7 (.int .i64 k) ?_;refine tl 8 (.pointer (some ⟨g,k*5,none⟩)) ?_;refine tl 9 (.pointer (some ⟨g,k*5+4,none⟩)) ?_;refine tl 10 (.slice y.A y.l y.c) ?_;refine rh 11 fun K hK=> ?_;go_simp;refine (M3.out).mono ?_;rintro f q ⟨p0,G1,N3,b1,rfl,hr6,hb6,x6,y6,E2⟩;have hb6:Below n0 n0 q:=⟨hb6.os,hb6.tape,hb6.output,hb6.size,hb6.block⟩;have O3:=(hb6.cell (p:=⟨g,a*5+4,none⟩) D2).trans w2;have E5:=(hb6.cell (p:=⟨g,k*5+4,none⟩) D2).trans F0;refine hO hK (⟨O3,E5⟩) (fun hHeld=> ?_);refine tl 12 (.slice G1 p0 N3) ?_;refine dn ?_;have hs6:=hb6.size;obtain ⟨q0,F2,G2,H2,I2,J2,z0,r0,e,H1,F5,G5⟩:=z.out;have T:=az F2 hb6;have c1:=az G2 hb6;have b0:=H2.next hb6;have H5:=(hb6.cell (p:=⟨g,a*5+2,none⟩) D2).trans x2;clear M3 x2 O3;by_cases P3:p0.length<E
      ·have I5:(p0:Int)<E:=qO;have o0:Hid (aO r d y.l=(2,p0)):=by
        unfold Hid aO;rw [if_pos ⟨V.symm,by rw [Q,L0,<-b1];exact P3⟩,L0,<-b1]
       have z6:=qiJ (d+1);obtain ⟨d0,P,e5,z1⟩:=pY T (i:=k*5+1) (by rw [pW,z0.len];omega) (.int .i64 2);rw [mv qO q0 (x':={ j with p:={ j.p with kind:=2 } }) rfl] at d0;have K2:=mu q0 { j with p:={ j.p with kind:=2 } };obtain ⟨L2,I1,B6,J5⟩:=pY d0 (i:=k*5+2) (by rw [pW,OJ,z0.len];omega) (.int .i64 (d+1));obtain ⟨J,Y⟩: ∃J:PtA,J={ j with p:={ j.p with kind:=2,depth:=d+1 } }:=⟨_,rfl⟩;rw [mv qO K2 (x':=J) (by rw [Y];rfl),List.set_set] at L2;have C6:(q.setCell ⟨g,k*5+1,none⟩ (.int .i64 2)).cell? ⟨g,a*5+2,none⟩=some (.int .i64 d):=(G8 q _ _ _ (fun f=>by injection f with _ f _;have:=D5.out;omega)).trans H5;have Q3:=wQ T;have K5:(q.setCell ⟨g,k*5+1,none⟩ (.int .i64 2)).heap.size=q:=by simp
       have J1: ∀i,0<p0.length->au G1=some i->n0.heap.size<=i:=fun i m v=>E2 m i v;have s:BMid w wr ((q.setCell ⟨g,k*5+1,none⟩ (.int .i64 2)).setCell ⟨g,k*5+2,none⟩ (.int .i64 (d+1))) ys k g n out H I r d y sid 2 p0 G1 (m0.set k J) J:=by
        have R3:=c1.kept P (pZ c1 T (by decide));have L5:=ak P Q3 (by omega:w.heap.size<=q);refine ⟨mu q0 J,L2,R3.kept I1 (pZ R3 d0 (by decide)),(b0.trans L5).trans (ak I1 Q3 qO),?_,?_,z0.set q0 (x':=J) ⟨by rw [Y],by rw [Y],by rw [Y],by rw [Y]⟩,by rw [Y];exact r0,by rw [Y],by rw [Y];exact H1,qO,by simp;omega⟩
        ·have A1:=(hr6.apartRow (lR _) P (fun m i v f=>by have:=J1 i m v;injection f with f;omega)).apartRow qO I1 (fun m i v f=>by have:=J1 i m v;injection f with f;omega);exact A1.more (by simp)
        intro m i v e;have A1:=(s7 G).row i e.symm;have:=J1 i m v;omega
       have F:=qI s;have M5:J.p.depth=aI d 2:=by rw [Y];rfl
       have f5:=cx T (bD q0 1 qO);have D6:(q.setCell ⟨g,k*5+1,none⟩ (.int .i64 2)).cell? ⟨g,k*5+2,none⟩=some (.int .i64 (j.p.depth:Nat)):=cx d0 (bD K2 2 qO);clear s d0 P z1 L2 I1 J5 K2 Y q0 F2 G2 H2 I2 J2 z0 r0 e H1 T c1 b0 hr6 E2 Q z V J1 b1 K5 hb6;go_wp2_with fail;go_meet;exact ⟨2,p0,G1,N3,_,J,rfl,lR _,o0,M5,F.out⟩
      have I5: ¬(p0:Int)<E:=qO;have o0:Hid (aO r d y.l=(W,E)):=by
       unfold Hid aO;rw [if_neg (fun h=>P3 (by have l2:=h.2;rw [Q,L0,<-b1] at l2;exact l2)),Q]
      have F:Hid (BMid w wr q ys k g n out H I r d y sid W E w0 m0 j):=⟨q0,T,c1,b0,(I2.below hb6).more hs6,J2,z0,r0,e,H1,F5,lT G5 hs6⟩;clear q0 F2 G2 H2 I2 J2 z0 r0 e H1 T c1 b0 hr6 E2 Q z V b1 hb6;go_wp2_with fail;go_meet;exact ⟨W,E,w0,y1,m0,j,rfl,qO,o0,by rw [V0,wN t2],F.out⟩
     case rest=>
     obtain ⟨kk,t,y0,C2,K1,N5,rfl,E6,o0,S3,T3⟩:=hcut;obtain ⟨vt,U3⟩:=gX wc;rw [<-U3] at T3 ⊢;obtain ⟨hxT,L1,V3,M2,M1,W3,X3,Y3,Z3,_,F6,_⟩:=T3;have d1:=qI W3;have N2:Hid (0<t.length-> ∀a,au y0=some a->a<vt.heap.size):=fun m i v=>wS M1 m v;have a4:Value.int .i64 (N5.p.kind:Nat)= .int .i64 kk:=by rw [Z3]
     have O5:Hid (mw ys K1 (k+1) y.l (aI d kk)):=X3.next B hxT S3;clear U3 W3 X3 S3 Z3 z Q V0 t2 V;have G6:=M2.size;have e1:=(s7 V3).drewQ;have O2:vt.drew.ownsRow w 193 5 (.slice (some ⟨g,0,none⟩) ys n) ys (rpc K1):=L1;have HXID:=qI Y3;have HXKK:=qI a4;have ct0:vt.cell? ⟨g,k*5,none⟩=some (.string ⟨sid.toArray⟩):=by rw [<-HXID];exact cx L1 (bD hxT 0 qO)
     have ct1:vt.cell? ⟨g,k*5+1,none⟩=some (.int .i64 kk):=by rw [<-HXKK];exact cx L1 (bD hxT 1 qO)
     have H6:IntKind.u8.wrap kk=(kk:Int):=by
      unfold IntKind.wrap;simp [IntKind.bits,IntKind.signed];omega
     clear Y3 a4;go_upto_region 28 with (fail);go_cut [8] (fun v2 O=> ∃(l6:LU) (A6:OA) (c6:Nat),v2= .slice A6 l6 c6/\l6.length<=out+33/\Hid (l6=out++(sid++[UInt8.ofNat kk]))/\Seg O w 5 1 A6 l6 c6 (bc l6)/\O.ownsRow w 193 5 (.slice (some ⟨g,0,none⟩) ys n) ys (rpc K1)/\Rd O O.heap.size 1 y0 t (bc t)/\Below w w O)
     case first=>
      refine wp_region_held_drew (S:=fun o=>o.cell? ⟨g,k*5,none⟩=some (.string ⟨sid.toArray⟩)/\o.cell? ⟨g,k*5+1,none⟩=some (.int .i64 kk)) qkR (⟨ct0,ct1⟩) (fun hHeld=> ?_);refine tl 0 (.slice H out I) ?_;refine tl 1 (.slice (some ⟨g,0,none⟩) ys n) ?_;refine tl 2 (.int .i64 k) ?_;refine tl 3 (.pointer (some ⟨g,k*5,none⟩)) ?_;refine tl 4 (.pointer (some ⟨g,k*5,none⟩)) ?_;refine tl 5 (.string ⟨sid.toArray⟩) ?_;refine tl 7 (.slice (some ⟨g,0,none⟩) ys n) ?_;refine tl 8 (.int .i64 k) ?_;refine tl 9 (.pointer (some ⟨g,k*5,none⟩)) ?_;refine tl 10 (.pointer (some ⟨g,k*5+1,none⟩)) ?_;refine tl 11 (.int .i64 kk) ?_;refine tl 12 (.int .u8 kk) ?_;refine rh2 6 13 (fun K hK=> ?_) fun K hK=> ?_
      ·skip
       refine wR rfl (.tmp 137) (.tmp 142) rfl w.heap.size H out I out rfl e1 sid rfl qO (by show w.heap.size<=vt;omega) ?_;intro l5 A5 c5 v5 hl5 l0 U f0 P2;have A0:=qa O2 e1 (by decide) f0;have d50:v5.cell? ⟨g,k*5,none⟩=some (.string ⟨sid.toArray⟩):=by rw [<-HXID];exact cx A0 (bD hxT 0 qO)
       have d51:v5.cell? ⟨g,k*5+1,none⟩=some (.int .i64 kk):=by rw [<-HXKK];exact cx A0 (bD hxT 1 qO)
       refine hO hK (⟨d50,d51⟩) (fun hHeld=> ?_);have hLT6:=A0.alloc (.cells #[.int .u8 kk] 5);have d60:(v5.alloc (.cells #[.int .u8 kk] 5)).cell? ⟨g,k*5,none⟩=some (.string ⟨sid.toArray⟩):=by rw [<-HXID];exact cx hLT6 (bD hxT 0 qO)
       have d61:(v5.alloc (.cells #[.int .u8 kk] 5)).cell? ⟨g,k*5+1,none⟩=some (.int .i64 kk):=by rw [<-HXKK];exact cx hLT6 (bD hxT 1 qO)
       refine rh 13 fun K hK=> ?_;go_simp;refine hO hK (⟨d60,d61⟩) (fun hHeld=> ?_);have b4:vt.heap.size<=v5:=f0.size;have hseg6:=l0.alloc (.cells #[.int .u8 kk] 5);have hone:Rd (v5.alloc (.cells #[.int .u8 kk] 5)) (v5+1) 1 (some ⟨v5,0,none⟩) 1 (bc [UInt8.ofNat kk]):=Rd.one v5 _ kk qO qO;have P5:=M1.drew.apartRow (lR _) f0 d1.out;have hr56:=P5.alloc b4 (.cells #[.int .u8 kk] 5);have hb56:Below w w (v5.alloc (.cells #[.int .u8 kk] 5)):=(M2.drew.trans U).trans ((bR _ _).alloc qO _);have hA5n:0<t.length-> ∀a,au y0=some a->some a≠aT A5 c5:=fun m a g0 e=>P2.elim (fun h0=>d1.out m a g0 (by rw [<-h0.1,<-h0.2];exact e)) (fun h0=>(by unfold aT at e;split at e;(rw [h0] at e;injection e with e;have:=N2.out m a g0;have r0:a=vt.heap.size:=e;omega);cases e));exact z226
      skip
      have A0:=O2.alloc (.cells #[.int .u8 kk] 5);have d50:(vt.drew.alloc (.cells #[.int .u8 kk] 5)).cell? ⟨g,k*5,none⟩=some (.string ⟨sid.toArray⟩):=by rw [<-HXID];exact cx A0 (bD hxT 0 qO)
      have d51:(vt.drew.alloc (.cells #[.int .u8 kk] 5)).cell? ⟨g,k*5+1,none⟩=some (.int .i64 kk):=by rw [<-HXKK];exact cx A0 (bD hxT 1 qO)
      go_simp;refine hO hK (⟨d50,d51⟩) (fun hHeld=> ?_);have c4:=e1.alloc (.cells #[.int .u8 kk] 5);refine rh 6 fun K hK=> ?_;refine wR rfl (.tmp 137) (.tmp 142) rfl w.heap.size H out I out rfl c4 sid rfl qO (by simp;omega) ?_;intro l5 A5 c5 v5 hl5 l0 U f0 P2;have hLT6:=qa A0 c4 (by decide) f0;have d60:v5.cell? ⟨g,k*5,none⟩=some (.string ⟨sid.toArray⟩):=by rw [<-HXID];exact cx hLT6 (bD hxT 0 qO)
      have d61:v5.cell? ⟨g,k*5+1,none⟩=some (.int .i64 kk):=by rw [<-HXKK];exact cx hLT6 (bD hxT 1 qO)
      refine hO hK (⟨d60,d61⟩) (fun hHeld=> ?_);have b4:vt.heap.size+1<=v5:=by have:=f0.size;simpa using this
      have Q5: ∀N1,aT H I=some N1->N1<vt.heap.size:=fun N1 h=>(e1.row N1 h).2;have hone:Rd v5 (vt+1) 1 (some ⟨vt,0,none⟩) 1 (bc [UInt8.ofNat kk]):=(Rd.one vt.drew _ kk qO qO).apartRow (by simp) f0 (fun _ a g0 e=>(by injection g0 with g0;have r0:vt.heap.size=a:=g0;have:=Q5 a e.symm;omega));have hseg6:=l0;have hr56:=(M1.drew.alloc (lR _) (.cells #[.int .u8 kk] 5)).apartRow (by simp) f0 d1.out;have hb56:=(M2.drew.trans ((bR _ _).alloc (by show w.heap.size<=vt;omega) _)).trans U;have hA5n:0<t.length-> ∀a,au y0=some a->some a≠aT A5 c5:=fun m a g0 e=>P2.elim (fun h0=>d1.out m a g0 (by rw [<-h0.1,<-h0.2];exact e)) (fun h0=>(by unfold aT at e;split at e;(rw [h0] at e;injection e with e;have:=N2.out m a g0;have r0:a=(vt.drew.alloc (.cells #[.int .u8 kk] 5)).heap.size:=e;rw [Go.World.size_alloc] at r0;have z0:vt.drew.heap.size=vt:=rfl;omega);cases e));exact z226
     case rest=>
     obtain ⟨l6,A6,c6,rfl,hl6n,hl6,hs6,hLT7,hr6,O1⟩:=hcut;obtain ⟨v6,d4⟩:=gX wc;rw [<-d4] at hs6 hLT7 hr6 O1 ⊢;have R5:=bA (c:=C2) hr6;clear d4 ct0 ct1;have S5:(⟨t.toArray⟩:BA).size=t:=by simp [ByteArray.size]
     have T5:(⟨t.toArray⟩:BA).data.toList=t:=by simp
     have Q2:=qI (gF A6 l6 c6 ⟨t.toArray⟩ v6 hs6.rd (by rw [S5];omega));rw [T5] at Q2;go_wp2_with fail;refine Q2.mono ?_;rintro f U5 ⟨P1,e4,f4,g4,rfl,i4,a0,P4,I6⟩;have j4:=az hLT7 a0;have V5:=O1.size;have k4:=O1.trans (a0.mono V5);have W5:=aJ 8 t qO;have X5:P1.length<=l6+9+t:=by rw [g4,b7];unfold text;rw [b7];omega
     have l4:Hid (P1++dI y.l (aI d kk) ((ys.drop (k+1)).map (·.l))=bH (ys.map (·.l))):=by
      unfold Hid;rw [<-heq,q3,List.map_cons,dI,o0,g4,hl6,v1];unfold fL;exact z139
     have m4:aI d kk<=7:=by have:=vy (prev:=r) (raw:=y.l) Y4;rw [o0] at this;exact this
     have n4:qb ys (some ⟨g,0,none⟩) n w (.slice e4 P1 f4) (.int .i64 ((k+1:Nat):Int)) U5:=
      ⟨k+1,P1,e4,f4,K1,y.l,aI d kk,rfl,qO,rfl,i4.base qO,j4,O5,l4,m4,qO,k4⟩
     have r1:=qI n4;clear n4 j4 k4 l4 m4 X5 W5 hs6 a0 hr6 R5 N2 d1 e1 Q2 i4 V3 L1 hLT7 heq q3 M1 O2 O1;go_wp2_with fail;exact ⟨by rw [show ((k:Int)+1)=((k+1:Nat):Int) by omega];exact r1.out,by simp [intOf];omega⟩
    have i1: ¬(k:Int)<ys:=qO;have o4:Hid (out=bH (ys.map (·.l))):=by
     exact z284
    have n1:=qI (jz H out I wr (d8 G) qO);have t0:Hid (g1=some (bH (ys.map (·.l))++aw (bH (ys.map (·.l))))):=by unfold Hid;rw [M0];unfold bl;rw [if_pos U4.out]
    clear heq hinv c0;go_wp2_with (first
     | (go_at_call 123;refine n1.mono ?_;rintro f J6 ⟨R,o1,rfl,R2⟩;have K6:R.length<=32:=(by rw [o1,ew];exact lR _);have L6:=R2.size)
     | (at_builtin;refine et rfl (.tmp 156) (.tmp 158) rfl w.heap.size _ out.length out rfl (az G R2) ⟨R.toArray⟩ rfl (by show out.length+R.toArray.size<=_;simp;omega) (by omega) ?_;intro l5 A5 c5 v5 hl5 l0 U f0 Y5 e3))
    go_ret2;rw [t0];exact ⟨(C.trans (R2.mono h1)).trans U,l5,A5,c5,by unfold Hid;rw [hl5,o4,o1,o4],rfl,l0,Y5,e3⟩
 have r4:=ltI 4096 ys.length;have t0:Hid (g1=none):=by unfold Hid;rw [M0];unfold bl;rw [if_neg (fun h=>by have:=h.1;rw [g7] at this;omega)]
 go_wp2_with fail;go_ret2;rw [t0];exact ⟨bR _ _,rfl⟩
