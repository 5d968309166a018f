/- Walks and laws. Conditions: as stated. -/
import Derived.Test.YtecpbcmpncgokaaGreatDiskM
set_option maxRecDepth 99999
set_option maxHeartbeats 25600000
set_option linter.all false
open Go.RowKit Go.Dol
namespace Go.Dol
theorem Kc {s:BA} (k: ¬s.size<1):((s.extract (s.size-1) s.size).toList==[126])=decide (s.data.toList.getLast?=some 126):=by
 have e:=aC s;obtain ⟨a,c⟩:=gX s.data.toList;have f:(s.extract (s.size-1) s.size).toList=a.drop (s.size-1):=by
  rw [t8,OX,Pf,c];simp only [OC];exact i9 (by rw [b8];omega)
 rw [<-c] at e;rw [f,<-c];obtain ⟨b,g⟩: ∃b,s.size=b+1:=⟨s.size-1,qO⟩;have d:b<a.length:=qO;have h:a.drop b=[a[b]]:=by
  rw [l8 d,p9 qO]
 have i:a.getLast?=some a[b]:=by
  rw [NC,show a-1=b by omega];exact gE d
 rw [g,Nat.add_sub_cancel,h,i];by_cases j:a[b]=126<;>simp [j]
variable {F:Fence} {n:Nat} {P:Program}
def xV {e:Type} (F:Fence) (n:Nat) (P:Program) (gf:Nat) (lb:Array Value) (enc:e->Value) (x:Nat) (l:List e->e->World->Prop) (m:World->World->Prop) (S o:List e->Prop) (w:World):Prop:=
 ∀(i:Nat) (b j:List e->World->Prop) (c:World),Below w w c->(∀a c p,b a c->b a (c.setCell x p))->
  (∀a f g,b a g->l a f g->YieldAt F (n-1) P i #[enc f] g fun h d=>(h= .returned true/\b (a++[f]) d/\m g d)\/(h= .returned false/\j (a++[f]) d))->
  b [] c->CallsIn F n P gf (#[.func (.yield i) #[] #[]]++lb) c fun h d=>(∃q,h= .returned q)/\((∃k,S k/\b k d)\/(∃a,o a/\j a d))
def eC (b:World) (l:Nat):Prop:=∃ a:Go.Obj,b.heap[l]?=some a/\a.isCells=false
structure LoopAt (r:Loop) (D:Nat) (W:World):Prop where
 rec_:W.heap[D+1]?=some (.loop r)
 def_:W.heap[D]?=some (.deferred (some []))
theorem LoopAt.keep {r D B W W'} (a:LoopAt r D W) (b:KeepsFrom B W W') (c:B<=D):LoopAt r D W':=
 ⟨b.same _ _ qO a.rec_ rfl,b.same _ _ c a.def_ rfl⟩
theorem LoopAt.no {r D W} (a:LoopAt r D W):eC W (D+1):=⟨_,a.rec_,rfl⟩
theorem LoopAt.put {r D W} (a:LoopAt r D W) (r'):LoopAt r' D (W.putObj (D+1) (.loop r')):=
 ⟨World.putObj_heap_same (j7.1 a.rec_).1,(NM qO).trans a.def_⟩
theorem LoopAt.cell {r D x W} (a:LoopAt r D W) (b:x<D) (u):LoopAt r D (W.setCell ⟨x,0,none⟩ u):=
 ⟨(F9 W _ u _ (by show D+1≠x;omega)).trans a.rec_,(F9 W _ u _ (by show D≠x;omega)).trans a.def_⟩
theorem Ke {f:Type} {g:Operand} {p:Tmp} {o r:Code} {H:Exit->Act->World->Prop} {a:Act} {w:World}
  (a0:F.round=none) (b0:1<=n) {gf:Nat} {lb:Array Value} (c0:a.eval g= .func (.func gf) #[] lb) (d0:F.fn gf) (e0: ∀args w,(callFunc gf args).run P w= .ok (.enter gf args) w)
  {enc:f->Value} {x:Nat} {z:List f->f->World->Prop} {k:World->World->Prop} {S Q:List f->Prop} {I:World} (f0:xV F (n-1) P gf lb enc x z k S Q I) (g0:x<w)
  (T: ∀{A B C:World},k A B->k B C->k A C) (U: ∀b l i,w.heap.size<=l->eC b l->k b (b.putObj l i)) (V:Below I I w)
  (e s:List f->World->Prop) (W: ∀c b i,e c b->e c (b.alloc i)) (J: ∀c b l i,w.heap.size<=l->eC b l->e c b->e c (b.putObj l i)) (h0: ∀c b u,e c b->e c (b.setCell x u)) (X: ∀c b l i,w.heap.size<=l->eC b l->s c b->s c (b.putObj l i))
  (i0: ∀c y b l i,w.heap.size<=l->eC b l->z c y b->z c y (b.putObj l i)) (j0:e [] w) (q:Tmp)
  (k0: ∀(l:Nat) (y:f) (b:World) (K:Act->World->Prop),K { tmps:=(a.tmps.setIfInBounds p (enc y)).setIfInBounds q (enc y),defers:=[] } b->o.wpIn (F.inRound l) (n-1-1) P (Exit.then K (fun _ _ _=>False)) { tmps:=a.tmps.setIfInBounds p (enc y),defers:=[] } b)
  (l0: ∀(l:Nat) (c:List f) (y:f) (b:World),e c b->z c y b->r.wpIn (F.inRound l) (n-1-1) P (fun E _ t=>match E with | .normal=>KeepsFrom w b t/\k b t/\e (c++[y]) t | .ret=>KeepsFrom w b t/\s (c++[y]) t | _=>False) { tmps:=(a.tmps.setIfInBounds p (enc y)).setIfInBounds q (enc y),defers:=[] } b)
  (m0: ∀(D:Nat) (G:List f) (b:World),w<=D->S G->e G b->b.heap[D]?=some (.deferred (some []))->H .normal { a with defers:={ target:=.collected D,args:=#[] }::a.defers } b)
  (n0: ∀(D:Nat) (c:List f) (b:World),w<=D->Q c->s c b->b.heap[D]?=some (.deferred (some []))->Code.ret.wpIn F n P H { a with defers:={ target:=.collected D,args:=#[] }::a.defers } b):
  (Code.rangeFunc g #[p] o r).wpIn F n P H a w:=by
 refine wpIn_rangeFunc fun L o0=> ?_;rw [a0];let R:LoopState->Option Code->Loop:=fun p0 q0=>{ state:=p0,pending:=q0,fn:=L,tmps:=a.tmps,params:=#[p],assign:=o,body:=r,defers:=w.heap.size };refine ⟨w.heap.size+1,[{ target:=.collected w,args:=#[] }],(w.alloc (.deferred (some []))).alloc (.loop (R .ready none)),{ target:=.fn (.func gf) lb,args:=#[.func (.yield (w.heap.size+1)) #[] #[]] },(w.alloc (.deferred (some []))).alloc (.loop (R .ready none)),gf,
  #[.func (.yield (w.heap.size+1)) #[] #[]]++lb,(w.alloc (.deferred (some []))).alloc (.loop (R .ready none)),run_enterLoop_outer L a.tmps #[p] o r,?_,?_,?_,fun _=>b0,?_⟩
 ·simp only [resolve,c0];simp [go_sem]
 ·intro v0 Y;simp only [Target.leads,M6] at Y;rw [<-Y];exact d0
 ·simp [invoke,go_sem,e0]
 have r0:Below w w ((w.alloc (.deferred (some []))).alloc (.loop (R .ready none))):=((bR _ _).alloc (lR _) _).alloc (by simp) _;have s0:LoopAt (R .ready none) w ((w.alloc (.deferred (some []))).alloc (.loop (R .ready none))):=by
  exact z76
 refine (f0 (w.heap.size+1) (fun c b=>e c b/\LoopAt (R .ready none) w b) (fun c b=>s c b/\LoopAt (R .done (some .ret)) w b) _ (V.trans (r0.mono V.size))
  (fun c b u h=>⟨h0 c b u h.1,h.2.cell g0 u⟩) ?_ ⟨W _ _ _ (W _ _ _ j0),s0⟩).mono ?_
 ·intro c y b h t0;obtain ⟨v,d⟩:=h;refine ⟨L,a.tmps.setIfInBounds p (enc y),o,r,(run_yield (args:=#[enc y]) d.rec_ (by rfl)).trans (by simp [R]),?_⟩;refine roundIn_of_wpIn o0 (k0 _ y b _ ?_);refine ⟨_,run_beginRound d.rec_ rfl,?_⟩;have Z:=d.put (R .busy none);refine wpIn_mono (l0 _ c y _ (J _ _ _ _ qO d.no v) (i0 _ _ _ _ _ qO d.no t0)) ?_;intro E w0 x0 m;cases E with
  | normal=>
   obtain ⟨M,u0,N⟩:=m;have j:=Z.keep M (lR _);exact ⟨_,_,run_endRound none j.rec_,.inl ⟨rfl,⟨J _ _ _ _ qO j.no N,j.put _⟩,T (T (U _ _ _ qO d.no) u0) (U _ _ _ qO j.no)⟩⟩
  | ret=>
   obtain ⟨M,N⟩:=m;have j:=Z.keep M (lR _);exact ⟨_,_,run_endRound (some .ret) j.rec_,.inr ⟨rfl,X _ _ _ _ qO j.no N,j.put _⟩⟩
  | exit y0=>exact m.elim
  | goto z0=>exact m.elim
  | panic A0=>exact m.elim
  | outgrown=>exact m.elim
 rintro E B0 ⟨⟨C0,rfl⟩,(⟨G,O,v,d⟩ | ⟨c,O,v,d⟩)⟩
 ·exact ⟨none,_,run_endLoop d.rec_ (by simp [R]),m0 _ G _ (lR _) O (J _ _ _ _ qO d.no v) (d.put _).def_⟩
 exact ⟨some .ret,_,run_endLoop d.rec_ (by simp [R]),n0 _ c _ (lR _) O (X _ _ _ _ qO d.no v) (d.put _).def_⟩
end Go.Dol
namespace Go.Dol
def dU (l:LU):List (LU):=if a:l.length=0 then [] else l.take 64::dU (l.drop 64)
termination_by l.length
decreasing_by simp only [b8];omega
def aS (l:LU):List (LU):=if l.length=0 then [[]] else dU l
def eB (first:Bool) (l:LU):List (LU):=if first=true then aS l else dU l
theorem wY {first l} (a:first=true\/0<l.length):eB first l=l.take 64::eB false (l.drop 64):=by
 have c:0<l.length->dU l=l.take 64::dU (l.drop 64):=fun a=>by rw [dU,dif_neg qO]
 cases first with
 | true=>
  simp only [eB,if_true,Py,if_false];unfold aS;by_cases b:l.length=0
  ·rw [if_pos b,nZ b];have:dU ([]:LU)=[]:=by rw [dU];rfl
   simp [this]
  rw [if_neg b];exact c qO
 | false=>
 rcases a with a | a
 ·cases a
 simp only [eB,Py,if_false];exact c a
theorem xe {l} (a:l.length=0):eB false l=[]:=by
 unfold eB;rw [if_neg (by decide),dU,dif_pos a]
structure Chunk where
 l:LU
 A:OA
 c:Nat
def Chunk.val (y:Chunk):Value:=.slice y.A y.l y.c
def kp (x:Nat) (a:World):Nat:=hH ((a.cell? x).getD undef)
def kq:Value->Nat
 | .bool true=>1
 | _=>0
variable {F:Fence} {n:Nat} {P:Program}
def kG {h:Type} (F:Fence) (n:Nat) (P:Program) (gf:Nat) (lb:Array Value) (enc:h->Value) (o:Nat) (S:List h->Prop) (w:World):Prop:=
 ∀(j:Nat) (d:Option Nat->List h->World->Prop) (f:World),Below w w f->(∀b e a k,d b e a->Below a.heap.size a k->d b e k)->
  (∀b e l a,d b e a->e.length<o->YieldAt F (n-1) P j #[enc l] a fun i g=>i= .returned true/\d b (e++[l]) g/\a.heap.size<=g.heap.size/\ ∀c,b=some c->g.heap[c]?=a.heap[c]?)->
  (∀b a,Below f f a->(∀c,b=some c->f.heap.size<=c/\c<a.heap.size)->d b [] a)->CallsIn F n P gf (#[.func (.yield j) #[] #[]]++lb) f fun i g=>(∃p,i= .returned p)/\ ∃b m,S m/\d b m g
theorem LoopAt.below {r D W W'} (a:LoopAt r D W) (b:Below W.heap.size W W'):LoopAt r D W':=
 ⟨(b.block _ (j7.1 a.rec_).1).trans a.rec_,(b.block _ (j7.1 a.def_).1).trans a.def_⟩
theorem Am {i:Type} {g:Operand} {p:Tmp} {r s:Code} {G:Exit->Act->World->Prop} {a:Act} {w:World}
  (O:F.round=none) (Q:1<=n) {gf:Nat} {lb:Array Value} (T:a.eval g= .func (.func gf) #[] lb) (U:F.fn gf) (V: ∀args w,(callFunc gf args).run P w= .ok (.enter gf args) w)
  {enc:i->Value} {H:Nat} {S:List i->Prop} {v:World} (W:kG F (n-1) P gf lb enc H S v) (I:Below v v w)
  (e:Option Nat->List i->World->Prop) (X: ∀K b,Below w w b->(∀k,K=some k->w.heap.size<=k/\k<b.heap.size)->e K [] b) (Y: ∀K c b j,e K c b->Below b.heap.size b j->e K c j)
  (x: ∀K c b l Z,w.heap.size<=l->eC b l->e K c b->e K c (b.putObj l Z)) (q:Tmp)
  (a0: ∀(l:Nat) (y:i) (b:World) (K:Act->World->Prop),K { tmps:=(a.tmps.setIfInBounds p (enc y)).setIfInBounds q (enc y),defers:=[] } b->r.wpIn (F.inRound l) (n-1-1) P (Exit.then K (fun _ _ _=>False)) { tmps:=a.tmps.setIfInBounds p (enc y),defers:=[] } b)
  (b0: ∀(l:Nat) (K:Option Nat) (c:List i) (y:i) (b:World),c<H->e K c b->s.wpIn (F.inRound l) (n-1-1) P (fun d _ j=>match d with | .normal=>KeepsFrom w b j/\e K (c++[y]) j/\ ∀k,K=some k->j.heap[k]?=b.heap[k]? | _=>False) { tmps:=(a.tmps.setIfInBounds p (enc y)).setIfInBounds q (enc y),defers:=[] } b)
  (c0: ∀(D:Nat) (K:Option Nat) (u:List i) (b:World),w<=D->S u->e K u b->b.heap[D]?=some (.deferred (some []))->G .normal { a with defers:={ target:=.collected D,args:=#[] }::a.defers } b):
  (Code.rangeFunc g #[p] r s).wpIn F n P G a w:=by
 refine wpIn_rangeFunc fun z d0=> ?_;rw [O];let R:LoopState->Option Code->Loop:=fun e0 f0=>{ state:=e0,pending:=f0,fn:=z,tmps:=a.tmps,params:=#[p],assign:=r,body:=s,defers:=w.heap.size };refine ⟨w.heap.size+1,[{ target:=.collected w,args:=#[] }],(w.alloc (.deferred (some []))).alloc (.loop (R .ready none)),{ target:=.fn (.func gf) lb,args:=#[.func (.yield (w.heap.size+1)) #[] #[]] },(w.alloc (.deferred (some []))).alloc (.loop (R .ready none)),gf,
  #[.func (.yield (w.heap.size+1)) #[] #[]]++lb,(w.alloc (.deferred (some []))).alloc (.loop (R .ready none)),run_enterLoop_outer z a.tmps #[p] r s,?_,?_,?_,fun _=>Q,?_⟩
 ·simp only [resolve,T];simp [go_sem]
 ·intro n0 J;simp only [Target.leads,M6] at J;rw [<-J];exact U
 ·simp [invoke,go_sem,V]
 have A:Below w w ((w.alloc (.deferred (some []))).alloc (.loop (R .ready none))):=((bR _ _).alloc (lR _) _).alloc (by simp) _;have L:((w.alloc (.deferred (some []))).alloc (.loop (R .ready none))).heap.size=w+1+1:=by simp
 have g0:LoopAt (R .ready none) w ((w.alloc (.deferred (some []))).alloc (.loop (R .ready none))):=by
  exact z76
 refine (W (w.heap.size+1) (fun K c b=>e K c b/\LoopAt (R .ready none) w b/\ ∀k,K=some k->w.heap.size+1+1<=k) _ (I.trans (A.mono I.size))
  (fun K c B M h t=>⟨Y K c B M h.1 t,h.2.1.below t,h.2.2⟩) ?_
  (fun K B t m=>⟨X K B (A.trans (t.mono A.size)) (fun k d=>⟨by have:=(m k d).1;rw [L] at this;omega,(m k d).2⟩),g0.below t,fun k d=>by have:=(m k d).1;rw [L] at this;exact this⟩)).mono ?_
 ·intro K c y b h h0;obtain ⟨C,f,N⟩:=h;refine ⟨z,a.tmps.setIfInBounds p (enc y),r,s,(run_yield (args:=#[enc y]) f.rec_ (by rfl)).trans (by simp [R]),?_⟩;refine roundIn_of_wpIn d0 (a0 _ y b _ ?_);refine ⟨_,run_beginRound f.rec_ rfl,?_⟩;have i0:=f.put (R .busy none);refine wpIn_mono (b0 _ K c y _ h0 (x _ _ _ _ _ qO f.no C)) ?_;intro d o0 p0 o;cases d with
  | normal=>
   obtain ⟨m,j0,k0⟩:=o;have E:=i0.keep m (lR _);have l0:=m.size;refine ⟨_,_,run_endRound none E.rec_,rfl,⟨x _ _ _ _ _ qO E.no j0,E.put _,N⟩,?_,fun k d=> ?_⟩
   ·simpa using l0
   have q0:=N k d;rw [NM qO,k0 k d,NM qO]
  | ret=>exact o.elim
  | exit r0=>exact o.elim
  | goto s0=>exact o.elim
  | panic t0=>exact o.elim
  | outgrown=>exact o.elim
 rintro d M ⟨⟨u0,rfl⟩,K,u,m0,C,f,_⟩;exact ⟨none,_,run_endLoop f.rec_ (by simp [R]),c0 _ K u _ (lR _) m0 (x _ _ _ _ _ qO f.no C) (f.put _).def_⟩
open Go.RowKit
section
variable {w w':World} {base:Nat} {e:TypeId} {size n c:Nat} {A:OA} {v:Value} {xs:List Value}
theorem Aq {W x T cs} (h:Blk W x T cs) {l} (hl:eC W l) (o):Blk (W.putObj l o) x T cs:=z99
theorem gG (a:w.ownsRow base e size v n xs) (b: ∀k,v.ownBlock=some k->w'.heap[k]?=w.heap[k]?):w'.ownsRow base e size v n xs:=by
 refine ⟨a.1,?_⟩;rcases a.2 with d | ⟨g,f,h,rfl,i,j,l⟩
 ·exact .inl d
 exact .inr ⟨g,f,h,rfl,i,(b g rfl).trans j,l⟩
theorem cZ (b:w.ownsRow base e size v n xs): ∀k,v.ownBlock=some k->base<=k/\k<w.heap.size:=by
 intro k a;rcases b.2 with ⟨rfl,_⟩ | ⟨d,h,i,rfl,f,g,_⟩
 ·cases a
 have:d=k:=by simpa [Value.ownBlock] using a
 subst this;exact ⟨f,(j7.1 g).1⟩
end
theorem Au {F:Fence} {N P} (w) {ops rest o a Q}
  (L:o.guard=none) (s x t) (g:o.op=Op.call { callee:=Callee.builtin Builtin.append,args:=#[s,x],argTypes:=#[t,t] })
  (base e z bytes) (h:P.underlying t=some (.slice e)) (hi:(P.info? e).map (fun i=>(i.zero,i.size,i.bytes))=some (some z,1,bytes)) (l:z.cells.size=1)
  (A n c xs) (M:a.eval s= .slice A n c) (p:w.ownsRow base e 1 (.slice A n c) n xs) (A2 m c2 news) (O:a.eval x= .slice A2 m c2) (B) (j:Rd w B 1 A2 m news)
  (q: ∀u∈news,u.oneCell'=true) (R:0<m) (r:n+m<=maxLen) (v:(n+m)*bytes<=kaa) (y:base<=w.heap.size)
  (S: ∀A' c' w',w'.ownsRow base e 1 (.slice A' (n+m) c') (n+m) (xs++news)->w.grownBy w' (Value.slice A n c).ownBlock->(∀k,(Value.slice A' (n+m) c').ownBlock=some k->(Value.slice A n c).ownBlock=some k\/k=w.heap.size)->wpListIn F N P ops Q rest (a.put o.dst (.slice A' (n+m) c')) w'):
  wpListIn F N P ops Q (o::rest) a w:=by
 refine wpListIn_plain L fun f0 T=> ?_;obtain ⟨i,C,D,E,G⟩:=info_parts hi;have U:=Src.ofRd (tx:=t) (c:=c2) h j q;obtain ⟨A',c',w',H,g0,h0,V⟩:=qz (P:=P) w base t t o.type e i z 1 bytes h C D E G l A n c xs (s7 p) (.slice A2 m c2) m news U r v y;obtain ⟨I,J,rfl,i0,W⟩:=j.at_ R;have X: ∀d u,news[d]?=some u->w.cell? ((⟨I,J,none⟩:Addr).add d)=some u:=fun d u Y=>by
  have b:=W d u Y;unfold Addr.add;split
  ·rename_i Z;rw [Z] at b;exact b
  exact b
 obtain ⟨j0,k0,K,a0,b0,l0⟩:=run_append_own (P:=P) w base t o.type e i z 1 bytes h C D E G l (by decide) _ n xs p ⟨I,J,none⟩ m c2 news (by have:=j.1;omega) X q r v y;rw [H] at K;injection K with c0 d0;subst c0 d0;unfold Oper.wpIn;refine ⟨?_,?_⟩
 ·simp [Oper.about,g,resolve,Target.leads,NU]
 rw [Oper.semAt_plain F _ _ (by rw [g];intro c e0;cases e0)];simp [execOp,g,resolve,invoke,builtin,M,O,H,Result.andThen];refine T _ _ (S A' c' w' a0 b0 fun k f=> ?_);rcases V with ⟨rfl,rfl⟩ | ⟨_,b⟩
 ·left;cases A' with
  | none=>cases f
  | some a=>simpa [Value.ownBlock] using f
 right;cases A' with
 | none=>cases f
 | some a=>
 simp only [Value.ownBlock,M6] at f;simp only [au,PH,M6] at b;omega
end Go.Dol
namespace Go.Dol
def shd (n:BA):BA:=n++⟨#[126]⟩
def bi (n:BA):Bool:=decide (n.data.toList.getLast?=some 126)
def aR (D:Dk) (s:BA):List (LU)->Int×Dk
 | []=>(0,D)
 | c::r=>if (aF D s c).1≠0 then aF D s c else aR (aF D s c).2 s r
def eG (D:Dk) (n:BA):Int×Dk:=if (bd D (shd n)).1≠0 then bd D (shd n) else bx (bd D (shd n)).2 (shd n) n
def ev (D:Dk) (n:BA) (b:LU):Int×Dk:=if (aR D (shd n) (aS b)).1≠0 then aR D (shd n) (aS b) else eG (aR D (shd n) (aS b)).2 n
def cR (D:Dk) (n:BA) (b:LU):Int×Dk:=if frD D<16+((n.size:Int)+1)+b then (4,D) else ev D n b
def ao (D:Dk) (n:BA) (b:LU):Int×Dk:=
 if ab (shd n)=false\/n.size=0\/bi n=true then (1,D) else if D.dark=true then (5,D) else
  if (aa D.l (shd n)).isSome=true then (if (aB D (shd n)).1≠0 then aB D (shd n) else cR (aB D (shd n)).2 n b) else cR D n b
theorem gJ (D s c r):aR D s (c::r)=if (aF D s c).1≠0 then aF D s c else aR (aF D s c).2 s r:=rfl
theorem gQ (n):(shd n).size=n.size+1:=by
 unfold shd;rw [ByteArray.size_append];rfl
theorem wZ {D s l c} (b:(aR D s l).1=0):aR D s (l++[c])=aF (aR D s l).2 s c:=by
 induction l generalizing D with
 | nil=>
  show (if (aF D s c).1≠0 then aF D s c else (0,(aF D s c).2))=aF D s c;split
  ·rfl
  rename_i a;have e:=Ol.1 a;rw [<-e]
 | cons d g f=>
 rw [List.cons_append,gJ];rw [gJ] at b ⊢;by_cases a:(aF D s d).1≠0
 ·rw [if_pos a] at b;exact absurd b a
 rw [if_neg a] at b;rw [if_neg a,if_neg a];exact f b
theorem xc {D s l r} (b:(aR D s l).1≠0):aR D s (l++r)=aR D s l:=by
 induction l generalizing D with
 | nil=>exact absurd rfl b
 | cons d e c=>
 rw [List.cons_append,gJ];rw [gJ] at b ⊢;by_cases a:(aF D s d).1≠0
 ·rw [if_pos a,if_pos a]
 rw [if_neg a] at b;rw [if_neg a,if_neg a];exact c b
theorem Ki (l):(dU l).flatten=l:=by
 induction c:l.length using Nat.strongRecOn generalizing l with
 | ind d b=>
 rw [dU];split
 ·rename_i a;rw [nZ a];rfl
 rename_i a;rw [M8,b (l.drop 64).length (by rw [b8];omega) _ rfl,r8]
theorem nx (l):(aS l).flatten=l:=by
 unfold aS;split
 ·rename_i a;rw [nZ a];rfl
 exact Ki l
theorem Kj (l): ∀c∈dU l,c.length<=64:=by
 induction d:l.length using Nat.strongRecOn generalizing l with
 | ind e b=>
 intro c a;rw [dU] at a;split at a
 ·cases a
 rcases i8.1 a with rfl | a
 ·rw [b9];omega
 exact b (l.drop 64).length (by rw [b8];omega) _ rfl c a
theorem nv (l): ∀c∈aS l,c.length<=64:=by
 unfold aS;split
 ·intro c a;rw [i7.1 a];simp
 exact Kj l
theorem Kk (l):(dU l).length=(l.length+63)/64:=by
 induction b:l.length using Nat.strongRecOn generalizing l with
 | ind c a=>
 rw [dU];split
 ·simp;omega
 rw [List.length_cons,a (l.drop 64).length (by rw [b8];omega) _ rfl,b8];omega
theorem Kl (l):(aS l).length=max 1 ((l.length+63)/64):=by
 unfold aS;split
 ·rename_i a;rw [a];rfl
 rw [Kk];omega
theorem nw (l):aS l≠[]:=by
 intro a;have:=Kl l;rw [a] at this;simp at this;omega
structure CalmD (D:Dk):Prop where
 ok:OkD D
 left:D.left= -1
 dark:D.dark=false
structure Later (D D':Dk) (k:Nat):Prop where
 calm:CalmD D'
 cap:D'.cap=D.cap
 done:D'.done=D.done+k
theorem qC {D} (a:CalmD D) (l'):aW D l'=(0,{ D with done:=D.done+1,l:=l' }):=by
 unfold aW;rw [a.left];rfl
theorem CalmD.free {D} (a:CalmD D):frD D=D.cap-ar D.l:=a.ok.free
theorem xZ {D} (a:CalmD D) {s} (d:ab s=true) {c} (e:c.length<=64) (f:cJ D s c<=frD D):
  aF D s c=(0,{ D with done:=D.done+1,l:=ag D.l s ((aa D.l s).getD []++c) })/\Later D { D with done:=D.done+1,l:=ag D.l s ((aa D.l s).getD []++c) } 1:=by
 have b:aF D s c=(0,{ D with done:=D.done+1,l:=ag D.l s ((aa D.l s).getD []++c) }):=by
  unfold aF;rw [if_neg (by rw [d];simp;omega),if_neg (by rw [a.dark];decide)];unfold cy;rw [if_neg qO,qC a]
 refine ⟨b,⟨?_,a.left,a.dark⟩,rfl,rfl⟩;have:=a.ok.app s c;rw [b] at this;exact this
theorem Km {D s c b} (a:aa D.l s=some b):cJ D s c=c.length:=by unfold cJ;rw [a];simp
theorem Kn {D s c} (a:aa D.l s=none):cJ D s c=c.length+(16+(s.size:Int)):=by unfold cJ;rw [a]
theorem Ko {D} (a:CalmD D) {s} (m:ab s=true) {acc} (b:aa D.l s=some acc) (cs) (g: ∀c∈cs,c.length<=64) (h:(cs.flatten.length:Int)<=frD D):
  ∃D',aR D s cs=(0,D')/\Later D D' cs.length/\aa D'.l s=some (acc++cs.flatten)/\(∀x,x≠s->aa D'.l x=aa D.l x)/\ar D'.l=ar D.l+cs.flatten.length:=by
 induction cs generalizing D acc with
 | nil=>exact ⟨D,rfl,⟨a,rfl,rfl⟩,by simpa using b,fun _ _=>rfl,by simp⟩
 | cons c w n=>
 rw [M8,b7] at h;obtain ⟨i,d⟩:=xZ a m (g c (j8 ..)) (by rw [Km b];omega);rw [b,NH] at i d;have e:=a.ok.ord;have o:aa (ag D.l s (acc++c)) s=some (acc++c):=by rw [cF e,if_pos rfl]
 have j:ar (ag D.l s (acc++c))=ar D.l+c:=by
  rw [ip e,b];simp only [b7];omega
 obtain ⟨D',p,f,q,r,t⟩:=n (D:={ D with done:=D.done+1,l:=ag D.l s (acc++c) }) d.calm o (fun u v=>g u (k8 _ v)) (by
  rw [d.calm.free];rw [a.free] at h;simp only;rw [j];omega)
 refine ⟨D',?_,⟨f.calm,f.cap,?_⟩,?_,?_,?_⟩
 ·rw [gJ,i,if_neg (by simp)];exact p
 ·rw [f.done,List.length_cons];simp only;omega
 ·rw [q,M8,g9]
 ·intro x k;rw [r x k];show aa (ag D.l s (acc++c)) x=_;rw [cF e,if_neg k]
 rw [t,M8,b7];show ar (ag D.l s (acc++c))+_=_;rw [j];omega
theorem Kp {D} (a:CalmD D) {s} (g:ab s=true) (b:aa D.l s=none) (cs) (n:cs≠[]) (h: ∀c∈cs,c.length<=64) (i:16+(s.size:Int)+cs.flatten.length<=frD D):
  ∃D',aR D s cs=(0,D')/\Later D D' cs.length/\aa D'.l s=some cs.flatten/\(∀x,x≠s->aa D'.l x=aa D.l x)/\ar D'.l=ar D.l+(16+(s.size:Int)+cs.flatten.length):=by
 cases cs with
 | nil=>exact absurd rfl n
 | cons c o=>
 rw [M8,b7] at i;obtain ⟨j,d⟩:=xZ a g (h c (j8 ..)) (by rw [Kn b];omega);rw [b,O9,List.nil_append] at j d;have e:=a.ok.ord;have p:aa (ag D.l s c) s=some c:=by rw [cF e,if_pos rfl]
 have k:ar (ag D.l s c)=ar D.l+(16+(s.size:Int)+c):=by rw [ip e,b]
 obtain ⟨D',q,f,r,t,u⟩:=Ko (D:={ D with done:=D.done+1,l:=ag D.l s c }) d.calm g p o (fun v w=>h v (k8 _ w)) (by
  rw [d.calm.free];rw [a.free] at i;simp only;rw [k];omega)
 refine ⟨D',?_,⟨f.calm,f.cap,?_⟩,?_,?_,?_⟩
 ·rw [gJ,j,if_neg (by simp)];exact q
 ·rw [f.done,List.length_cons];simp only;omega
 ·rw [r,M8]
 ·intro x m;rw [t x m];show aa (ag D.l s c) x=_;rw [cF e,if_neg m]
 rw [u,M8,b7];show ar (ag D.l s c)+_=_;rw [k];omega
theorem Kq {D} (h:CalmD D) {s} (hs:ab s=true) {b} (hl:aa D.l s=some b):bd D s=(0,{ D with done:=D.done+1 }):=by
 unfold bd bK;exact z282
theorem Kr {D} (a:CalmD D) {s n} (c:ab s=true) (e:ab n=true) (f:n.size<=s.size) {b} (d:aa D.l s=some b):
  bx D s n=(0,{ D with done:=D.done+1,l:=ag (am D.l s) n b }):=by
 unfold bx bK;rw [if_neg (by rw [c,e];simp),if_neg (by rw [if_neg (by rw [c];decide),if_neg (by rw [a.dark];decide),d];simp),d,NH];unfold cy;rw [if_neg (by unfold fC;cases aa D.l n<;>simp only<;>omega),qC a]
theorem rC {n} (b:ab (shd n)=true) (d:n.size≠0):ab n=true:=by
 unfold ab at*;simp only [m8,decide_eq_true_eq,Bool.not_eq_true'] at*;have e:=gQ n;refine ⟨⟨qO,qO⟩,?_⟩;have a:=b.2;unfold shd at a;rw [Np,OG] at a;rw [J8] at*;intro c;exact a (by rw [y9] at *; exact l7.2 (.inl c))
theorem nt (n):n≠shd n:=fun a=>by
 have:=gQ n;rw [<-a] at this;omega
theorem tH {D} (p:CalmD D) {n b} (e:ab (shd n)=true) (q:n.size≠0) (r:aa D.l (shd n)=none) (A:16+((n.size:Int)+1)+b.length<=frD D):
  ∃D',ev D n b=(0,D')/\Later D D' ((aS b).length+2)/\aa D'.l n=some b/\aa D'.l (shd n)=none/\(∀x,x≠n->x≠shd n->aa D'.l x=aa D.l x):=by
 have s:=rC e q;have h:=gQ n;have i:=nx b;obtain ⟨a,t,f,g,u,v⟩:=Kp p e r (aS b) (nw b) (nv b) (by rw [i,h];omega);rw [i] at g v;have c:=f.calm;have d:=c.ok.ord;have j:=Kq c e g;have k:CalmD { a with done:=a.done+1 }:=⟨by have:=c.ok.sync (shd n);rw [j] at this;exact this,c.left,c.dark⟩;have m:=Kr (D:={ a with done:=a.done+1 }) k e s (by rw [h];omega) g;have w:CalmD { a with done:=a.done+1+1,l:=ag (am a.l (shd n)) n b }:=⟨by have:=k.ok.ren (shd n) n;rw [m] at this;exact this,c.left,c.dark⟩;refine ⟨{ a with done:=a.done+1+1,l:=ag (am a.l (shd n)) n b },?_,⟨w,f.cap,?_⟩,?_,?_,?_⟩
 ·unfold ev;rw [t,if_neg (by simp)];unfold eG;rw [j,if_neg (by simp)];exact m
 ·show a.done+1+1=_;rw [f.done];omega
 ·show aa (ag (am a.l (shd n)) n b) n=_;rw [cF (dj d),if_pos rfl]
 ·show aa (ag (am a.l (shd n)) n b) (shd n)=_;rw [cF (dj d),if_neg (fun y=>nt n y.symm),eH d,if_pos rfl]
 intro x z o;show aa (ag (am a.l (shd n)) n b) x=_;rw [cF (dj d),if_neg z,eH d,if_neg o];exact u x o
theorem ya {D} (h:CalmD D) {s b} (hl:aa D.l s=some b) (hs:ab s=true):aB D s=(0,{ D with done:=D.done+1,l:=am D.l s })/\Later D { D with done:=D.done+1,l:=am D.l s } 1:=by
 have a:aB D s=(0,{ D with done:=D.done+1,l:=am D.l s }):=by
  unfold aB bK;exact z282
 refine ⟨a,⟨?_,h.left,h.dark⟩,rfl,rfl⟩;have:=h.ok.rem s;rw [a] at this;exact this
theorem tG {D} (f:CalmD D) {n b} (i:ab (shd n)=true->aa D.l (shd n)=none):
  (ao D n b=(1,D))\/(ao D n b=(4,D)/\frD D<16+((n.size:Int)+1)+b.length/\ab (shd n)=true)\/
  (¬frD D<16+((n.size:Int)+1)+b.length/\ab (shd n)=true/\n.size≠0/\ ∃D',ao D n b=(0,D')/\Later D D' ((aS b).length+2)/\aa D'.l n=some b/\aa D'.l (shd n)=none/\(∀x,x≠n->x≠shd n->aa D'.l x=aa D.l x)):=by
 by_cases a:ab (shd n)=false\/n.size=0\/bi n=true
 ·exact .inl (if_pos a)
 have c:ab (shd n)=true:=by
  cases j:ab (shd n) with
  | true=>rfl
  | false=>exact absurd (.inl j) a
 have g:n.size≠0:=fun e=>a (.inr (.inl e));have h:=i c;have e:ao D n b=cR D n b:=by
  unfold ao;rw [if_neg a,if_neg (by rw [f.dark];decide),if_neg (by rw [h];decide)]
 rw [e];unfold cR;by_cases d:frD D<16+((n.size:Int)+1)+b
 ·rw [if_pos d];exact .inr (.inl ⟨rfl,d,c⟩)
 rw [if_neg d];exact .inr (.inr ⟨d,c,g,tH f c g h qO⟩)
end Go.Dol
namespace Go.Proofs.YtecpbcmpncgokaaGreat
theorem xT (n k w) (b:n.size<=140737488355328) (c: -4611686018427387904<=k) (d:k<=4611686018427387904):
  Calls Tryz.prog 134 #[.string n,.int .i64 k] w fun a w'=>a= .returned (.int .i64 (16+(n.size+1)+max k 0))/\w'=w:=by
 have e:IntKind.i64.wrap (16+(n.size+1))=16+((n.size:Int)+1):=qJ qO;have f:IntKind.i64.wrap (16+(n.size+1)+max k 0)=16+((n.size:Int)+1)+max k 0:=qJ qO;go_in;go_wp2_with fail;go_ret;exact ⟨rfl,rfl⟩
theorem Kd (s w) (a:s.size<=maxLen):
  Calls Tryz.prog 186 #[.string s,.string ⟨#[126]⟩] w fun b w'=>b= .returned (.bool (decide (s.data.toList.getLast?=some 126)))/\w'=w:=by
 by_cases c:s.size<1
 ·have d:=dfX ((s.size:Int)>=1);go_in;go_wp2_with fail;go_ret;refine ⟨?_,rfl⟩;have e:s.data.toList=[]:=nZ (by rw [aC];omega);rw [e];rfl
 have d:=dtX ((s.size:Int)>=1);have f:IntKind.i64.wrap (s.size-1)=(s.size:Int)-1:=qJ (by unfold maxLen at a;omega);go_in;go_wp2_with fail;go_ret;refine ⟨?_,rfl⟩;rw [Kc c];rfl
theorem xU (s w) (c:s.size<=maxLen):
  Calls Tryz.prog 117 #[.string s,.string ⟨#[126]⟩] w fun a w'=>a= .returned (.bool (decide (s.data.toList.getLast?=some 126)))/\w'=w:=by
 have b:=Kd s w c;generalize decide (s.data.toList.getLast?=some 126)=r at b ⊢;go_in;go_wp2_with ((go_at_call 186;refine b.mono ?_;rintro a w' ⟨rfl,rfl⟩));go_ret;exact ⟨rfl,rfl⟩
end Go.Proofs.YtecpbcmpncgokaaGreat
namespace Go.Proofs.YtecpbcmpncgokaaGreat
open Go.RowKit Go.Dol Go.Shelf
attribute [local go_sem] Oper.semAt_some
def xW (b:LU) (B:Nat) (a:List Chunk) (y:Chunk) (d:World):Prop:=y.l.length<=64/\Far d B y.A y.l/\y.l<=y.c/\y.c<=maxLen/\ ∃e,aS b=a.map (·.l)++y.l::e
def ChK (B x:Nat) (a b:World):Prop:=(∀c,Blk a x 36 [c]->Blk b x 36 [c])/\ ∀d e,Far a B d e->Far b B d e
def Kf (b:LU) (B x:Nat) (g:List Chunk->World->Prop) (f:Value) (wr:World):Prop:=
 ∃(first:Bool) (d:List Chunk) (a:LU) (e:OA) (c:Nat),f= .bool first/\Blk wr x 36 [.slice e a c]/\Far wr B e a/\a<=c/\c<=maxLen/\Hid (g d wr)/\Hid (aS b=d.map (·.l)++eB first a)
theorem Kg (g:Fence) (n) (O:g.fn 235) (P:g.round=none) (f0:1<=n) (x B b A c w) (i:Blk w x 36 [.slice A b.length c]) (u:Far w B A b) (Q:b<=c) (R:c<=maxLen) (hBx:B<=x):
  xV g n Tryz.prog 235 #[.pointer (some x)] Chunk.val x (xW b B) (ChK B x) (fun S=>S.map (·.l)=aS b) (fun pre=> ∃r,aS b=pre.map (·.l)++r) w:=by
 intro l T g0 h0 j hJc U v;have y:=i.below j i.lt;have z:=u.below j;have C:=qI v;clear i u v j;refine callsIn_of_wp Tryz.func235 rfl O ?_ P;simp only [Tryz.ntmps235,List.size_toArray,List.length_cons,List.length_nil,Nat.reduceAdd,Nat.reduceSub,Array.replicate_succ,Array.replicate_zero,List.push_toArray,List.append_toArray,List.nil_append,List.cons_append];gi_wp2;gi_loopw [3] (fun k wr=>Kf b B x T k wr) (fun k wr=>kp x wr+kq k)
 case atStart=>exact ⟨true,[],b,A,c,rfl,y,z,Q,R,C,qI (by simp [eB])⟩
 case round=>
  clear y z C;obtain ⟨first,pre,q,A2,c2,rfl,hX2,d,D,E,F,m⟩:=hrel;have k0:=hX2.c 0;by_cases hgo:first=true\/0<q.length
  ·obtain ⟨a,V⟩:=gX (min q.length 64);have o:min (q.length:Int) 64=(a:Nat):=qO;have G:a<=q:=qO;obtain ⟨mm,H,i0,j0,⟨W,I,J⟩,_,l0⟩:=fV (k:=a) (min (q.length:Int) 64) o d.1 G D E;obtain ⟨q',A',c',K,m0,n0,hq',_,X,_,o0⟩:=cm (k:=a) (min (q.length:Int) 64) o d.1 G D E;have s:q.take a=q.take 64:=by
    by_cases f:q.length<=64
    ·rw [i9 qO,i9 f]
    rw [show a=64 by omega]
   have L:q.drop a=q.drop 64:=by
    by_cases f:q.length<=64
    ·rw [p9 qO,p9 f]
    rw [show a=64 by omega]
   have t:=wY hgo;have M:xW b B pre ⟨mm,A2,c2⟩ wr:=by
    refine ⟨by show mm.length<=64;omega,d.piece (k:=0) ⟨W,I,J⟩ (lR _) (by show mm.length+0<=q;omega) rfl,I,J,eB false (q.drop 64),?_⟩;rw [m,t];show pre.map (·.l)++q.take 64::_=pre.map (·.l)++mm::_;rw [H,s]
   obtain ⟨Y,Z,a0,b0,c0,hRn⟩:=U pre ⟨mm,A2,c2⟩ wr F.out M;change (Instr.yield l #[.slice A2 mm c2]).run Tryz.prog wr= .ok (.round l Y Z a0 b0) wr at c0;have hfq:=d.piece (k:=0) hq' (lR _) qO X;have hmeas:(first=true->True)/\q'+kq (.bool false)<q+kq (.bool first):=by
    refine ⟨fun _=>trivial,?_⟩;rcases hgo with rfl | hgo
    ·simp only [kq];omega
    have f:q'.length<q:=by rw [K,b8];omega
    cases first<;>simp only [kq]<;>omega
   have hT:Hid (aS b=(pre++[(⟨mm,A2,c2⟩:Chunk)]).map (·.l)++eB false q'):=by
    unfold Hid;rw [m,t,K,L,p8];simp only [List.map_cons,List.map_nil,g9,List.cons_append,List.nil_append];rw [H,s]
   clear V o s L t M;cases first with
   | true=>
    exact z230
   | false=>
   have p0:=hgo.resolve_left (by decide);exact z230
  obtain rfl:first=false:=by cases first with | true=>exact absurd (.inl rfl) hgo | false=>rfl
  have d0:Hid (q.length=0):=by unfold Hid;omega
  have q0:=dfX (0<q.length);clear hgo;gi_wp2;go_end0;refine ⟨⟨_,rfl⟩,.inl ⟨pre,?_,F.out⟩⟩;have N:=m.out;rw [xe d0.out,List.append_nil] at N;exact N.symm
