/- Walks and laws. Conditions: as stated. -/
import Derived.Test.YtecpbcmpncgokaaGreatPressA
set_option maxRecDepth 99999
set_option maxHeartbeats 25600000
set_option linter.all false
open Go.World renaming drew->pp
open Go.Proofs.Tryz renaming prog->an
open Go.Obj renaming cells->Qv
open Go.RowKit Go.Dol
namespace Go.Dol
def aM (b:LU) (n:Nat) (K:LU):List Nat:=(List.range n).filter fun a=>(b.drop a).take 4=K
theorem Hz (b n K):aM b (n+1) K=aM b n K++(if (b.drop n).take 4=K then [n] else []):=by
 unfold aM;rw [List.range_succ,List.filter_append];by_cases a:(b.drop n).take 4=K<;>simp [a]
theorem wy (b n K):(aM b n K).length<=n:=by
 have:=OZ (fun a=>decide ((b.drop a).take 4=K)) (List.range n);rw [List.length_range] at this;exact this
def ic (zs:List Nat):List Value:=zs.map fun a=> .int .i64 (a:Nat)
def kv (K:LU):Value:=.agg (bc K).toArray
theorem wz {K L} (h:kv K=kv L):K=L:=z73
def eU (f:LU->List Nat) (K:LU) (x:Nat) (a:LU):List Nat:=if a=K then f a++[x] else f a
theorem HC (f K x):eU f K x K=f K++[x]:=by unfold eU;rw [if_pos rfl]
theorem pU (f) {K L} (x) (a:L≠K):eU f K x L=f L:=by unfold eU;rw [if_neg a]
def Grp (w:World) (base:Nat) (T:TypeId) (f:LU->List Nat) (b:List (Value×Value)):Prop:=
 (∀a∈b,∃K:LU,K.length=4/\a.1=kv K/\w.ownsRow base T 1 a.2 (f K).length (ic (f K)))/\
 (∀K:LU,K.length=4->(∀a∈b,a.1≠kv K)->f K=[])/\
 b.Pairwise (fun a c=>a.2.ownBlock=none\/a.2.ownBlock≠c.2.ownBlock)
section
variable {w w':World} {base:Nat} {T:TypeId} {f:LU->List Nat} {al:List (Value×Value)}
theorem Grp.keep (a:Grp w base T f al) (d: ∀p∈al,∀(n:Nat) b,w.ownsRow base T 1 p.2 n b->w'.ownsRow base T 1 p.2 n b):Grp w' base T f al:=
 ⟨fun p c=>by obtain ⟨e,g,h,i⟩:=a.1 p c;exact ⟨e,g,h,d p c _ _ i⟩,a.2⟩
theorem Grp.belowW (a:Grp w base T f al) (b:Below w w w'):Grp w' base T f al:=a.keep fun d _ e g c=>az c b
theorem Grp.drewN (a:Grp w base T f al) (n):Grp (w.drewN n) base T f al:=a.keep fun _ _ _ _ b=>b
theorem Grp.alloc (a:Grp w base T f al) (o):Grp (w.alloc o) base T f al:=a.keep fun _ _ _ _ b=>b.alloc o
theorem Grp.at {K v0} (b:Grp w base T f al) (d:K.length=4) (a:((∀p∈al,p.1≠kv K)/\v0= .slice none 0 0)\/(kv K,v0)∈al):w.ownsRow base T 1 v0 (f K).length (ic (f K)):=by
 rcases a with ⟨c,rfl⟩ | a
 ·rw [b.2.1 K d c];exact ⟨by simp [ic],.inl ⟨rfl,rfl⟩⟩
 obtain ⟨i,c,e,g⟩:=b.1 _ a;have h:=wz e;rw [h];exact g
theorem Grp.put {K v0 v' x al'} (h:Grp w base T f al) (v:(al.map Prod.fst).Nodup) (H:K.length=4) (o:((∀p∈al,p.1≠kv K)/\v0= .slice none 0 0)\/(kv K,v0)∈al)
  (I:w.grownBy w' v0.ownBlock) (J:w'.ownsRow base T 1 v' ((f K).length+1) (ic (f K++[x]))) (n:v'.ownBlock=v0.ownBlock\/ ∃g,v'.ownBlock=some g/\w.heap.size<=g) (a:MPut al (kv K) v' al'):
  Grp w' base T (eU f K x) al':=by
 have y: ∀p∈al,p.1≠kv K->p.2.ownBlock=none\/p.2.ownBlock≠v0.ownBlock:=by
  intro p a i;rcases o with ⟨_,rfl⟩ | o
  ·cases q:p.2.ownBlock with
   | none=>exact .inl rfl
   | some g=>exact .inr (by simp [Value.ownBlock])
  obtain ⟨z,A,rfl⟩:=List.append_of_mem o;have j:=Ot.1 h.2.2;rcases l7.1 a with a | a
  ·exact j.2.2 p a (kv K,v0) (by simp)
  rcases i8.1 a with rfl | a
  ·exact absurd rfl i
  have:=(s8.1 j.2.1).1 p a;rcases this with d | d
  ·cases q:p.2.ownBlock with
   | none=>exact .inl rfl
   | some g=>exact .inr (by rw [show v0.ownBlock=none from d];simp)
  exact .inr fun b=>d b.symm
 have r: ∀p∈al,p.1≠kv K->p.2.ownBlock=none\/p.2.ownBlock≠v'.ownBlock:=by
  intro p a i;rcases n with n | ⟨g,n,N⟩
  ·rw [n];exact y p a i
  cases q:p.2.ownBlock with
  | none=>exact .inl rfl
  | some L=>
  obtain ⟨c,_,_,s⟩:=h.1 p a;have:=(s.lt L q).2;rw [n];exact .inr (by intro b;injection b;omega)
 have t: ∀p∈al,p.1≠kv K-> ∃c:LU,c.length=4/\p.1=kv c/\w'.ownsRow base T 1 p.2 (eU f K x c).length (ic (eU f K x c)):=by
  intro p a i;obtain ⟨c,d,B,s⟩:=h.1 p a;have k:c≠K:=fun b=>i (by rw [B,b]);refine ⟨c,d,B,?_⟩;rw [pU f x k];exact s.kept I (y p a i)
 have C: ∃c:LU,c.length=4/\kv K=kv c/\w'.ownsRow base T 1 v' (eU f K x c).length (ic (eU f K x c)):=by
  refine ⟨K,H,rfl,?_⟩;rw [HC,b7,ND];exact J
 rcases a with ⟨D,rfl⟩ | ⟨z,A,O,rfl,rfl⟩
 ·refine ⟨fun p a=> ?_,fun c u l=> ?_,?_⟩
  ·rcases l7.1 a with a | a
   ·exact t p a (D p a)
   have b:p=(kv K,v'):=by simpa using a
   rw [b];exact C
  ·have k:c≠K:=fun b=>l (kv K,v') (by simp) (by rw [b]);rw [pU f x k];exact h.2.1 c u fun p a=>l p (by simp [a])
  refine Ot.2 ⟨h.2.2,by simp,fun p a m e=> ?_⟩;have b:m=(kv K,v'):=by simpa using e
  rw [b];exact r p a (D p a)
 rw [p8,List.map_cons] at v;have E:=E9.1 v;have M:=NP.1 E.2.1;have F: ∀p∈z,p.1≠kv K:=fun p a b=>E.2.2 _ (e9.2 ⟨p,a,b⟩) _ (by simp) rfl;have G: ∀p∈A,p.1≠kv K:=fun p a b=>M.1 (e9.2 ⟨p,a,b⟩);have j:=Ot.1 h.2.2;refine ⟨fun p a=> ?_,fun c u l=> ?_,?_⟩
 ·rcases l7.1 a with a | a
  ·exact t p (by simp [a]) (F p a)
  rcases i8.1 a with rfl | a
  ·exact C
  exact t p (by simp [a]) (G p a)
 ·have k:c≠K:=fun b=>l (kv K,v') (by simp) (by rw [b]);rw [pU f x k];refine h.2.1 c u fun p a=> ?_;rcases l7.1 a with a | a
  ·exact l p (by simp [a])
  rcases i8.1 a with rfl | a
  ·exact fun b=>k (wz b).symm
  exact l p (by simp [a])
 refine Ot.2 ⟨j.1,s8.2 ⟨fun m e=> ?_,(s8.1 j.2.1).2⟩,fun p a m e=> ?_⟩
 ·rcases r m (by simp [e]) (G m e) with d | d
  ·cases P:v'.ownBlock with
   | none=>exact .inl rfl
   | some g=>exact .inr (by rw [d];simp)
  exact .inr fun b=>d b.symm
 rcases i8.1 e with rfl | e
 ·exact r p (by simp [a]) (F p a)
 exact j.2.2 p a m (by simp [e])
end
theorem ms {b n p K}:p∈aM b n K↔p<n/\(b.drop p).take 4=K:=by
 unfold aM;rw [NQ,Nq];simp
theorem wE (b n K):(aM b n K).Pairwise (· < ·):=Ou _ List.pairwise_lt_range
def LgInv (b:LU) (i:Nat) (zs:List Nat) (m d:Nat):Prop:=
 m<=zs/\d<=i/\d<=4096/\(∀a e,a<m->zs[a]?=some e->e+d<i)/\(∀c,d<c->c<=i->(b.drop (i-c)).take 4=(b.drop i).take 4-> ∃a,a<m/\zs[a]?=some (i-c))
theorem LgInv.start (b i):LgInv b i (aM b i ((b.drop i).take 4)) (aM b i ((b.drop i).take 4)).length 0:=by
 refine ⟨lR _,zL,zL,fun c h a d=> ?_,fun e j k f=> ?_⟩
 ·have:=(ms.1 (g8 d)).1;omega
 obtain ⟨c,a,g⟩:=I8 (ms.2 ⟨show i-e<i by omega,f⟩);exact ⟨c,a,by rw [gE a,g]⟩
theorem LgInv.none_between {b i m d d' zs} (f:LgInv b i zs m d) (hi:i+4<=b) (k:d<=d') (l:d'<=i) (g: ∀a,d<a->a<=d'-> ¬ ∃j,j<m/\zs[j]?=some (i-a)):bq b i d'=bq b i d:=by
 have h:d'=d+(d'-d):=qO;rw [h];refine wb _ fun a e n=> ?_;rcases D8 (bT b (i-a) i) 4 with c | c
 ·exact c
 exact absurd (f.2.2.2.2 a e qO ((wd qO hi).2 c)) (g a e qO)
theorem LgInv.end0 {b i d zs} (a:LgInv b i zs 0 d) (hi:i+4<=b):bq b i d=lng b i:=by
 unfold lng;exact (a.none_between hi (Nat.le_min.2 ⟨a.2.2.1,a.2.1⟩) qO fun c _ _ ⟨e,f,_⟩=>by omega).symm
theorem LgInv.endF {b i m d zs} (a:LgInv b i zs m d) (c:(bq b i d).1=259):bq b i d=lng b i:=by
 unfold lng;have e:min 4096 i=d+(min 4096 i-d):=by have:=a.2.1;have:=a.2.2.1;omega
 rw [e,GT c]
theorem LgInv.endW {b i m d p K} (h:LgInv b i (aM b i K) (m+1) d) (hi:i+4<=b) (hp:(aM b i K)[m]?=some p) (g:4096<i-p):bq b i d=lng b i:=by
 unfold lng;refine (h.none_between hi (Nat.le_min.2 ⟨h.2.2.1,h.2.1⟩) qO fun k l n ⟨j,o,hjp⟩=> ?_).symm;have f:=wE b i K;have a:=(c9.1 hjp);have c:=(c9.1 hp);rcases D8 j m with e | e
 ·have:=E8.1 f j m a.1 c.1 e;rw [a.2,c.2] at this;omega
 exact z133
theorem LgInv.step {b i m d p} (h:LgInv b i (aM b i ((b.drop i).take 4)) (m+1) d) (hi:i+4<=b) (hp:(aM b i ((b.drop i).take 4))[m]?=some p) (r:i-p<=4096):
  LgInv b i (aM b i ((b.drop i).take 4)) m (i-p)/\p<i/\bq b i (i-p)=if (bq b i d).1<bT b p i then (bT b p i,i-p) else bq b i d:=by
 have s:=wE b i ((b.drop i).take 4);have g:=(c9.1 hp);have k:=ms.1 (g8 hp);have y:=h.2.2.2.1 m p qO hp;have l: ∀j a,j<m->(aM b i ((b.drop i).take 4))[j]?=some a->a<p:=fun j a c f=>by
  have n:=(c9.1 f);have:=E8.1 s j m n.1 g.1 c;rw [n.2,g.2] at this;exact this
 refine ⟨⟨by have:=h.1;omega,qO,r,fun j a c f=> ?_,fun o t u v=> ?_⟩,k.1,?_⟩
 ·have:=l j a c f;omega
 ·obtain ⟨j,c,hjp⟩:=h.2.2.2.2 o qO u v;refine ⟨j,?_,hjp⟩;rcases D8 j m with e | e
  ·exact e
  exact z133
 have w:4<=bT b (i-((i-p-1)+1)) i:=by
  rw [show i-((i-p-1)+1)=p by omega];exact (wd qO hi).1 k.2
 have x:=h.none_between (d':=i-p-1) hi qO qO fun o t z ⟨j,c,hjp⟩=>by
  rcases D8 j m with e | e
  ·have:=l j _ e hjp;omega
  exact z133
 have q:=GS w;rw [show i-((i-p-1)+1)=p by omega,show (i-p-1)+1=i-p by omega,x] at q;exact q
theorem If (b i d):(bq b i d).1<=259/\(bq b i d).2<=d:=by
 unfold bq;have:=jS b i d;split
 ·exact ⟨this.2.1,this.1⟩
 exact ⟨by simp,by simp⟩
end Go.Dol
namespace Go.Proofs.YtecpbcmpncgokaaGreat
attribute [local irreducible] wpStill
theorem pT {b:LU} {i:Nat} (a:i+4<=b):(b.drop i).take 4=[b[i],b[i+1],b[i+2],b[i+3]]:=by
 rw [l8 qO,l8 qO,l8 qO,l8 qO];rfl
theorem Hx (A b c i w) (q:Rd w w.heap.size 1 A b.length (bc b)) (u:b.length<=kaa) (x:b.length<=c) (hi:i+4<=b.length):
  Calls an 240 #[.slice A b c,.int .i64 i] w fun r w'=>r= .returned (.agg (bc ((b.drop i).take 4)).toArray)/\Below w w w':=by
 obtain ⟨a,d,rfl,y,e⟩:=q.at_ qO;rw [pT hi];have s:=e i _ (bu b i qO);have f:=e (i+1) _ (bu b (i+1) qO);have g:=e (i+2) _ (bu b (i+2) qO);have h:=e (i+3) _ (bu b (i+3) qO);obtain ⟨t,j⟩:=gX (b[i]);obtain ⟨k,l⟩:=gX (b[i+1]);obtain ⟨m,n⟩:=gX (b[i+2]);obtain ⟨o,p⟩:=gX (b[i+3]);rw [<-j] at s ⊢;rw [<-l] at f ⊢;rw [<-n] at g ⊢;rw [<-p] at h ⊢;simp only [bc,List.map_cons,List.map_nil];have z:(i:Int)+4<=c:=qO;have B:=qiJ (i+4);have C: ¬c=i:=qO;have D:i+4-i=4:=qO;have E: ∀w:World,(Instr.arrayAt 293 (.slice (some ⟨a,d+i,none⟩) 4 (c-i))).run an w= .ok (.pointer (some ⟨a,d+i,none⟩)) w:=fun w=>run_arrayAt w _ _ 4 _ 4 _ Pv (lR _);have F:w.cell? ⟨a,d+i+1,none⟩=some (.int .u8 k.toNat):=f;have G:w.cell? ⟨a,d+i+2,none⟩=some (.int .u8 m.toNat):=g;have H:w.cell? ⟨a,d+i+3,none⟩=some (.int .u8 o.toNat):=h;clear j l n p e;go_in;go_wp2_with fail;exact bodyPost_ret (v:=.agg #[.int .u8 t.toNat,.int .u8 k.toNat,.int .u8 m.toNat,.int .u8 o.toNat]) (by simp [results,Tryz.results240,go_sem]) rfl ⟨rfl,(bR _ _).alloc (lR _) _⟩
theorem Hy (fb vm vk A b c k i w B) (a:Blk w fb 233 [.slice A b.length c,vm,vk]) (d:Rd w B 1 A b.length (bc b)) (g:b.length<=kaa) (l:k<i) (hi:i<=b.length):
  Calls an 241 #[.pointer (some fb),.int .i64 k,.int .i64 i] w fun e w'=>e= .returned (.int .i64 (bT b k i:Nat))/\ ∃n,w'=w.drewN n:=by
 go_in;go_wp2_with fail;go_loopw [7] (fun n wr=>wk b k i w n wr) (fun n _=>259-(intOf n).toNat)
 case atStart=>exact ⟨0,0,rfl,qO,qO,fun j hj=>by omega,rfl⟩
 case round=>
  obtain ⟨m,q,rfl,o,r,hs,hwr⟩:=hrel;have hrw:Rd wr B 1 A b (bc b):=by rw [hwr];exact d.drewN q
  have f:Blk wr fb 233 [.slice A b c,vm,vk]:=by rw [hwr];exact a.drewN q
  have s:=f.c 0;exact z215
end Go.Proofs.YtecpbcmpncgokaaGreat
namespace Go.Proofs.YtecpbcmpncgokaaGreat
theorem mq:Go.Maps.Keyed an 293:=
 Go.Maps.Keyed.of_law (deep_law_laid (m:=2) qkR (by decide) (of_decide_eq_true qkR) qkR (by rw [Pv]))
theorem wA (K) (a:K.length=4): ∃b,keyOf an 293 (kv K)=some b:=
 sa (n:=4) Pv qkR qkR z8 qkR ⟨an.types.size-1,by kernel_rfl⟩ K a
theorem mr (w):(zeroValue 41).run an w= .ok eL w:=qkR
theorem HJ:(an.info? 3).map (fun i=>(i.zero,i.size,i.bytes))=some (some (.int .i64 0),1,8):=qkR
structure Bk (T:TypeId) (base:Nat) (w w':World):Prop where
 below:Below base w w'
 keep: ∀(g:Nat) (cs:Array Value) (fz:Nat×Nat),w.heap[g]?=some (Qv cs T fz)->w'.heap[g]?=some (Qv cs T fz)
section
variable {T:TypeId} {base:Nat} {a w w':World}
theorem Bk.refl (T base w):Bk T base w w:=⟨bR _ _,fun _ _ _ b=>b⟩
theorem Bk.size (b:Bk T base w w'):w.heap.size<=w':=b.below.size
theorem wB {w:World} {g o} (b:w.heap[g]?=some o):g<w.heap.size:=(j7.1 b).1
theorem Bk.transB (b:Bk T base a w) (d:Below w w w') (h:base<=w):Bk T base a w':=
 ⟨b.below.trans (d.mono h),fun c e f g=>(d.block c (wB (b.keep c e f g))).trans (b.keep c e f g)⟩
theorem Bk.drew (b:Bk T base a w):Bk T base a w.drew:=⟨b.below.drew,b.keep⟩
theorem Bk.drewN' (b:Bk T base a w) (n):Bk T base a (w.drewN n):=⟨b.below.drewN' n,b.keep⟩
theorem Bk.alloc (b:Bk T base a w) (c:base<=w) (o):Bk T base a (w.alloc o):=b.transB ((bR w w).alloc (lR _) o) c
theorem Bk.grown {row} (f:Bk T base a w) (g:w.grownBy w' row) (h:base<=w) (i: ∀k,row=some k->base<=k) (j: ∀k,row=some k-> ∀(b:Array Value) (c:Nat×Nat),w.heap[k]?≠some (Qv b T c)):Bk T base a w':=
 ⟨f.below.grown g h i,fun d b c l=>by
  have e:=f.keep d b c l;exact (g.block d (wB e) (fun m=>j d m.symm b c e)).trans e⟩
theorem Bk.setCell (d:Bk T base a w) {p} (g:base<=p.block) (h: ∀(b:Array Value) (c:Nat×Nat),w.heap[p.block]?≠some (Qv b T c)) (u):Bk T base a (w.setCell p u):=
 ⟨d.below.setCell g u,fun e b c i=>by
  have f:=d.keep e b c i;exact (F9 w p u e (fun j=>h b c (j▸f))).trans f⟩
theorem Bk.own {n v xs b0 size} (e:Bk T base w w') (b:w.ownsRow b0 T size v n xs):w'.ownsRow b0 T size v n xs:=
 ⟨b.1,b.2.imp id fun ⟨c,f,d,g,h,i,j⟩=>⟨c,f,d,g,h,e.keep c d _ i,j⟩⟩
theorem wC {w B} (b:MapAt w B): ∀k,some B=some k-> ∀(d:Array Value) (e:Nat×Nat),w.heap[k]?≠some (Qv d T e):=by
 rintro k c d e f;obtain ⟨g,h,b⟩:=b;injection c with c;rw [<-c,b] at f;cases f
theorem HO {w g T' cs'} (h:Blk w g T' cs') (hT:T'≠T): ∀(b:Array Value) (c:Nat×Nat),w.heap[g]?≠some (Qv b T c):=by
 intro b c hh;unfold Blk at h;rw [h] at hh;exact z163
theorem HU {w:World} {b0 T' size n} {v:Value} {xs} (f:w.ownsRow b0 T' size v n xs) (g:T'≠T): ∀k,v.ownBlock=some k-> ∀(c:Array Value) (d:Nat×Nat),w.heap[k]?≠some (Qv c T d):=by
 intro k e c d h;rcases f.2 with ⟨rfl,_⟩ | ⟨i,l,m,rfl,_,b,_⟩
 ·cases e
 have j:i=k:=by simpa [Value.ownBlock] using e
 rw [j,h] at b;injection b with b;injection b with _ b;exact g b.symm
end
def Fin (w:World) (base a:Nat) (A:OA) (b:LU) (c n:Nat):Prop:=
 ∃(B:Nat) (d:List (Value×Value)),Blk w a 233 [.slice A b c,.map (some B),(n:Nat)]/\MapL an 293 w B d/\Grp w base 3 (aM b n) d/\base<=a/\base<=B
theorem Fin.belowW {w w' base fb A b c n} (e:Fin w base fb A b c n) (a:Below w.heap.size w w'):Fin w' base fb A b c n:=by
 obtain ⟨f,g,d,h,i,j⟩:=e;exact ⟨f,g,d.below a d.lt,h.belowW a,i.belowW a,j⟩
theorem HV {P w ops o a K Q} {d:Prop} (f:o.guard=none) (s x t e z bytes)
  (g:o.op= .call { callee:=.builtin .append,args:=#[s,x],argTypes:=#[t,t] })
  (h:P.underlying t=some (.slice e)) (hi:(P.info? e).map (fun i=>(i.zero,i.size,i.bytes))=some (some z,1,bytes)) (j:z.cells.size=1)
  (base v n xs) (k:a.eval s=v) (l:w.ownsRow base e 1 v n xs)
  (B A m c news) (p:a.eval x= .slice A m c) (q:Rd w B 1 A m news) (b: ∀u∈news,u.oneCell'=true)
  (r:n+m<=maxLen) (y:(n+m)*bytes<=kaa) (hbase:base<=w.heap.size)
  (C: ∀(A':OA) (c':Nat) (w':World),w'.ownsRow base e 1 (.slice A' (n+m) c') (n+m) (xs++news)->w.grownBy w' v.ownBlock->Hid ((Value.slice A' (n+m) c').ownBlock=v.ownBlock\/(Value.slice A' (n+m) c').ownBlock=some w.heap.size)->
   K (a.put o.dst (.slice A' (n+m) c')) w'):if Region.wanted o (yielded ops a.tmps)=true then Oper.wp P o a w K Q else d:=by
 have D:Region.wanted o (yielded ops a.tmps)=true:=by simp [Region.wanted,f]
 rw [if_pos D];refine hG w s x _ g base _ _ 1 bytes h hi j (by decide) v n xs k l B A m c news p q b r y hbase ?_;intro A' c' w' b E F G H;exact C _ c' w' b E F
theorem Rd.cellOne {w g u} (c:w.cell? ⟨g,0,none⟩=some u):Rd w (g+1) 1 (some ⟨g,0,none⟩) 1 [u]:=by
 refine ⟨by simp,fun _=>⟨g,0,rfl,qO,fun a d b=> ?_⟩⟩;have e:a<1:=by have:=(c9.1 b).1;simpa using this
 obtain rfl:a=0:=qO;have:d=u:=by simpa using b.symm
 rw [this];exact c
def OK:=@Rd.cellOne
theorem HY (b n K) (c:(b.drop n).take 4=K):aM b (n+1)=eU (aM b n) K n:=by
 funext L;rw [Hz,c];unfold eU;by_cases a:L=K
 ·rw [if_pos a.symm,if_pos a]
 rw [if_neg (fun c=>a c.symm),if_neg a,List.append_nil]
theorem HZ {wq w5} {x0 x1 x2 x3:UInt8} (a:Below (pp wq).heap.size (pp wq) w5):
  wq.heap.size<=w5/\Blk (w5.alloc (.cells #[.int .u8 x0.toNat,.int .u8 x1.toNat,.int .u8 x2.toNat,.int .u8 x3.toNat] 293)) w5 293 [.int .u8 x0.toNat,.int .u8 x1.toNat,.int .u8 x2.toNat,.int .u8 x3.toNat]/\
  Below wq wq (w5.alloc (.cells #[.int .u8 x0.toNat,.int .u8 x1.toNat,.int .u8 x2.toNat,.int .u8 x3.toNat] 293)):=
 ⟨a.size,o9 w5 _ [_,_,_,_],((bR wq wq).drew.trans a).alloc a.size _⟩
theorem Ia {wq w5} {x0 x1 x2 x3:UInt8} (a:Below (pp (wq.alloc (.cells #[.int .u8 0,.int .u8 0,.int .u8 0,.int .u8 0] 293))).heap.size (pp (wq.alloc (.cells #[.int .u8 0,.int .u8 0,.int .u8 0,.int .u8 0] 293))) w5):
  wq.heap.size<=wq.heap.size/\Blk ((((w5.setCell ⟨wq.heap.size,0,none⟩ (.int .u8 x0.toNat)).setCell ⟨wq.heap.size,1,none⟩ (.int .u8 x1.toNat)).setCell ⟨wq.heap.size,2,none⟩ (.int .u8 x2.toNat)).setCell ⟨wq.heap.size,3,none⟩ (.int .u8 x3.toNat)) wq.heap.size 293 [.int .u8 x0.toNat,.int .u8 x1.toNat,.int .u8 x2.toNat,.int .u8 x3.toNat]/\
  Below wq.heap.size wq ((((w5.setCell ⟨wq.heap.size,0,none⟩ (.int .u8 x0.toNat)).setCell ⟨wq.heap.size,1,none⟩ (.int .u8 x1.toNat)).setCell ⟨wq.heap.size,2,none⟩ (.int .u8 x2.toNat)).setCell ⟨wq.heap.size,3,none⟩ (.int .u8 x3.toNat)):=by
 have b:Blk (pp (wq.alloc (.cells #[.int .u8 0,.int .u8 0,.int .u8 0,.int .u8 0] 293))) wq 293 [.int .u8 0,.int .u8 0,.int .u8 0,.int .u8 0]:=(o9 wq 293 [_,_,_,_]).drew;have c:=b.below a b.lt;have d:=(((bR wq wq).alloc (lR _) _).drew).trans (a.mono (by show wq<=(wq.alloc _).heap.size;simp));exact ⟨lR _,(((c.set 0 _).set 1 _).set 2 _).set 3 _,(((d.setCell (lR _) _).setCell (lR _) _).setCell (lR _) _).setCell (lR _) _⟩
theorem Ib {w wa w2 w3 base fb B c n A A' b K al al' v0 c'} (s:(b.drop n).take 4=K) (j:K.length=4)
  (e:Blk wa fb 233 [.slice A b.length c,.map (some B),(n:Nat)]) (k:Grp wa base 3 (aM b n) al) (t:(al.map Prod.fst).Nodup) (f:MapAt wa B)
  (l:((∀p∈al,p.1≠kv K)/\v0= .slice none 0 0)\/(kv K,v0)∈al) (a:wa.grownBy w2 v0.ownBlock) (u:w2.ownsRow base 3 1 (.slice A' ((aM b n K).length+1) c') ((aM b n K).length+1) (ic (aM b n K)++[.int .i64 (n:Nat)]))
  (v:Hid ((Value.slice A' ((aM b n K).length+1) c').ownBlock=v0.ownBlock\/(Value.slice A' ((aM b n K).length+1) c').ownBlock=some wa.heap.size)) (x:MapL an 293 w3 B al') (y:MPut al (kv K) (.slice A' ((aM b n K).length+1) c') al')
  (i:w2.grownBy w3 (some B)) (z:Bk 5 base w wa) (I:base<=fb) (J:base<=B) (m:base<=wa):
  ∃al',Blk w3 fb 233 [.slice A b c,.map (some B),(n:Nat)]/\MapL an 293 w3 B al'/\Grp w3 base 3 (aM b (n+1)) al'/\Bk 5 base w w3:=by
 have g:=k.at j l;have C:=f.own_ne g;have o:=f.keepB (a.block B f.lt (fun d=>C d.symm));have D:fb≠B:=by
  rintro rfl;obtain ⟨L,M,q⟩:=f;unfold Blk at e;rw [e] at q;cases q
 refine ⟨al',(e.grown a (fun d=>own_ne g e (by decide) d.symm)).grown i (fun d=>D (by injection d)),x,?_,?_⟩
 ·rw [HY b n K s];have E:ic (aM b n K++[n])=ic (aM b n K)++[.int .i64 (n:Nat)]:=by simp [ic]
  exact (k.put t j l a (by rw [E];exact u) (v.out.imp id fun F=>⟨_,F,lR _⟩) y).keep fun p _ N O G=>o.kept G i
 have H:Bk 5 base w w2:=z.grown a m (fun r h=>(g.lt r h).1) (HU g (by decide));exact H.grown i (lT m a.size) (fun r h=>by injection h with h;omega) (wC o)
theorem Ic {w w3 base fb B c n A b al} (a:Blk w3 fb 233 [.slice A b.length c,.map (some B),(n:Nat)]) (d:MapL an 293 w3 B al) (f:Grp w3 base 3 (aM b (n+1)) al) (g:Bk 5 base w w3)
  (e:base<=fb) (h:base<=B):Fin (w3.setCell ⟨fb,2,none⟩ (.int .i64 (n+1))) base fb A b c (n+1)/\Bk 5 base w (w3.setCell ⟨fb,2,none⟩ (.int .i64 (n+1))):=by
 have i:w3.grownBy (w3.setCell ⟨fb,2,none⟩ (.int .i64 (n+1))) (some fb):=ae (gR _ _) _ _;have j:=a.set 2 (.int .i64 (n+1));exact ⟨⟨B,al,j,d.far (p:=⟨fb,2,none⟩) (fun k=>d.blk_ne a k.symm) _,f.keep fun m _ o p l=>aE l a (by decide) i,e,h⟩,g.setCell (p:=⟨fb,2,none⟩) e (HO a (by decide)) _⟩
theorem wD (A b c i w x0 x1 x2 x3) (d:Hid ((b.drop i).take 4=[x0,x1,x2,x3])) (e:Rd w w.heap.size 1 A b.length (bc b)) (f:b.length<=kaa) (g:b.length<=c) (hi:i+4<=b.length):
  Calls an 240 #[.slice A b c,.int .i64 i] w fun a w'=>a= .returned (.agg #[.int .u8 x0.toNat,.int .u8 x1.toNat,.int .u8 x2.toNat,.int .u8 x3.toNat])/\Below w w w':=by
 refine (Hx A b c i w e f g hi).mono ?_;rintro a w' ⟨rfl,h⟩;rw [d];exact ⟨rfl,h⟩
theorem Ie (base fb A b c n i w) (p:Fin w base fb A b c n) (J0:Rd w base 1 A b.length (bc b)) (m1:b.length<=kah) (K0:b<=c) (H:n<=i) (hi:i+4<=b.length):
  Calls an 239 #[.pointer (some fb),.int .i64 i] w fun j w'=>j= .returned (.tuple #[])/\Fin w' base fb A b c i/\Bk 5 base w w':=by
 have n1:base<=w:=by obtain ⟨B,k,L0,_,_,o1,_⟩:=p;have:=L0.lt;omega
 go_in;go_wp2_with fail;go_loopg [] (i-n) (fun X wr=> ∃a,X=i-a/\a<=i/\Fin wr base fb A b c a/\Bk 5 base w wr)
 case atStart=>exact ⟨n,rfl,H,p,Bk.refl _ _ _⟩
 case round=>
  clear p H;obtain ⟨a,rfl,H,p,I⟩:=hrel;obtain ⟨B,k,q,J,L,M,N⟩:=p;have O:=q.c 0;have r:=q.c 2;have p1:=qiJ (a+4);by_cases q1:a<i
  ·have M0:=dtX ((a:Int)<i);have r1:=ltI a i;have s1:=dtX ((a:Int)+4<=b);have t1:(a:Int)+4<=b:=qO;go_wp2_with fail;go_quiet (fail);go_wp2_with fail;obtain ⟨d,l⟩:=gX (wr.drewN nq);have s:Blk d fb 233 [.slice A b c,.map (some B),(a:Nat)]:=by rw [l];exact q.drewN nq
   have Y:MapL an 293 d B k:=by rw [l];exact J.drewN nq
   have Z:Grp d base 3 (aM b a) k:=by rw [l];exact L.drewN nq
   have C:Bk 5 base w d:=by rw [l];exact I.drewN' nq
   rw [<-l];clear l q J L I O r;have u1:=C.size;have N0:=s.lt;have O:=s.c 0;have r:=s.c 2;have P:Rd d d 1 A b (bc b):=(J0.below C.below).more qO;have Q:=qI (pT (b:=b) (i:=a) qO);obtain ⟨e,a0⟩:=gX (b[a]);obtain ⟨f,b0⟩:=gX (b[a+1]);obtain ⟨g,c0⟩:=gX (b[a+2]);obtain ⟨h,d0⟩:=gX (b[a+3]);rw [<-a0,<-b0,<-c0,<-d0] at Q;clear a0 b0 c0 d0;go_cut [4] (fun O0 e0=> ∃D:Nat,O0= .pointer (some ⟨D,0,none⟩)/\d.heap.size<=D/\Blk e0 D 293 [.int .u8 e.toNat,.int .u8 f.toNat,.int .u8 g.toNat,.int .u8 h.toNat]/\Below d d e0)
   case first=>
    go_region_with
     ((go_at_call 240;refine (wD A b c a _ e f g h Q ?_ qO K0 qO).mono ?_;(first | exact P.drew | exact ((P.alloc (lR _) _).more (by simp)).drew);rintro j m ⟨rfl,E⟩;have P0:=E.size;have v1:d.heap.size<=m:=(by simp at P0;omega);have w1:fb≠m:=qO;have x1: ¬m=fb:=qO;have y1:fb≠d:=qO;have z1: ¬d=fb:=qO;obtain ⟨A1,B1⟩:=Go.Dol.bcell E))
    all_goals
     go_wp2_with fail;go_meet
     first
      | (have R:=(by with_reducible exact HZ (wq:=d) (w5:=m) (x0:=e) (x1:=f) (x2:=g) (x3:=h) E);exact ⟨m,rfl,R⟩)
      | (have R:=Ia (wq:=d) (w5:=m) (x0:=e) (x1:=f) (x2:=g) (x3:=h) E;exact ⟨d,rfl,R⟩)
   case rest=>
    obtain ⟨D,rfl,C1,t,u⟩:=hcut;have o:=s.below u N0;have S:=Y.belowW u;have Q0:=Z.belowW u;have f0:Bk 5 base w wc:=C.transB u qO;have D1:=f0.size;clear s Y Z C O r P u;go_wp2_with fail;have R0:=o.c 1;have r:=o.c 2;have S0:=t.c 0;have T0:=t.c 1;have U0:=t.c 2;have V0:=t.c 3;have E1:=S.lt;have F1:=o.lt;have W0:some fb≠some B:=fun j=>S.blk_ne o (by injection j);have X0:some wc.heap.size≠some B:=fun j=>by injection j;omega
    have Y0:Hid (∃g0,keyOf an 293 (.agg #[.int .u8 e.toNat,.int .u8 f.toNat,.int .u8 g.toNat,.int .u8 h.toNat])=some g0):=wA [e,f,g,h] rfl;have G1:=wy b a [e,f,g,h];have v:=(S.alloc (.cells #[(a:Nat)] 3)).drew;have h0:=(o.alloc (.cells #[(a:Nat)] 3)).drew;have i0:Grp (pp (wc.alloc (.cells #[(a:Nat)] 3))) base 3 (aM b a) k:=(Q0.alloc (.cells #[(a:Nat)] 3)).drewN 1;have j0:Bk 5 base w (pp (wc.alloc (.cells #[(a:Nat)] 3))):=(f0.alloc qO _).drew;have Z0:(pp (wc.alloc (.cells #[(a:Nat)] 3))).heap.size=wc+1:=by show (wc.alloc _).heap.size=_;simp
    have k0:(pp (wc.alloc (.cells #[(a:Nat)] 3))).cell? wc=some (.int .i64 (a:Nat)):=by rw [(o9 wc 3 [(a:Nat)]).drew.cell];rfl
    obtain ⟨g0,a1⟩:=Y0.out;obtain ⟨l0,m0,x,n0,y,F,T,o0⟩:=v.entry mq OL mr a1;have b1:(Instr.mapEntry 231 (.map (some B)) (.agg #[.int .u8 e.toNat,.int .u8 f.toNat,.int .u8 g.toNat,.int .u8 h.toNat])).run an (pp (wc.alloc (.cells #[(a:Nat)] 3)))= .ok (.tuple #[l0,(m0:Nat)]) x:=n0;have p0:=h0.grown y W0;have U:Grp x base 3 (aM b a) k:=i0.keep (fun H1 _ n I1 c1=>v.is.kept c1 y);have q0:Bk 5 base w x:=j0.grown y qO (fun X r0=>by injection r0 with r0;omega) (wC v.is);have s0:=(k7 (y.block wc qO X0)).trans k0;have J1:=y.size;have V:=U.at (K:=[e,f,g,h]) rfl T;have t0:=v.nodup;have d1:=qI o0;have u0:base<=x:=qO;have z:=t.alloc (.cells #[(a:Nat)] 3);have v0:=o.alloc (.cells #[(a:Nat)] 3);have e1:=z.c 0;have f1:=z.c 1;have g1:=z.c 2;have h1:=z.c 3;have i1:=v0.c 1;clear o0 n0 Z0 h0 i0 v j0 k0 z v0;go_region_law ((refine HV (by rfl) (.tmp 45) (.tmp 50) 41 3 _ 8 (by rfl) Tryz.underlying41 HJ rfl base l0 (aM b a [e,f,g,h]).length (ic (aM b a [e,f,g,h])) (by rfl) (w:=x) V (wc+1) _ 1 1 [.int .i64 (a:Nat)] (by rfl) (OK s0) (by simp [Value.oneCell']) (by unfold maxLen;omega) qO u0 ?_;intro w0 x0 y0 z0 W A0;obtain ⟨K1,j1,B0,C0,D0,E0⟩:=d1.out y0 (.slice w0 ((aM b a [e,f,g,h]).length+1) x0) (W.block B F.lt (fun j=>F.own_ne V j.symm));have k1:(Instr.entryStore 231 (.map (some B)) (.int .i64 (m0:Nat)) (.slice w0 ((aM b a [e,f,g,h]).length+1) x0)).run an y0= .ok () j1:=B0))
    all_goals
     obtain ⟨L1,G,F0,G0,H0⟩:=Ib Q.out rfl p0 U t0 F T W z0 A0 C0 D0 E0 q0 M N u0;have I0:=qI (Ic G F0 G0 H0 M N);have M1:=G.c 2;have N1:=G.free 2;clear G F0 G0 H0 p0 U t0 F T W z0 A0 C0 D0 E0 q0 e1 f1 g1 h1 i1 R0 r S0 T0 U0 V0 b1 B0 k1 s0 V;go_wp2_with fail;go_roundg (i-(a+1))
     case measure=>omega
     case rel=>exact ⟨a+1,rfl,qO,I0.1,I0.2⟩
  have M0:=dfX ((a:Int)<i);have l1:Hid (a=i):=qI qO;go_wp2_with fail;go_quiet (fail);go_wp2_with fail;go_end0;refine ⟨rfl,?_,I.drewN' nq⟩;rw [<-l1];exact ⟨B,k,q.drewN nq,J.drewN nq,L.drewN nq,M,N⟩
end Go.Proofs.YtecpbcmpncgokaaGreat
namespace Go.Proofs.YtecpbcmpncgokaaGreat
attribute [local irreducible] wpStill
theorem Ig {al:List (Value×Value)} {k u v} (h:(al.map Prod.fst).Nodup) (h1:(k,u)∈al) (h2:(k,v)∈al):u=v:=z39
theorem Ih {w B al} (c:MapL an 293 w B al) {K} (e:K.length=4):
  ∃v,(((∀p∈al,p.1≠kv K)/\v= .slice none 0 0)\/(kv K,v)∈al)/\ ∀q,(Instr.lookup 231 (.map (some B)) (kv K) false).run an (w.drewN q)= .ok v (w.drewN q):=by
 obtain ⟨h,d⟩:=wA K e;rcases c.look mq OL (mr w) d false with ⟨b,f⟩ | ⟨v,b,f⟩
 ·refine ⟨.slice none 0 0,.inl ⟨b,rfl⟩,fun q=> ?_⟩;rcases (c.drewN q).look mq OL (mr _) d false with ⟨_,a⟩ | ⟨v,a,_⟩
  ·exact a
  exact absurd rfl (b _ a)
 refine ⟨v,.inr b,fun q=> ?_⟩;rcases (c.drewN q).look mq OL (mr _) d false with ⟨a,_⟩ | ⟨i,a,g⟩
 ·exact absurd rfl (a _ b)
 rw [Ig c.nodup b a];exact g
def Ii (b:LU) (i:Nat) (w:World) (f g j:Value) (wr:World):Prop:=
 ∃a c h d e:Nat,f= .int .i64 (d:Nat)/\g= .int .i64 (e:Nat)/\j= .int .i64 ((a:Int)-1)/\Hid (bq b i c=(d,e))/\LgInv b i (aM b i ((b.drop i).take 4)) a c/\Hid (wr=w.drewN h)
theorem Ij (base fb A b c n i w) (G:Fin w base fb A b c n) (a0:Rd w base 1 A b.length (bc b)) (E0:b.length<=kah) (b0:b<=c) (c0:n<=i) (hi:i<=b.length):
  Calls an 168 #[.pointer (some fb),.int .i64 i] w fun H w'=>H= .returned (.tuple #[.int .i64 ((lng b i).1:Nat),.int .i64 ((lng b i).2:Nat)])/\(∃d0,d0<=i/\Fin w' base fb A b c d0)/\Bk 5 base w w':=by
 have k1:=qiJ (i+4);have l1:base<=w:=by obtain ⟨B,l,O,_,_,v,_⟩:=G;have:=O.lt;omega
 have P:w.cell? fb=some (.slice A b c):=by obtain ⟨B,l,O,_⟩:=G;rw [O.cell];rfl
 have Q:=qI G;clear G;by_cases v:i+4<=b
 ·have F0:=dfX ((b:Int)<i+4);have G0: ¬((b:Int)<i+4):=qO;go_in;go_wp2_with fail;refine (Ie base fb A b c n i w Q.out a0 E0 b0 c0 v).mono ?_;rintro H o ⟨rfl,H0,I⟩;obtain ⟨B,l,q,R,e0,I0,J0⟩:=H0;clear Q P;have K0:=I.size;have S:=a0.below I.below;have f0:Rd o o 1 A b (bc b):=S.more qO;have P:=q.c 0;have J:=q.c 1;have T:=q.lt;have r:=qI (pT (b:=b) (i:=i) qO);obtain ⟨e,g0⟩:=gX (b[i]);obtain ⟨f,h0⟩:=gX (b[i+1]);obtain ⟨g,i0⟩:=gX (b[i+2]);obtain ⟨j,j0⟩:=gX (b[i+3]);rw [<-g0,<-h0,<-i0,<-j0] at r;clear g0 h0 i0 j0;go_wp2_with fail;go_cut [8] (fun x L0=>(((∀p∈l,p.1≠kv [e,f,g,j])/\x= .slice none 0 0)\/(kv [e,f,g,j],x)∈l)/\Below o o L0)
  case first=>
   go_region_with
    ((go_at_call 240;refine (wD A b c i _ e f g j r f0.drew qO b0 qO).mono ?_;rintro H s ⟨rfl,k0⟩;have L:=((bR o o).drew.trans k0);have M0:s.cell? ⟨fb,1,none⟩=some (.map (some B)):=(by rw [(q.below L T).cell];rfl);have m1:s.drew.cell? ⟨fb,1,none⟩=some (.map (some B)):=(M0);clear k0;obtain ⟨x,l0,U⟩:=Ih (R.belowW L) (K:=[e,f,g,j]) rfl;have n1:(Instr.lookup 231 (.map (some B)) (.agg #[.int .u8 e.toNat,.int .u8 f.toNat,.int .u8 g.toNat,.int .u8 j.toNat]) false).run an s= .ok x s:=(U 0);have o1:(Instr.lookup 231 (.map (some B)) (.agg #[.int .u8 e.toNat,.int .u8 f.toNat,.int .u8 g.toNat,.int .u8 j.toNat]) false).run an s.drew= .ok x s.drew:=(U 1);have m0:=qI l0;clear l0 U))
   all_goals
    go_wp2_with fail;go_meet
    first
     | exact ⟨m0.out,L⟩
     | exact ⟨m0.out,L.drew⟩
  case rest=>
   have y:=hcut.2;have n0:=hcut.1;clear hcut P J f0;have o0:=q.below y T;have p0:=R.belowW y;have V:=e0.belowW y;have N0:Bk 5 base w wc:=I.transB y qO;have M:=V.at (K:=[e,f,g,j]) rfl n0;obtain ⟨O0,p1,rfl,P0,q1⟩:=fA M;have q0:=d8 M;have hinv:=LgInv.start b i;rw [r] at hinv;obtain ⟨m,z⟩:=gX ((aM b i [e,f,g,j]).length);have r1:m<=i:=by rw [z];exact wy b i _
   rw [<-z] at q0 M P0 hinv;have Q0:=qI z;have r0:=qI hinv;have R0:Hid (Fin wc base fb A b c i):=⟨B,l,o0,p0,V,I0,J0⟩;have S0:=S.below (y.mono qO);have s1:=qiJ (m-1);rw [<-z];clear M n0 z hinv q R e0 I S K0 T V p0;go_wp2_with fail;go_loopw [6,7,9] (fun T0 U0 W wr=>Ii b i wc T0 U0 W wr) (fun _ _ W _=>(intOf W+1).toNat)
   case atStart=>exact ⟨m,0,0,0,0,rfl,rfl,rfl,by rw [GQ];rfl,by rw [r];exact r0.out,rfl⟩
   case round=>
    obtain ⟨a,V0,k,d,N,rfl,rfl,rfl,t,s0,C⟩:=hrel;have W0:=(If b i V0).1;rw [t] at W0;have D:=qI s0;clear s0 r0;have hFw:Hid (Fin wr base fb A b c i/\Bk 5 base w wr):=by
     unfold Hid;rw [C];obtain ⟨B,l,X0,Y0,Z0,a1⟩:=R0.out;exact ⟨⟨B,l,X0.drewN k,Y0.drewN k,Z0.drewN k,a1⟩,N0.drewN' k⟩
    rcases a with _ | a
    ·have hfin:Hid (lng b i=(d,N)):=by unfold Hid;rw [<-D.out.end0 v,t]
     exact z106
    have t0:((a+1:Nat):Int)-1=(a:Int):=qO;rw [t0];have X:a<(aM b i ((b.drop i).take 4)).length:=D.1;obtain ⟨p,E⟩: ∃p,(aM b i ((b.drop i).take 4))[a]?=some p:=⟨_,gE X⟩;have b1:=(ms.1 (g8 E)).1;have t1:a<m:=by have:=Q0.out;rw [r] at X;omega
    have u0:Rd wr wc 1 O0 m (ic (aM b i [e,f,g,j])):=by rw [C];exact q0.drewN k
    have v0:(ic (aM b i [e,f,g,j]))[a]?=some (.int .i64 (p:Nat)):=by
     rw [r] at E;unfold ic;rw [m7,E];rfl
    obtain ⟨c1,d1,rfl,u1,w0⟩:=u0.at_ qO;have J:=w0 a _ v0;have x0:=qI E;have v1:=zeI a;have w1:=ltI a m;have x1:=qiJ (i-p);have y1:=qiJ (a-1);have y0:Rd wr base 1 A b (bc b):=by rw [C];exact S0.drewN k
    have z0:Blk wr fb 233 [.slice A b c,.map (some B),(i:Nat)]:=by rw [C];exact o0.drewN k
    clear w0 v0 E X u0 t0;by_cases e1:i-p<=4096
    ·have f1:=dtX ((i:Int)-p<=4096);have g1:(i:Int)-p<=4096:=qO;by_cases z1:d<259
     ·have h1:=dtX ((d:Int)<259);have i1:(d:Int)<259:=qO;have u:=qI (D.out.step v x0.out e1);rw [t] at u;obtain ⟨F,A0⟩:=gH (bT b p i);rw [<-A0] at u;go_wp2_with fail;refine (Hy fb (.map (some B)) (.int .i64 (i:Nat)) A b c p i wr base z0 y0 qO b1 hi).mono ?_;rintro H B0 ⟨rfl,Y,Z⟩;have C0:Hid (B0=wc.drewN (k+Y)):=by unfold Hid;rw [Z,C,o8]
      have A1:B0.cell? ⟨c1,d1+a,none⟩=some (.int .i64 (p:Nat)):=by rw [Z];exact J
      rw [<-A0];clear Z J z0 y0;by_cases D0:d<F
      ·have j1:=dtX ((d:Int)<F);have B1:=ltI d F;go_wp2_with fail;go_quiet (fail);go_wp2_with fail;refine ⟨⟨a,i-p,k+Y+nq,F,i-p,rfl,congrArg (Value.int IntKind.i64) qO,rfl,by unfold Hid;rw [u.2.2,if_pos D0],u.1,?_⟩,by simp [intOf]⟩;unfold Hid;rw [C0,o8]
      have j1:=dfX ((d:Int)<F);go_wp2_with fail;exact ⟨⟨a,i-p,k+Y,d,N,rfl,rfl,rfl,by unfold Hid;rw [u.2.2,if_neg D0],u.1,C0⟩,by simp [intOf]⟩
     have h1:=dfX ((d:Int)<259);have i1: ¬(d:Int)<259:=qO;have hfin:Hid (lng b i=(d,N)):=by unfold Hid;rw [<-D.out.endF (by rw [t];show d=259;omega),t]
     exact z106
    have f1:=dfX ((i:Int)-p<=4096);have g1: ¬(i:Int)-p<=4096:=qO;have hfin:Hid (lng b i=(d,N)):=by unfold Hid;rw [<-D.out.endW v x0.out qO,t]
    exact z106
 have F0:=dtX ((b:Int)<i+4);have G0:(b:Int)<i+4:=qO;go_in;go_wp2_with fail;go_ret2;rw [GW qO];exact ⟨rfl,⟨n,c0,Q.out⟩,Bk.refl _ _ _⟩
end Go.Proofs.YtecpbcmpncgokaaGreat
namespace Go.Proofs.YtecpbcmpncgokaaGreat
def Ik (b:LU) (w:World) (h:Nat) (A:OA) (c:Nat) (out j i:Value) (wr:World):Prop:=
 ∃(a e:Nat) (l:LU) (f:OA) (d g:Nat),out= .slice f l d/\j= .int .i64 e/\i= .int .i64 a/\e<=a/\a<=b/\Hid (aA b=l++bw b a e)/\
  wr.ownsRow w 5 1 (.slice f l d) l (bc l)/\Below w w wr/\l<=d/\d<=maxLen/\g<=a/\Fin wr w h A b c g
theorem wF (A out c A2 l n c2 w base) (e:n=l.length) (f:w.ownsRow base 5 1 (.slice A out.length c) out.length (bc out)) (hbase:base<=w.heap.size) (i:out.length<=c) (j:c<=maxLen) (k:Rd w w.heap.size 1 A2 n (bc l))
  (C:out.length+9+n<=kaa):
  Calls an 169 #[.slice A out.length c,.slice A2 n c2] w fun g w'=> ∃(a:LU) (A':OA) (c':Nat),Hid (a=out++aH l)/\g= .returned (.slice A' a.length c')/\w'.ownsRow base 5 1 (.slice A' a.length c') a.length (bc a)/\Below w w w'/\a<=c'/\c'<=maxLen:=by
 have m:=d8 f;by_cases h0:l=[]
 ·subst h0;subst e;go_in;go_wp2_with fail;go_ret;exact ⟨out,A,c,by simp [Hid,aH],rfl,f,bR _ _,i,j⟩
 have o:=L9.2 h0;have D:0<n:=qO;have E:((n:Int)==0)=false:=by simp;omega
 have F:=qiJ (n-1);have hcl:Hid (aj (2*((n:Int)-1))=2*(l-1)):=by unfold Hid aj;omega
 clear e o;go_in;go_wp2_with fail;refine (dL A out c _ w m qO).mono ?_;rintro g q ⟨d,G,H,e1,rfl,r,b,I,J⟩;have K:d.length<=out+9:=by
  exact z233
 have s:=(k.belowW b (lR _)).more b.size;go_wp2_with (at_builtin;refine bQ rfl (.tmp 14) (.tmp 15) rfl w.heap.size _ d.length d rfl r q.heap.size A2 n c2 l rfl s (by omega) b.size ?_);intro t u v L e2 x y _ _ z B;go_wp2_with fail;go_ret;refine ⟨t,u,v,?_,rfl,x.base hbase,b.trans y,z,B⟩;exact z249
theorem tg (A b c w) (F:Rd w w.heap.size 1 A b.length (bc b)) (S:b.length<=kah) (G:b.length<=c):
  Calls an 100 #[.slice A b c] w (ep 5 w (aA b)):=by
 go_in;have p0:=@run_makeMap an;go_wp2_with fail;clear p0;have H:MapL an 293 (w.alloc (.map #[] 0)) w []:=Pn w;have I:(w.alloc (.map #[] 0)).heap.size=w+1:=by simp
 obtain ⟨J,K⟩:=gX (w.alloc (.map #[] 0));have T:Below w w J:=by rw [K];exact (bR _ w).alloc (lR _) _
 rw [<-K] at H I ⊢;have L:=o9 J 233 [.slice A b c,.map (some w.heap.size),i0];have U:=H.alloc (.cells #[.slice A b c,.map (some w.heap.size),i0] 233);have u:=T.alloc (B:=w.heap.size) qO (.cells #[.slice A b c,.map (some w.heap.size),i0] 233);obtain ⟨V,v⟩:=gX (J.alloc (.cells #[.slice A b c,.map (some w.heap.size),i0] 233));obtain ⟨x,M⟩:=gX (w.heap.size+1);rw [I] at L;have W:Hid (Fin V w x A b c 0):=⟨w,[],by rw [v,M];exact L,by rw [v];exact U,⟨by simp,fun _ _ _=>by simp [aM],.nil⟩,qO,lR _⟩;rw [<-v] at u ⊢;rw [<-M];have N:=u.size;clear K H I L U T M v;refine (dL none [] 0 _ V L8 (by decide)).mono ?_;rintro e q0 ⟨X,o,q,e1,rfl,Y,O,j,l⟩;have s:Hid (Fin q0 w x A b c 0):=W.out.belowW O;have g:=u.trans (O.mono N);have Z:=Y.mono N;clear W u Y O;have a0:Hid (aA b=X++bw b 0 0):=by
  exact z278
 clear e1;go_wp2_with fail;go_loopw [4,5,6] (fun r0 f i wr=>Ik b w x A c r0 f i wr) (fun _ _ i _=>b-(intOf i).toNat)
 case atStart=>exact ⟨0,0,X,o,q,0,rfl,rfl,rfl,lR _,zL,a0,Z,g,j,l,lR _,s.out⟩
 case round=>
  clear Z g a0 j l s N;obtain ⟨k,f,m,o,q,s0,rfl,rfl,rfl,t0,b0,t,y,hbel,j,l,u0,c0⟩:=hrel;have d0:=qI c0;clear c0;have L0:=pS S t.out;have hs:=hbel.size;have e0:=(F.belowW hbel (lR _)).more hs;by_cases f0:k<b
  ·have v0:=ltI k b.length;go_wp2_with fail;refine (Ij w x A b c s0 k wr d0.out (F.below hbel) S G u0 b0).mono ?_;rintro e w0 ⟨rfl,⟨g0,M0,h0⟩,P⟩;have s:=qI h0;have j0:=P.own y;have g:=hbel.trans P.below;have x0:=(F.below g).more g.size;clear h0 d0 P y e0 hbel hs;have hs:=g.size;have k0:=pN b k;have a:=jW (b:=b) (i:=k);have z:=GU b k;have C:=GV (b:=b) (i:=k);obtain ⟨n,d⟩:=gX ((lng b k).1);obtain ⟨Q,r⟩:=gX ((lng b k).2);rw [<-d] at z C;rw [<-d,<-r];by_cases y0:n<4
   ·have N0:(n:Int)<4:=qO;have heq':Hid (aA b=m++bw b (k+1) f):=by unfold Hid;rw [t,jU f0 (z.1 y0)]
    clear d r a z C k0;go_wp2_with fail;exact ⟨⟨k+1,f,m,o,q,g0,rfl,rfl,by go_num,qO,qO,heq',j0,g,j,l,qO,s.out⟩,by simp [intOf];omega⟩
   have l0:=C qO;rw [l0] at d r;rw [<-d,<-r] at a;rw [<-d] at k0;have a:=a qO;have heq':Hid (aA b=m++(aH ((b.drop f).take (k-f))++(num (2*(n-4)+1)++(num Q++bw b (k+n) (k+n))))):=by unfold Hid;rw [t,jV f0 (by rw [<-d];omega),<-d,<-r]
   have hcut:=x0.cut (lo:=f) (hi:=k) (cap:=c) t0 b0 G;rw [if_neg qO,s9,s9,dW,dx] at hcut;have O0:=a.1;have P0:=a.2.2.1;have Q0:=a.2.2.2.1;have z0:=a.2.2.2.2.1;clear d r a t z C l0;have A0:(f:Int)<=k:=qO;have R0:(k:Int)<=c:=qO;have R: ¬(c=f):=qO;go_wp2_with fail;refine (Hf o m q _ ((b.drop f).take (k-f)) (k-f) _ w0 (by rw [b9,b8];omega) (d8 j0) j l hcut qO).mono ?_;rintro e w3 ⟨l3,A3,c3,e3,rfl,hr3,hb3,j1,j2⟩;go_wp2_with fail;have S0:l3.length<=37748800:=by
    exact z239
   have hcl1:Hid (aj (2*((n:Int)-4)+1)=2*(n-4)+1):=by unfold Hid aj;omega
   have hcl2:Hid (aj (Q:Int)=Q):=ml qO;refine (dL A3 l3 c3 _ w3 hr3 qO).mono ?_;rintro e B0 ⟨m0,C0,D0,e4,rfl,E0,D,T0,U0⟩;have V0:m0.length<=37748809:=by
    exact z113
   go_wp2_with fail;refine (dL C0 m0 D0 _ B0 (d8 E0) qO).mono ?_;rintro e W0 ⟨n0,F0,G0,e5,rfl,H0,o0,I0,J0⟩;have hfin:Hid (aA b=n0++bw b (k+n) (k+n)):=by
    exact z123
   have K0:=((g.trans (hb3.mono hs)).trans (D.mono (lT hs hb3.size))).trans (o0.mono (lT (lT hs hb3.size) D.size));go_wp2_with fail;exact ⟨⟨k+n,k+n,n0,F0,G0,g0,rfl,by go_num,by go_num,lR _,z0,hfin,H0.mono (lT (lT hs hb3.size) D.size),K0,I0,J0,qO,((s.out.belowW hb3).belowW D).belowW o0⟩,by simp [intOf];omega⟩
  have v0: ¬((k:Int)<b):=qO;have E:=e0.tail (k:=f) (cap:=c) qO G;have hfin:Hid (aA b=m++aH (b.drop f)):=by unfold Hid;rw [t,jT qO]
  have A0:(f:Int)<=b:=qO;by_cases R:c=f
  ·rw [if_pos R] at E;go_wp2_with fail;refine (wF o m q _ (b.drop f) (b-f) _ wr w (by rw [b8]) y hs j l E qO).mono ?_;exact z31
  rw [if_neg R] at E;go_wp2_with fail;refine (wF o m q _ (b.drop f) (b-f) _ wr w (by rw [b8]) y hs j l E qO).mono ?_;exact z31
