/- Walks and laws. Conditions: as stated. -/
import Derived.Test.YtecpbcmpncgokaaGreatSafeB
import Derived.Test.YtecpbcmpncgokaaGreatStoId
set_option maxRecDepth 99999
set_option maxHeartbeats 25600000
set_option linter.all false
open Go.Region renaming binds->P7,Mode->P6
open Go.Proofs.Tryz renaming prog->an
open Go.RowKit Go.Dol
namespace Go.Dol
def aX:LU->Option (LU)
 | []=>some []
 | [_]=>none
 | a::b::t=>if aN a.toNat<0\/aN b.toNat<0 then none else (aX t).map (UInt8.ofNat (16*(aN a.toNat).toNat+(aN b.toNat).toNat):: ·)
def zd (w:World) (r:Option (LU)) (a:Ending) (w':World):Prop:=
 match r with
 | none=>a= .returned (.tuple #[eS,.int .i64 1])/\Below w w w'
 | some c=> ∃b,Hid (b=c)/\a= .returned (.tuple #[.string ⟨b.toArray⟩,i0])/\Below w w w'
theorem mV (x):aN x<16:=by unfold aN;split<;>(try split)<;>omega
theorem ze {l:LU} {k:Nat} (a:k+1<l):l.drop k=l[k]::l[k+1]::l.drop (k+2):=by
 rw [l8 qO,l8 a]
def zf (l:LU) (d:World) (T:TypeId) (out i:Value) (wr:World):Prop:=
 ∃(b:Nat) (a:LU) (e:OA) (c:Nat),out= .slice e a c/\i= .int .i64 b/\b<=l/\b%2=0/\2*a=b/\Hid (aX l=(aX (l.drop b)).map (a++ ·))/\wr.ownsRow d T 1 (.slice e a c) a (bc a)/\Below d d wr/\a<=c/\c<=maxLen
theorem CA: ∀i:Fin 256,aN i.val<0\/ ∃j:Fin 16,aN i.val=j.val/\(dig j.val).toNat=i.val:=by decide+kernel
theorem sV (c) (e:0<=aN c.toNat):(aN c.toNat).toNat<16/\dig (aN c.toNat).toNat=c:=by
 rcases CA ⟨c.toNat,c.toNat_lt⟩ with a | ⟨b,a,d⟩
 ·simp only at a;omega
 simp only at a d;have:(aN c.toNat).toNat=b.val:=qO;rw [this];exact ⟨b.isLt,C9.1 d⟩
theorem oq (c l):cq (c::l)=dig (c.toNat/16)::dig (c.toNat%16)::cq l:=rfl
theorem lj: ∀l:LU,aX (cq l)=some l
 | []=>rfl
 | c::l=>by
  have d:=c.toNat_lt;have a:=ot (c.toNat/16) qO;have b:=ot (c.toNat%16) qO;rw [oq,aX,a,b,if_neg qO,lj l];simp only [PH,M6,List.cons.injEq,and_true];have:16*((c.toNat/16:Nat):Int).toNat+((c.toNat%16:Nat):Int).toNat=c.toNat:=qO;rw [this];simp
theorem lk: ∀(l q:LU),aX l=some q->cq q=l
 | [],q,c=>by
  rw [aX] at c;injection c with c;subst c;rfl
 | [_],q,c=>by cases c
 | a::b::t,q,c=>by
  rw [aX] at c;split at c
  ·cases c
  rename_i k;obtain ⟨d,e,rfl⟩:=OW.1 c;have ha:=sV a qO;have f:=sV b qO;have g:=lk t d e;rw [oq,g];have h:(UInt8.ofNat (16*(aN a.toNat).toNat+(aN b.toNat).toNat)).toNat=16*(aN a.toNat).toNat+(aN b.toNat).toNat:=by
   rw [NG];omega
  rw [h];have i:(16*(aN a.toNat).toNat+(aN b.toNat).toNat)/16=(aN a.toNat).toNat:=qO;have j:(16*(aN a.toNat).toNat+(aN b.toNat).toNat)%16=(aN b.toNat).toNat:=qO;rw [i,j,ha.2,f.2]
theorem sW (k) (b:k<16):(48<=(dig k).toNat/\(dig k).toNat<=57)\/(97<=(dig k).toNat/\(dig k).toNat<=102):=by
 have c: ∀a:Fin 16,(48<=(dig a.val).toNat/\(dig a.val).toNat<=57)\/(97<=(dig a.val).toNat/\(dig a.val).toNat<=102):=by decide
 exact c ⟨k,b⟩
theorem sX: ∀(l:LU) (x:UInt8),x∈cq l->(48<=x.toNat/\x.toNat<=57)\/(97<=x.toNat/\x.toNat<=102)
 | [],x,a=>by cases a
 | c::l,x,a=>by
  have b:=c.toNat_lt;rw [oq] at a;rcases i8.1 a with rfl | a
  ·exact sW _ qO
  rcases i8.1 a with rfl | a
  ·exact sW _ qO
  exact sX l x a
theorem CB {a b} (d:cq a=cq b):a=b:=by
 have c:=lj a;rw [d,lj b] at c;exact (K8 c).symm
theorem IT {D:Dk} (f:InOrder D.l) {s:BA} {c:LU} (a:(aF D s c).1=0):(aa (aF D s c).2.l s).isSome=true/\(aF D s c).2.l=ag D.l s ((aa D.l s).getD []++c):=by
 unfold aF at a ⊢;split
 ·rename_i b;rw [if_pos b] at a;cases a
 rename_i b;rw [if_neg b] at a;split
 ·rename_i d;rw [if_pos d] at a;cases a
 rename_i d;rw [if_neg d] at a;unfold cy at a ⊢;split
 ·rename_i e;rw [if_pos e] at a;cases a
 rename_i e;rw [if_neg e] at a;unfold aW at a ⊢;split
 ·rename_i g;rw [if_pos g] at a;cases a
 refine ⟨?_,rfl⟩;show (aa (ag D.l s _) s).isSome=true;rw [cF f,if_pos rfl];rfl
theorem OkG.preS {a B:Nat} {D:Dk} (e:OkG a B D) {s:BA} {b:LU} (d:(aa D.l s).isSome=false) (f:D.l+1<=a) (k:b<=B) {c r:List (LU)} (g:aS b=c++r):OkG a B (aR D s c).2:=by
 have h:=ph b;rw [g,List.flatten_append,b7] at h;have i:aa D.l s=none:=by cases j:aa D.l s with | none=>rfl | some m=>rw [j] at d;cases d
 exact e.all (s:=s) c (fun _=>f) (by rw [i,O9,List.nil_append];omega)
end Go.Dol
namespace Go.Dol
open Go
def kn (f:P6) (a:Array Oper) (d:Nat):Bool:=
 decide (d<a.size)&&(List.range a.size).all (fun b=>(match a[b]? with | none=>true | some e=>e.after.all fun c=>decide (c.on<b))&&
  (b==d||(match a[d]? with | none=>false | some e=>e.after.any fun c=>P7 f c&&(c.on==b||(match a[c.on]? with | none=>false | some h=>h.after.any fun g=>P7 f g&&g.on==b)))))
def Closed (e:P6) (f:Array Oper) (a:Array Bool):Prop:=∀ (b:Nat) (c:Oper),f[b]?=some c->a.getD b false=true-> ∀d∈c.after,P7 e d=true->a.getD d.on false=true
section
variable {P:Program} {ops:Array Oper} {Q:Exit->Act->World->Prop} {md:P6} {L:Nat} {last:Oper}
theorem xL {b:Array Bool} {i j} (a:b.getD j false=true):(b.setIfInBounds i true).getD j false=true:=by
 rw [z7,NS];split
 ·split
  ·rfl
  rename_i c d;subst c;rw [z7,Oh qO] at a;cases a
 rw [<-z7];exact a
theorem Closed.set {listed} (h:Closed md ops listed) {i} (hi:i∈Region.ready md ops listed):Closed md ops (listed.setIfInBounds i true):=by
 intro b j a c d e f;obtain ⟨_,l,k,ha⟩:=mem_ready.1 hi;by_cases g:b=i
 ·subst g;rw [k] at a;injection a with a;subst a;exact xL (ha d e f)
 refine xL (h b j a ?_ d e f);rw [z7,NS,if_neg (Ne.symm g),<-z7] at c;exact c
theorem xM (h:kn md ops L=true):L<ops.size/\(∀(i:Nat) (a:Oper),ops[i]?=some a-> ∀e∈a.after,e.on<i)/\ ∀(i:Nat),i<ops.size->i≠L-> ∀a,ops[L]?=some a->(∃e∈a.after,P7 md e=true/\e.on=i)\/ ∃e∈a.after,P7 md e=true/\ ∃c,ops[e.on]?=some c/\ ∃d∈c.after,P7 md d=true/\d.on=i:=by
 unfold kn at h;rw [m8,decide_eq_true_eq,Nu] at h;refine ⟨h.1,fun i a ho e he=> ?_,fun i k l a ho=> ?_⟩
 ·exact z83
 have h1:=h.2 i (Nq.2 k);rw [m8,Pl,ho] at h1;rcases h1.2 with h2 | h2
 ·exact absurd (by simpa using h2) l
 obtain ⟨e,he,f⟩:=OM.1 h2;rw [m8,Pl] at f;rcases f.2 with b | b
 ·exact .inl ⟨e,he,f.1,by simpa using b⟩
 cases g:ops[e.on]? with
 | none=>rw [g] at b;cases b
 | some c=>
 rw [g] at b;obtain ⟨d,m,j⟩:=OM.1 b;rw [m8] at j;exact .inr ⟨e,he,f.1,c,g,d,m,j.1,by simpa using j.2⟩
theorem xN (h:kn md ops L=true) (listed) (a:listed.size=ops.size): ∀n,n<=L->listed.getD n true=false->Region.ready md ops listed≠[]:=by
 obtain ⟨b,hb,_⟩:=xM h;exact z24
theorem JV (m:kn md ops L=true) (hL:ops[L]?=some last) (hd:last.dst=none) (hg:last.guard=none):
  ∀(fuel:Nat) (listed:Array Bool) (a:Act) (w:World),listed.size=ops.size->Closed md ops listed->listed.getD L true=false->
   wpAny P md (ops.setIfInBounds L (bU last)) (dt P last Q) fuel listed a w->wpAny P md ops Q fuel listed a w:=by
 intro fuel;induction fuel with
 | zero=>
  intro listed a w b d c h;rw [wpAny,ko hL] at h;exact absurd h.1 (xN m listed b L (lR _) c)
 | succ fuel r=>
 intro listed a w b d c h;rw [wpAny,ko hL] at h;refine ⟨fun t=>absurd t (xN m listed b L (lR _) c),fun i e=> ?_⟩;have h1:=h.2 i e;by_cases g:i=L
 ·subst g;have hall: ∀j,j<ops.size->(listed.setIfInBounds i true).getD j true=true:=by
   intro j hj;by_cases hji:j=i
   ·exact z182
   obtain ⟨_,s,k,ha⟩:=mem_ready.1 e;have h2:listed.getD j false=true:=by
    rcases (xM m).2.2 j hj hji s k with ⟨l,n,o,q⟩ | ⟨l,n,o,u,v,x,y,z,q⟩
    ·have h2:=ha l n o;rw [q] at h2;exact h2
    have h3:=d l.on u v (ha l n o) x y z;rw [q] at h3;exact h3
   exact z140
  exact z222
 unfold wpOp at h1 ⊢;rw [mM g,xO hL] at h1;cases k:ops[i]? with
 | none=>
  rw [k] at h1;simp only at h1 ⊢;exact r _ _ _ (by simpa using b) (d.set e) (by rw [getD_set_ne true g];exact c) h1
 | some s=>
 rw [k] at h1;simp only at h1 ⊢;have hK: ∀a' w',wpAny P md (ops.setIfInBounds L (bU last)) (dt P last Q) fuel (listed.setIfInBounds i true) a' w'->wpAny P md ops Q fuel (listed.setIfInBounds i true) a' w':=
  fun a' w' h3=>r _ _ _ (by simpa using b) (d.set e) (by rw [getD_set_ne true g];exact c) h3
 exact z252
theorem pF {id a w S} (L last) (d:P.follows .mixedOrders=true) (b:ops[L]?=some last) (e:kn .any ops L=true) (f:last.dst=none) (g:last.guard=none)
  (h:S w.drew) (i:S w.drew->wpAnyH P .any (ops.setIfInBounds L (bU last)) (dt P last Q) S ops.size (Array.replicate ops.size false) a w.drew):(Code.region id ops true).wp P Q a w:=by
 refine wp_region_any d (JV e b f g _ _ _ _ (by simp) ?_ ?_ (wpAny_of_held _ _ _ _ (i h)))
 ·intro j l _ c;have k:(Array.replicate ops.size false).getD j false=false:=by
   rw [z7,Array.getElem?_replicate];split<;>rfl
  rw [k] at c;cases c
 have:=(j7.1 b).1;simp [this]
end
end Go.Dol
namespace Go.Proofs.YtecpbcmpncgokaaGreat
theorem tq (s w) (T:s.size<=70368744177600):
  Calls an 102 #[.string s] w fun z w'=> ∃e,Hid (e=cq s.data.toList)/\z= .returned (.string ⟨e.toArray⟩)/\Below w.heap.size w w':=by
 obtain ⟨l,h⟩:=gH s.data.toList;have j:Hid (s.size=l):=qI (by rw [h,aC]);go_in;go_wp2_with (refine MY rfl (.tmp 6) _ _ _ rfl l9 q7 z8 s rfl qO ?_);intro U V o p q W X;rw [<-h] at p;go_wp2_with fail;go_loopw [3,5,9] (fun A _ i wr=>zB l o A i wr) (fun _ _ i _=>l-(intOf i).toNat)
 case atStart=>exact ⟨0,[],none,0,rfl,rfl,zL,rfl,⟨by simp [bc],.inl ⟨rfl,rfl⟩⟩,bR _ _,lR _,by unfold maxLen;omega⟩
 case round=>
  obtain ⟨k,a,B,C,rfl,rfl,Y,m,r,f,Z,a0⟩:=hrel;have D:=f.size;have t:a=2*k:=by rw [m,gd,b9];omega
  by_cases g:k<l
  ·have b0:k<s.size:=by rw [j];exact g
   obtain ⟨c0,d0,rfl,E,u⟩:=(p.below f).at_ qO;have F:=u k _ (bu l k g);obtain ⟨b,n⟩:=gX ((l[k]).toNat);have e0:b<256:=by have:=(l[k]).toNat_lt;omega
   rw [<-n] at F;have G:=qI n;clear n u;obtain ⟨d,v⟩:=gX (b/16);obtain ⟨c,x⟩:=gX (b%16);have H:d<16:=qO;have I:c<16:=qO;have f0:=kz d H;have g0:=kz c I;have h0:IntKind.u8.wrap (b/16)=(d:Int):=by rw [NR];omega
   have i0:(b:Int)%16=c:=qO;have j0:(b:Int).tmod 16=(c:Int):=by rw [q8 qO];omega
   have k0:(d:Int)<16:=qO;have l0:(c:Int)<16:=qO;have J:=qI v;have K:=qI x;clear v x;have m0:a.length<=140737488355200:=qO;clear t;go_wp2_with fail;go_region_law ((refine re (by rfl) (.tmp 13) (.tmp 20) (by rfl) o _ a a (by rfl) (E7 (w:=World.drew wr) r _) (wr+1) _ 2 2 [dig d,dig c] (by rfl) (Rd.two wr.drew _ _ _) qO (by simp;omega) ?_;intro e L M w' N O P n0 Q R))
   all_goals
    go_wp2_with fail;refine ⟨⟨k+1,e,L,M,rfl,by go_num,g,?_,O,f.trans (((bR _ _).alloc D _).drew.trans P),Q,R⟩,by simp [intOf];omega⟩;unfold Hid;rw [N,m,n9 g,zA,J,K,G]
  have y:k=l:=qO;have S:=qI y;have E:decide (k<s.size)=false:=by simp [j.out];omega
  have o0: ¬((k:Int)<s.size):=by rw [j];omega
  clear y t;go_wp2_with (refine fU rfl (.tmp 23) rfl wr.heap.size B a C a rfl (d8 r) ?_);go_ret;refine ⟨a,?_,rfl,q.trans (f.mono q.size)⟩;unfold Hid;rw [m,S,y7,h]
theorem tI (s w) (O:s.size<=70368744177600):
  Calls an 129 #[.string s] w fun v w'=> ∃g,Hid (g=cq s.data.toList)/\v= .returned (.string ⟨g.toArray⟩)/\Below w.heap.size w w':=by
 obtain ⟨b,j⟩:=gH s.data.toList;have k:Hid (s.size=b):=qI (by rw [j,aC]);go_in;go_wp2_with fail;go_loopw [3,4] (fun x i wr=>zB b w x i wr) (fun _ i _=>b-(intOf i).toNat)
 case atStart=>exact ⟨0,[],none,0,rfl,rfl,zL,rfl,⟨by simp [bc],.inl ⟨rfl,rfl⟩⟩,bR _ _,lR _,by unfold maxLen;omega⟩
 case round=>
  obtain ⟨a,c,y,z,rfl,rfl,P,l,p,m,Q,R⟩:=hrel;have A:=m.size;have q:c=2*a:=by rw [l,gd,b9];omega
  by_cases h:a<b
  ·have S:a<s.size:=by rw [k];exact h
   obtain ⟨d,n⟩:=gX ((b[a]).toNat);have T:d<256:=by have:=(b[a]).toNat_lt;omega
   have U: ∀o:a<s.size,(s[a]'o).toNat=d:=fun o=>by rw [n];exact kx j.out h o
   have V:=ltI a s.size;have B:=qI n;clear n;obtain ⟨f,r⟩:=gX (d/16);obtain ⟨e,t⟩:=gX (d%16);have C:f<16:=qO;have D:e<16:=qO;have W:=kz f C;have X:=kz e D;have Y:IntKind.u8.wrap (d/16)=(f:Int):=by rw [NR];omega
   have Z:(d:Int)%16=e:=qO;have a0:(d:Int).tmod 16=(e:Int):=by rw [q8 qO];omega
   have b0:(f:Int)<16:=qO;have c0:(e:Int)<16:=qO;have E:=qI r;have F:=qI t;clear r t;have d0:c.length<=140737488355200:=qO;clear q;go_wp2_with fail;go_region_law ((refine re (by rfl) (.tmp 11) (.tmp 22) (by rfl) w _ c c (by rfl) (E7 (w:=World.drew wr) p _) (wr+1) _ 2 2 [dig f,dig e] (by rfl) (Rd.two wr.drew _ _ _) qO (by simp;omega) ?_;intro g G H w' I J K e0 L M))
   all_goals
    go_wp2_with fail;refine ⟨⟨a+1,g,G,H,rfl,by go_num,h,?_,J,m.trans (((bR _ _).alloc A _).drew.trans K),L,M⟩,by simp [intOf];omega⟩;unfold Hid;rw [I,l,n9 h,zA,E,F,B]
  have u:a=b:=qO;have N:=qI u;have f0:decide (a<s.size)=false:=by simp [k.out];omega
  have g0: ¬((a:Int)<s.size):=by rw [k];omega
  clear u q;go_wp2_with (refine fU rfl (.tmp 24) rfl wr.heap.size y c z c rfl (d8 p) ?_);go_ret;refine ⟨c,?_,rfl,m⟩;unfold Hid;rw [l,N,y7,j]
theorem zg (x:Nat) (m:x<256) (w):
  Calls an 187 #[.int .u8 x] w fun n w'=>n= .returned (.int .i64 (aN x))/\w=w':=by
 go_in;go_wp2_with fail;go_loop [3] (fun i=> ∃k:Nat,i= .int .i64 k/\k<=16/\Hid (∀j,j<k->(dig j).toNat≠x)) (fun i=>16-(intOf i).toNat)
 case atStart=>exact ⟨0,rfl,qO,fun j g=>by omega⟩
 case round=>
  obtain ⟨k,rfl,q,h⟩:=hrel;by_cases c:k<16
  ·have r:(k:Int)<16:=qO;have l:=kz k c;obtain ⟨a,d⟩:=gH ((dig k).toNat);have s: ∀e:k<(⟨#[48,49,50,51,52,53,54,55,56,57,97,98,99,100,101,102]⟩:BA).size,((⟨#[48,49,50,51,52,53,54,55,56,57,97,98,99,100,101,102]⟩:BA)[k]'e).toNat=a:=fun e=>by rw [l e,d]
   clear l;by_cases b:a=x
   ·have f:=qI b;have o:((a:Int)==x)=true:=by simp [b]
    clear b;go_wp2_with fail;go_ret;have:=ot k c;rw [<-d,f] at this;exact ⟨by rw [this];rfl,rfl⟩
   have f:=qI b;have o:((a:Int)==x)=false:=by simp;omega
   have t:=dfX ((a:Int)=x);go_wp2_with fail;refine ⟨⟨k+1,by go_num,c,?_⟩,by simp [intOf];omega⟩;intro j g;by_cases p:j=k
   ·rw [p,<-d];exact f.out
   exact h.out j qO
  have u:k=16:=qO;have v:=MH x m (fun j g=>h.out j qO);go_wp2_with fail;go_ret;exact ⟨rfl,rfl⟩
theorem Di (s w) (k0:s.size<=140737488355200):
  Calls an 118 #[.string s] w (zd w (aX s.data.toList)):=by
 obtain ⟨b,l⟩:=gH s.data.toList;have f:Hid (s.size=b):=qI (by rw [l,aC]);rw [<-l];go_in;go_wp2_with fail;go_loopw [4,5,6,7] (fun O i _ _ wr=>zf b w 5 O i wr) (fun _ i _ _ _=>b-(intOf i).toNat)
 case atStart=>exact ⟨0,[],none,0,rfl,rfl,zL,rfl,rfl,by unfold Hid;simp,⟨by simp [bc],.inl ⟨rfl,rfl⟩⟩,bR _ _,lR _,by unfold maxLen;omega⟩
 case round=>
  obtain ⟨a,c,P,Q,rfl,rfl,l0,C,D,e1,E,j,m0,n0⟩:=hrel;have R:=j.size;have S:=qI D;have o:=qI C;have o0:c.length<=140737488355200:=by have:=f.out;omega
  clear D C;by_cases F:a+1<b
  ·have G:a<s.size:=by rw [f];omega
   have p0:a+1<s.size:=by rw [f];omega
   have T:a<b:=qO;have q0:=ltI a s.size;have r0:(a:Int)+1<s.size:=qO;obtain ⟨x,q⟩:=gX ((b[a]).toNat);obtain ⟨y,r⟩:=gX ((b[a+1]).toNat);have U:x<256:=by have:=(b[a]).toNat_lt;omega
   have V:y<256:=by have:=(b[a+1]).toNat_lt;omega
   have W: ∀h:a<s.size,(s[a]'h).toNat=x:=fun h=>by rw [q];exact kx l.out T h
   have X: ∀h:a+1<s.size,(s[a+1]'h).toNat=y:=fun h=>by rw [r];exact kx l.out F h
   have Y:=qI q;have Z:=qI r;clear q r;go_wp2_with fail;refine (zg x U wr).mono ?_;rintro a0 H ⟨rfl,rfl⟩;go_wp2_with fail;refine (zg y V wr).mono ?_;rintro a0 H ⟨rfl,rfl⟩;have I:=ze F;have hstep:Hid (aX (b.drop a)=if aN x<0\/aN y<0 then none else (aX (b.drop (a+2))).map (UInt8.ofNat (16*(aN x).toNat+(aN y).toNat):: ·)):=by
    unfold Hid;rw [I,aX,Y,Z]
   have J:=mV x;have K:=mV y;obtain ⟨p,e⟩:=gX (aN x);obtain ⟨t,g⟩:=gX (aN y);rw [<-e,<-g] at hstep;rw [<-e] at J ⊢;rw [<-g] at K ⊢;clear e g I W X;by_cases u:p<0\/t<0
   ·have n:Hid (aX b=none):=by unfold Hid;rw [e1,hstep,if_pos u];rfl
    rcases (by omega:p<0\/(0<=p/\t<0)) with e | ⟨e,g⟩
    ·go_wp2_with fail;go_ret2;rw [n];exact ⟨rfl,j⟩
    go_wp2_with fail;go_ret2;rw [n];exact ⟨rfl,j⟩
   have e:0<=p:=qO;have g:0<=t:=qO;obtain ⟨v,rfl⟩:=Od e;obtain ⟨A,rfl⟩:=Od g;have s0:v<16:=qO;have t0:A<16:=qO;obtain ⟨m,L⟩:=gX (16*v+A);have u0:IntKind.u8.wrap (16*v+A)=(m:Int):=by rw [NR];omega
   have v0:m<256:=qO;have HM:=qI L;rw [if_neg u] at hstep;clear L u J K e g;go_wp2_with (at_builtin;refine cY rfl (.tmp 30) (.tmp 36) rfl w.heap.size _ c.length c rfl E rfl (by omega) (by omega) (by omega) R ?_);intro d M b0 c0 H ed e2 d0 e0 _ _ f0 g0;have h0:Hid (M.length=c+1):=qI (by rw [e2];simp);go_wp2_with fail;refine ⟨⟨a+2,M,b0,c0,rfl,by go_num,qO,by have:=o.out;omega,by rw [h0];have:=S.out;omega,?_,d0,j.trans e0,f0,g0⟩,by simp [intOf];omega⟩;exact z174
  have w0:b<=a+1:=qO;have x0:a<=140737488355200:=by have:=f.out;omega
  have y0: ¬((a:Int)+1<s.size):=by have:=f.out;omega
  by_cases N:b=a+1
  ·have k:aX (b.drop a)=none:=by
    rw [l8 qO,p9 qO];rfl
   have n:Hid (aX b=none):=by unfold Hid;rw [e1,k];rfl
   have B:(s.size:Int)%2=1:=by have:=f.out;have:=o.out;omega
   have i0:(s.size:Int).tmod 2=1:=by rw [q8 qO];exact B
   clear N k;go_wp2_with fail;go_ret2;rw [n];exact ⟨rfl,j⟩
  have G:b=a:=qO;have k:aX (b.drop a)=some []:=by
   rw [p9 qO];rfl
  have j0:Hid (aX b=some c):=by unfold Hid;rw [e1,k];simp
  have B:(s.size:Int)%2=0:=by have:=f.out;have:=o.out;omega
  have i0:(s.size:Int).tmod 2=0:=by rw [q8 qO];exact B
  clear N k G;go_wp2_with (refine fU rfl (.tmp 42) rfl wr.heap.size P c Q c rfl (d8 E) ?_);go_ret2;rw [j0];exact ⟨c,rfl,rfl,j⟩
section
variable {w w':World} {gr:Nat} {D:Dk}
theorem wV (n:BA) (k:Int) (w:World) (b:n.size<=kaa) (c: -4611686018427387904<=k) (d:k<=4611686018427387904):
  Calls an 148 #[n,k] w fun a w'=>a= .returned (.int .i64 (16+(n.size+1)+max k 0))/\w'=w:=by
 have e:=qiJ (16+n.size);have f:=qiJ (16+n.size+1);have g:IntKind.i64.wrap (16+n.size+1+max k 0)=16+((n.size:Int)+1)+max k 0:=by rw [qJ qO];omega
 go_in;go_wp2_with fail;go_ret;exact ⟨rfl,rfl⟩
def my (gr:Nat) (w:World):Nat:=hH ((w.cell? ⟨gr,1,none⟩).getD undef)
theorem Rdk.files (a:Rdk w gr D):my gr w=D.l:=by
 obtain ⟨d,e,f,g,b,h,i,j,k,m,n,o,c⟩:=a.row;unfold my;rw [b,<-c,g7];rfl
def IU (D:Dk) (s:BA) (b:LU) (gr:Nat) (w:World) (i:Value) (wr:World):Prop:=
 ∃(c:Nat) (a:Dk) (d:List (LU)) (first:Bool),i= .int .i64 c/\c<=b/\Hid (aR D s d=(0,a))/\Hid (aS b=d++eB first (b.drop c))/\Hid ((aa a.l s).isSome= !first)/\(first=true->c=0)/\a.l.length<=D.l+1/\Hid (first=true->a.l.length=D.l)/\Rdk wr gr a/\w.grownBy wr (some gr)
def fN (D:Dk) (s n:BA) (b:LU):Int×Dk:=if (aR D s (aS b)).1≠0 then aR D s (aS b) else if (bd (aR D s (aS b)).2 s).1≠0 then bd (aR D s (aS b)).2 s else bx (bd (aR D s (aS b)).2 s).2 s n
theorem IV (D:Dk) (n:BA) (b:LU):ev D n b=fN D (shd n) n b:=rfl
theorem tL (h:Rdk w gr D) (X:OkW D) (n:BA) (q2:n.size<=kab) (A:OA) (b:LU) (c:Nat) (B1:D.l.length+1<=kac) (J0:b.length<=kam) (B:Nat) (C1:Far w B A b) (D1:b<=c) (E1:c<=maxLen) (K0:B<=gr):
  Calls an 127 #[.pointer (some gr),.string n,.slice A b c] w (fF w gr (ao D n b)):=by
 obtain ⟨s,F1⟩:=gY (n++(⟨#[126]⟩:BA));have l0:shd n=s:=F1;have G1:s.size=n.size+1:=by rw [<-l0,gQ]
 have M:s.size<=maxLen:=by unfold maxLen;omega
 have L0:n.size<=maxLen:=by unfold maxLen;omega
 have hO:Other w B (some gr):=by
  obtain ⟨H1,I1,J1,K1,_⟩:=id h;exact v8 K1 (by decide) K0
 have Y:=qI l0;obtain ⟨H1,I1,J1,r2,s2,t2,u2,M0,_⟩:=h.row;have x:=hI s w M;clear l0 G1;cases q:ab s with
 | false=>
  have HF:Hid (ao D n b=(1,D)):=if_pos (.inl (by rw [Y.out];exact q));rw [q] at x;have HN2:=qI x;clear x q;go_in;go_wp2_with ((go_at_call 136;(with_reducible refine HN2.out.mono ?_);rintro e z0 ⟨rfl,hz0⟩;obtain rfl:=hz0.symm));go_ret;rw [HF.out];exact ⟨rfl,h,gR w _⟩
 | true=>
 rw [q] at x;have HN2:=qI x;have y:=Io n w L0;clear x;cases t:bi n with
 | true=>
  have HF:Hid (ao D n b=(1,D)):=if_pos (.inr (.inr t));rw [t] at y;have HS:=qI y;clear y t q;exact z26
 | false=>
 rw [t] at y;have HS:=qI y;clear y;by_cases z:n.size=0
 ·have HF:Hid (ao D n b=(1,D)):=if_pos (.inr (.inl z));have r:=wW z;clear t q z;exact z26
 have r:=wX z;have N0: ¬(ab (shd n)=false\/n.size=0\/bi n=true):=by rw [Y,q,t];simp [z]
 have C:ao D n b=if D.dark=true then (5,D) else if (aa D.l s).isSome=true then (if (aB D s).1≠0 then aB D s else cR (aB D s).2 n b) else cR D n b:=by
  unfold ao;rw [if_neg N0,Y]
 clear N0 t z;cases E:D.dark with
 | true=>
  have HF:Hid (ao D n b=(5,D)):=by unfold Hid;rw [C,if_pos E]
  rw [E] at M0;clear C E q;exact z26
 | false=>
 rw [E] at M0;rw [E,if_neg (by decide)] at C;have u:=qI (gi h s qO);obtain ⟨L1,m0⟩:=gH ((aa D.l s).isSome);rw [<-m0] at u C;have N:=qI C;clear E C q;go_in;go_upto_region 6 with (first
  | (go_at_call 136;(with_reducible refine HN2.out.mono ?_);rintro e z0 ⟨rfl,hz0⟩;obtain rfl:=hz0.symm)
  | (go_at_call 199;(with_reducible refine HS.out.mono ?_);rintro e z0 ⟨rfl,hz0⟩;obtain rfl:=hz0.symm))
 go_upto_if 32 with ((go_at_call 125;(with_reducible refine u.out.mono ?_);rintro e O0 ⟨n0,rfl,P0⟩;have Q0:Below w w O0:=(by rw [P0];exact (bR _ _).drewN' n0);clear P0));have R0:=h.below Q0;have S0:w.grownBy O0 (some gr):=ax Q0 _;clear u;go_cut [] (fun Z=> ∃a:Dk,Hid (ao D n b=cR a n b)/\Hid ((aa a.l s).isSome=false)/\OkW a/\a.l.length+1<=3518437208880/\Rdk Z gr a/\w.grownBy Z (some gr))
 case first=>
  cases L1 with
  | false=>
   go_wp2_with fail;go_meet;exact ⟨D,by rw [N];exact if_neg (by decide),m0.symm,X,B1,R0,S0⟩
  | true=>
  have T0:=X.rem s;obtain ⟨F,a,a0⟩: ∃F a,aB D s=(F,a):=⟨_,_,rfl⟩;have o0:=oG R0 X s M qO;have U0:F=0->(aa a.l s).isSome=false/\a.l.length+1<=3518437208880:=by
   intro j;obtain ⟨O,V0⟩:=pi X.ord (n:=s) (by rw [a0];exact j);rw [a0] at O V0;refine ⟨by rw [O];rfl,?_⟩;rw [V0];have:=lU D.l s;omega
  rw [a0] at o0 T0 N;have M1:=qI U0;have N1:=qI o0;clear U0 a0 o0;go_wp2_with fail;refine N1.mono ?_;rintro e v2 ⟨rfl,W0,O1⟩;have X0:=aq S0 O1;by_cases G:F=0
  ·obtain ⟨Y0,b0⟩:=M1.out G;have HF:Hid (ao D n b=cR a n b):=by unfold Hid;rw [N];simp [G]
   have P1:=qI Y0;subst G;clear Y0;go_wp2_with fail;go_meet;exact ⟨a,HF,P1,T0,b0,W0,X0⟩
  have Z0:(F==0)=false:=beq_eq_false_iff_ne.2 G;have HF:Hid (ao D n b=(F,a)):=by unfold Hid;rw [N];simp [G]
  clear G;go_wp2_with fail;go_ret;rw [HF];exact ⟨rfl,W0,X0⟩
 case rest=>
 as_aux_lemma=>
 obtain ⟨a,HF,p0,P,b0,Q1,R1⟩:=hcut;obtain ⟨c0,q0⟩:=gX (frD a);have r0:=mz Q1 ⟨P.cap0,P.cap1⟩ (by have:=P.len;omega);rw [<-q0] at r0;have S1:=qI r0;obtain ⟨H,s0⟩:=gX (16+((n.size:Int)+1)+max (b.length:Int) 0);have a1:H=16+((n.size:Int)+1)+b:=by rw [s0];omega
 have T1: ∀d0,Calls an 148 #[n,.int .i64 b] d0 fun e w'=>e= .returned H/\w'=d0:=by rw [s0];exact fun d0=>wV n _ d0 qO qO qO
 have b1:cR a n b=if c0<H then (4,a) else fN a s n b:=by unfold cR;rw [IV,Y,q0,a1]
 rw [b1] at HF;clear r0 s0 a1 q0 b1 N m0;go_upto_if 45 with (first
  | (go_at_call 138;(with_reducible refine S1.out.mono ?_);rintro e w2 ⟨rfl,t0,c1⟩)
  | (go_at_call 148;(with_reducible refine (T1 _).mono ?_);rintro e z0 ⟨rfl,hz0⟩;obtain rfl:=hz0.symm))
 have u0:=aq R1 (ax c1 (some gr));by_cases e0:c0<H
 ·have U1:decide (c0<H)=true:=dT e0;have Q:Hid (ao D n b=(4,a)):=HF.out.trans (if_pos e0);clear HF;go_wp2_with fail;go_ret;rw [Q];exact ⟨rfl,t0,u0⟩
 have U1:decide (c0<H)=false:=qF e0;have Q:Hid (ao D n b=fN a s n b):=HF.out.trans (if_neg e0);clear HF;go_wp2_with fail;go_loopw [9] (fun v0 wr=>IU a s b gr w v0 wr) (fun v0 wr=>2*(b-(intOf v0).toNat)+(a.l+1-my gr wr))
 case atStart=>exact ⟨0,a,[],true,rfl,zL,rfl,rfl,p0,fun _=>rfl,PA _,fun _=>rfl,t0,u0⟩
 case round=>
 clear t0 u0 c1;obtain ⟨d,f,f0,first,rfl,ha,g0,w0,d1,V1,x2,W1,r,R⟩:=hrel;have I:OkW f:=by have S:=P.preS p0.out b0 J0 w0.out;rw [g0] at S;exact S
 have u:=qI (gi r s (by have:=I.len;omega));rw [d1] at u;have y2:=r.files;have X1: ∀{e1:World} {f1:Dk},Rdk e1 gr f1->my gr e1=f1.l:=fun h=>h.files;clear V1;go_upto_region 13 with (fail);go_cut [55] (fun Y1 Z=> ∃h0:Bool,Y1= .bool h0/\Hid (h0=true↔(d<b\/first=true))/\Below wr wr Z)
 case first=>
  by_cases x0:d<b
  ·have Z1:=dtX ((d:Int)<b);go_wp2_with fail;go_meet;exact ⟨true,rfl,⟨fun _=> .inl x0,fun _=>rfl⟩,bR _ _⟩
  have Z1:=dfX ((d:Int)<b);go_wp2_with ((go_at_call 125;(with_reducible refine u.out.mono ?_);rintro e z2 ⟨n0,rfl,rfl⟩));go_meet;exact ⟨first,by simp,⟨fun h=> .inr h,fun h=>h.resolve_left x0⟩,(bR _ _).drewN' n0⟩
 case rest=>
 obtain ⟨h0,rfl,i0,y0⟩:=hcut;replace R:=aq R (ax y0 (some gr));replace r:=r.below y0;have g1:=C1.keep R hO;clear u y0;cases h0 with
 | true=>
 have A0:first=true\/0<(b.drop d).length:=(i0.1 rfl).symm.imp id (fun h=>by rw [b8];omega);obtain ⟨v,a2⟩: ∃v:Nat,v=b-d:=⟨_,rfl⟩;obtain ⟨i,h1⟩: ∃i:Nat,i=min 64 v:=⟨_,rfl⟩;have A2:IntKind.i64.wrap (b-d)=(v:Int):=by rw [qJ qO];omega
 have B2:min (64:Int) (v:Int)=(i:Int):=qO;have C2:=qiJ (d+i);obtain ⟨m,B0,i1,j1,D2,E2,k1,_,l1,_,F2⟩:=fx (lo:=d) (hi:=d+i) (d:Int) ((d:Int)+i) rfl qO g1.1 qO qO D1 E1;have m1:m=(b.drop d).take 64:=by
  rw [j1,show d+i-d=i by omega,h1];by_cases j:v<=64
  ·rw [Nat.min_eq_right j,i9 (by rw [b8];omega),i9 (by rw [b8];omega)]
  rw [Oj qO]
 have n1:(b.drop d).drop 64=b.drop (d+i):=by
  rw [OT];by_cases j:v<=64
  ·rw [p9 qO,p9 qO]
  rw [show d+64=d+i by omega]
 have C0:aS b=(f0++[m])++eB false (b.drop (d+i)):=by rw [w0,wY A0,<-m1,n1,g9];rfl
 have b2:Far wc B B0 m:=Far.piece (k:=d) g1 k1 (lR _) qO l1;have G2:m.length<=64:=qO;have D0:=wZ (c:=m) (s:=s) (D:=a) (l:=f0) (by rw [g0]);rw [g0] at D0;obtain ⟨ec,g,J⟩: ∃ec g,aF f s m=(ec,g):=⟨_,_,rfl⟩;have E0:aR a s (f0++[m])=(ec,g):=by rw [D0];exact J
 have H2:OkW g:=by have S:=P.preS p0.out b0 J0 C0;rw [E0] at S;exact S
 have o1:Calls an 200 #[.pointer (some gr),s,.slice B0 m i1] wc (fF wc gr (ec,g)):=by rw [<-J];exact IW r I s M B B0 m i1 b2 K0
 have p1:ec=0->(aa g.l s).isSome=true/\g.l=ag f.l s ((aa f.l s).getD []++m):=by
  intro j;have O:=IT (D:=f) I.ord (s:=s) (c:=m) (by rw [J];exact j);rw [J] at O;exact O
 have q1:first=true\/0<i:=A0.imp id (fun h=>by rw [b8] at h;omega);have r1:=qI C0;have F0:=qI E0;have c2:=qI p1;have I2:=qI J;have d2:d+i<=b:=qO;clear m1 n1 C0 D0 E0 p1 J A0 h1 a2 j1 k1 l1;have e2:=qI o1;clear o1 i0;go_wp2_with fail;refine e2.mono ?_;rintro e f2 ⟨rfl,K,G0⟩;have T:=aq R G0;by_cases o:ec=0
 ·obtain ⟨s1,t1⟩:=c2.out o;subst o;have g2:=qI t1;have h2:Hid ((aa g.l s).isSome= !false):=s1;have U:g.l.length=f.l+(match aa f.l s with | none=>1 | some _=>0):=by rw [g2];exact pg _ _ _
  have L:(first=false->g.l.length=f.l)/\(first=true->g.l.length=f.l+1):=by
   have j:=d1.out;cases u1:aa f.l s with
   | none=>
    rw [u1] at j U;cases first with
    | true=>exact ⟨(fun h=>by cases h),fun _=>U⟩
    | false=>cases j
   | some J2=>
   rw [u1] at j U;cases first with
   | true=>cases j
   | false=>exact ⟨fun _=>U,(fun h=>by cases h)⟩
  have v1:=W1.out;have i2:g.l.length<=a.l+1:=by
   cases first with
   | true=>have:=v1 (by simp);have:=L.2 rfl;omega
   | false=>have:=L.1 rfl;omega
  have w1:=X1 K;have K2:f.l.length<=g.l:=by
   cases first with
   | true=>have:=L.2 rfl;omega
   | false=>have:=L.1 rfl;omega
  have j2:=qI w1;have k2:=qI L;have l2:=qI q1;clear s1 t1 U L v1 w1 q1;go_wp2_with fail;refine ⟨⟨d+i,g,f0++[m],false,by go_num,d2,F0.out,r1.out,h2,(fun h=>by cases h),i2,qI (fun h=>by cases h),K,T⟩,?_⟩;have j:=j2.out;simp only [intOf];rcases l2.out with x1 | x1
  ·have:=k2.2 x1;omega
  omega
 ·have Z0:(ec==0)=false:=beq_eq_false_iff_ne.2 o;have V:Hid (fN a s n b=(ec,g)):=by
   have j:aR a s (aS b)=(ec,g):=by rw [r1,xc (by rw [F0];exact o),F0]
   unfold Hid fN;rw [j,if_pos o]
  clear o;go_wp2_with fail;go_ret;rw [Q,V];exact ⟨rfl,K,T⟩
 | false=>
 have x0: ¬d<b:=fun h=>by have:=i0.2 (.inl h);cases this
 obtain rfl:first=false:=by cases first with | false=>rfl | true=>have:=i0.2 (.inr rfl);cases this
 have y1:aR a s (aS b)=(0,f):=by rw [w0,xe (by rw [b8];omega),List.append_nil];exact g0.out
 have j0:fN a s n b=if (bd f s).1≠0 then bd f s else bx (bd f s).2 s n:=by unfold fN;rw [y1,if_neg (by simp)]
 have H0:Calls an 201 #[.pointer (some gr),s] wc (fF wc gr (bd f s)):=IX r I s M (by have:=I.len;omega);have I0:=I.sync s;obtain ⟨W,k0,z1⟩: ∃W k0,bd f s=(W,k0):=⟨_,_,rfl⟩;rw [z1] at H0 I0 j0;simp only at I0 j0;have A1:=qI j0;clear y1 z1 j0;have m2:=qI H0;clear H0;go_wp2_with fail;refine m2.mono ?_;rintro e f2 ⟨rfl,K,G0⟩;have T:=aq R G0;by_cases o:W=0
 ·have V:Hid (fN a s n b=bx k0 s n):=by unfold Hid;rw [A1,if_neg (by rw [o];simp)]
  subst o;have n2:=qI (IY K I0 s n M L0);go_wp2_with fail;refine n2.mono ?_;rintro e L2 ⟨rfl,o2,p2⟩;go_wp2_with fail;go_ret;rw [Q,V];exact ⟨rfl,o2,aq T p2⟩
 have Z0:(W==0)=false:=beq_eq_false_iff_ne.2 o;have V:Hid (fN a s n b=(W,k0)):=by unfold Hid;rw [A1,if_pos o]
 clear o;go_wp2_with fail;go_ret;rw [Q,V];exact ⟨rfl,K,T⟩
end
