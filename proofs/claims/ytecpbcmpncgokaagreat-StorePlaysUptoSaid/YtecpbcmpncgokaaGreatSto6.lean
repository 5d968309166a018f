/- Walks and laws. Conditions: as stated. -/
import Derived.Test.YtecpbcmpncgokaaGreatStoRead
set_option maxRecDepth 99999
set_option maxHeartbeats 25600000
set_option linter.all false
open Go.Proofs.Tryz renaming prog->an
open Go.RowKit Go.Dol
namespace Go.Dol
def dZ (ge:BA->BA->Bool) (D:Dk) (P:List Pk) (id:BA) (a:Int):Except Int Obj:=match aP ge D P id with
 | .error c=> .error c
 | .ok d=>match aZ ge d with
  | none=> .error 2
  | some b=>if a≠0/\b.kind≠a then .error 6 else .ok b
theorem xk {ge D P id kind k} (a:aP ge D P id= .error k):dZ ge D P id kind= .error k:=by
 unfold dZ;rw [a]
theorem xl {ge D P id kind b} (a:aP ge D P id= .ok b) (c:aZ ge b=none):dZ ge D P id kind= .error 2:=by
 unfold dZ;rw [a];simp only;rw [c]
theorem xm {ge D P id kind b o} (a:aP ge D P id= .ok b) (c:aZ ge b=some o):dZ ge D P id kind=if kind≠0/\o.kind≠kind then .error 6 else .ok o:=by
 unfold dZ;rw [a];simp only;rw [c]
theorem Lb {P} (c:cQ P) {id b} (a:el P id=some b):b.length<=2097152:=by
 induction P with
 | nil=>cases a
 | cons d j e=>
 rw [mF] at a;split at a
 ·rename_i f g;injection a with a;rw [<-a];exact (c d (j8 ..)).2 f (List.mem_of_find?_eq_some g)
 exact e (fun h i=>c h (k8 _ i)) a
theorem Lc {ge D id b} (a:aK ge D id= .ok b):b.length<=2097152:=by
 unfold aK at a;split at a
 ·cases a
 split at a
 ·cases a
 split at a
 ·cases a
 rename_i d c;split at a
 ·injection a with a;rw [<-a];have:=(jr c).2;omega
 cases a
theorem qd {ge D P} (c:cQ P) {id b} (a:aP ge D P id= .ok b):b.length<=2097152:=by
 unfold aP at a;split at a
 ·rename_i f d;injection a with a;rw [<-a];exact Lc d
 split at a
 ·split at a
  ·rename_i g e;injection a with a;rw [<-a];exact Lb c e
  cases a
 cases a
theorem fO {ge D P id k} (b:aP ge D P id= .error k):k≠0:=by
 unfold aP at b;split at b
 ·cases b
 rename_i c a;split at b
 ·split at b
  ·cases b
  injection b with b;omega
 injection b with b;unfold aK at a;split at a
 ·injection a with a;omega
 split at a
 ·injection a with a;omega
 split at a
 ·injection a with a;omega
 split at a
 ·cases a
 injection a with a;omega
theorem Nm (D):bW D []=(0,D):=rfl
theorem qn {D n r} (a:(aB D n).1≠0):bW D (n::r)=aB D n:=if_pos a
theorem kg {D n r} (a:(aB D n).1=0):bW D (n::r)=bW (aB D n).2 r:=if_neg (by rw [a];decide)
theorem Nn (D):cB D []=(0,D):=rfl
theorem qp {D n r} (a:(dropO D n).1≠0):cB D (n::r)=dropO D n:=if_pos a
theorem mK {D n r} (a:(dropO D n).1=0):cB D (n::r)=cB (dropO D n).2 r:=if_neg (by rw [a];decide)
theorem kf (D):(bE D).length<=D.l.length:=by
 unfold bE;exact lT (List.length_filterMap_le _ _) (by rw [g7];exact lR _)
theorem qo {D z} (b:z∈bE D):z.size=32:=by
 unfold bE at b;obtain ⟨d,_,a⟩:=List.mem_filterMap.1 b;unfold bj at a;split at a
 ·split at a
  ·cases a
  split at a
  ·rename_i c;injection a with a;rw [<-a];exact c
  cases a
 cases a
theorem OkG.dropd {L B D} (a:OkG L B D) (id):OkG L B (dropO D id).2:=by
 unfold Go.Dol.dropO;split
 ·exact a
 split
 ·exact a.rem _
 exact a
theorem hU {a:Type} {l:List a} {k} {f:a} (hf:l[k]?=some f):l.drop k=f::l.drop (k+1):=z210
end Go.Dol
namespace Go.Proofs.YtecpbcmpncgokaaGreat
theorem Aw (a b):sc (a++b)=sc a++sc b:=by simp [sc]
theorem Ax (k w) (t:k<=8796093022208):
  Calls an 150 #[eL,(k:Nat)] w fun n w'=> ∃(A:OA) (c:Nat),n= .returned (.slice A 0 c)/\w'.ownsRow w.heap.size 9 1 (.slice A 0 c) 0 (sc [])/\Below w.heap.size w w':=by
 have u:=dfX ((k:Int)<0);have v:IntKind.i64.wrap (k-0)=k:=qJ qO;rcases p7 k with a | a
 ·have x:=dfX (0<k);clear a;exact z89
 obtain ⟨i0,o,q,r,f⟩:=info_parts gI;have g:(Builtin.firstCells i0.size 0 eL).run an w.drew= .ok (#[]:Array Value) w.drew:=by rw [r];simp [Builtin.firstCells]
 have i:=growslice_fits (need:=0+k) (old:=0) qO (show (0+k)*16<=kaa by omega);have b:=OD (P:=an) (ty:=38) w 38 3 9 i0 _ .i64 .i64 q9 B9 o q none 0 0 [] g k a qO qO qO (by rw [f];omega) (by rw [f];exact i);have s:=grownCap_ge w (0+k) 0 9;have j:grownCap w (0+k) 0 9<=maxLen:=grownCap_le_maxLen w (0+k) 0 9 (by unfold maxLen;omega);obtain ⟨d,l⟩:=gX (grownCap w (0+k) 0 9);rw [<-l] at b s j;obtain ⟨m,e⟩:=gX ((([]:List Value).toArray++Builtin.zeroCells (Value.string eS).cells k++Builtin.zeroCells (Value.string eS).cells (d-(0+k))));rw [<-e] at b;have y:m.size=d:=by rw [e];simp [Builtin.zeroCells,Value.cells];omega
 clear l e g i;go_in;go_wp2_with (at_builtin;refine O6 w rfl _ _ _ _ rfl _ _ rfl rfl _ _ b ?_);go_ret;refine ⟨_,_,rfl,⟨by simp [sc],.inr ⟨w,d,m,rfl,lR _,?_,zL,j,qO,by simp [sc]⟩⟩,((bR _ _).alloc (lR _) _).drew⟩;exact heap_alloc_new w _
def ie (b:List (List BA×OA×Nat)):List Value:=b.map fun a=> .slice a.2.1 a.1.length a.2.2
def dw (a:List (List BA×OA×Nat)):List BA:=a.flatMap (·.1)
theorem kH {a:List (List BA×OA×Nat)} {k} {x:List BA×OA×Nat} (h:a[k]?=some x):dw (a.take (k+1))=dw (a.take k)++x.1:=by
 unfold dw;exact z191
theorem kI (ls k):(dw (ls.take k)).length<=(dw ls).length:=by
 unfold dw;exact z193
def Ay (b:List (List BA×OA×Nat)) (w:World) (d i:Value) (wr:World):Prop:=∃ a c:Nat,d= .int .i64 c/\i= .int .i64 a/\a<=b.length/\Hid (c=(dw (b.take a)).length)/\w=wr
def Az (c:List (List BA×OA×Nat)) (w:World) (f i:Value) (wr:World):Prop:=
 ∃(b:Nat) (a:List BA) (d:OA) (e:Nat),f= .slice d a e/\i= .int .i64 b/\b<=c/\wr.ownsRow w 9 1 (.slice d a e) a (sc a)/\Hid (a=dw (c.take b))/\Below w w wr
theorem AA (A ls n c) (B:n=ls.length) (w) (o:Rd w w.heap.size 1 A n (ie ls)) (W:(dw ls).length<=8796093022208) (X:n<=8796093022208)
  (E:Hid (∀x∈ls,Rd w w 1 x.2.1 x.1.length (sc x.1))):
  Calls an 81 #[.slice A n c] w (rz w (dw ls)):=by
 have HN:=qI B;clear B;go_in;go_wp2_with fail;go_loopw [3,11] (fun t i wr=>Ay ls w t i wr) (fun _ i _=>n-(intOf i).toNat)
 case atStart=>exact ⟨0,0,rfl,rfl,zL,qI rfl,rfl⟩
 case round=>
  obtain ⟨b,f,rfl,rfl,F,u,rfl⟩:=hrel;have Y:b<=n:=by rw [HN];exact F
  have Z:f<=(dw ls).length:=by rw [u];exact kI ls b
  by_cases v:b<n
  ·obtain ⟨G,H,rfl,I,j⟩:=o.at_ qO;have y:b<ls:=by rw [<-HN];exact v
   obtain ⟨x,d⟩: ∃x,ls[b]?=some x:=⟨ls[b],gE y⟩;obtain ⟨a,q,r⟩:=x;have k:(ie ls)[b]?=some (.slice q a r):=by simp [ie,d]
   have J:=j b _ k;have K:f+a<=(dw ls).length:=by
    have h1:=kI ls (b+1);rw [kH d,b7,<-u] at h1;exact h1
   have a0:IntKind.i64.wrap (f+a)=((f+a:Nat):Int):=by rw [qJ qO];omega
   have z:=qI d;clear d k j o;go_wp2_with fail;refine ⟨⟨b+1,f+a,rfl,by go_num,qO,qI ?_,rfl⟩,by simp [intOf];omega⟩;rw [kH z.out,b7,<-u]
  have b0:f<=8796093022208:=qO;go_wp2_with fail;refine (Ax f _ qO).mono ?_;rintro c0 d0 ⟨L,M,rfl,l,C⟩;go_wp2_with fail;go_loopw [6,27] (fun t i wr=>Az ls w t i wr) (fun _ i _=>n-(intOf i).toNat)
  case atStart=>exact ⟨0,[],L,M,rfl,rfl,zL,l,qI rfl,C⟩
  case round=>
   clear l C;obtain ⟨e,g,N,O,rfl,rfl,P,l,s,m⟩:=hrel;have e0:e<=n:=by rw [HN];exact P
   have Q:=m.size;have f0:g<=(dw ls).length:=by rw [s];exact kI ls e
   by_cases v:e<n
   ·have D:=o.belowW m (lR _);obtain ⟨G,H,rfl,I,j⟩:=D.at_ qO;have y:e<ls:=by rw [<-HN];exact v
    obtain ⟨x,d⟩: ∃x,ls[e]?=some x:=⟨ls[e],gE y⟩;obtain ⟨a,q,r⟩:=x;have k:(ie ls)[e]?=some (.slice q a r):=by simp [ie,d]
    have J:=j e _ k;have R:=(E.out _ (g8 d)).belowW m (lR _);have K:g.length+a<=(dw ls).length:=by
     have h1:=kI ls (e+1);rw [kH d,b7,<-s] at h1;exact h1
    have g0:g.length+a<=8796093022208:=qO;have z:=qI d;clear d k j o D;go_wp2_with (at_builtin;refine eF rfl (.tmp 31) (.tmp 32) 38 9 _ 16 rfl q9 gI rfl w.heap.size _ g.length (sc g) rfl l _ q a.length r (sc a) rfl R (kJ _) (by unfold maxLen;omega) (by omega) Q ?_);intro S T h0 U V i0 h1 j0;go_wp2_with fail;refine ⟨⟨e+1,g++a,S,T,by rw [b7],by go_num,qO,by rw [b7,Aw];exact U,qI ?_,m.trans V⟩,by simp [intOf];omega⟩;rw [kH z.out,<-s]
   go_wp2_with fail;go_ret;refine ⟨g,N,O,qI ?_,rfl,l,m⟩;have h1:=s.out;exact z131
theorem Da {L B D} (a:OkG L B D) (d:D.l+1<=L) (e:2621449<=B) (raw):OkG L B (putO geS D raw).2:=by
 by_cases b:ah geS raw=false
 ·rw [ju _ _ _ b];exact a
 have c:ah geS raw=true:=by simpa using b
 rw [jv c];cases aK geS D (idO raw) with
 | ok f=>
  simp only;split<;>exact a
 | error g=>
 simp only;split
 ·exact a
 split<;>exact a.save _ _ d (lT (jw c) e)
theorem lp {L B D} (a:OkG L B D) (id):OkG L B (Go.Dol.dropO D id).2:=by
 unfold Go.Dol.dropO;split
 ·exact a
 split
 ·exact a.rem _
 exact a
theorem yD: ∀(n:Nat) (prev:LU) (d:Nat) (l:LU) (ps:List Pt) (r:LU),bp geS n prev d l=some (ps,r)->ps=n/\ ∀x∈ps,ah geS x.raw=true/\x.id=aw x.raw
 | 0,_,_,_,ps,r,b=>by
  rw [bp] at b;injection b with b;injection b with e g;rw [<-e];exact ⟨rfl,fun x c=>(m9 c).elim⟩
 | n+1,prev,d,l,ps,r,b=>by
  rw [bp] at b;split at b
  ·cases b
  rename_i p rest a;split at b
  ·cases b
  rename_i k m h;injection b with b;injection b with e g;obtain ⟨i,j⟩:=yD n _ _ _ _ _ h;rw [<-e];refine ⟨by rw [List.length_cons,i],fun x c=> ?_⟩;rcases i8.1 c with rfl | c
  ·unfold cg at a;split at a
   ·cases a
   split at a
   ·cases a
   split at a
   ·cases a
   split at a
   ·rename_i f;injection a with a;injection a with a _;rw [<-a];exact ⟨f.2,f.1.symm⟩
   cases a
  exact j x c
theorem mI {b ps} (a:ba geS b=some ps):ps.length<=4096/\(∀x∈ps,ah geS x.raw=true/\x.id=aw x.raw)/\(ps.map (·.id)).Nodup:=by
 unfold ba at a;split at a
 ·cases a
 split at a
 ·cases a
 split at a
 ·cases a
 split at a
 ·cases a
 rename_i f _ _ _ c;split at a
 ·rename_i d;injection a with a;obtain ⟨g,e⟩:=yD _ _ _ _ _ _ c;rw [<-a];exact ⟨qO,e,d.2⟩
 cases a
theorem eV: ∀{l:List Fil} {P:List Pk},ai geS l=some P->P.length<=l/\ ∀p∈P,∃b,(p.1,b)∈l/\aD p.1=true/\ba geS b=some p.2/\ap b=p.1
 | [],P,a=>by
  rw [ai] at a;injection a with a;rw [<-a];exact ⟨lR _,fun p c=>(m9 c).elim⟩
 | f::r,P,a=>by
  rw [ai] at a;split at a
  ·rename_i i;split at a
   ·cases a
   rename_i ps j;split at a
   ·rename_i k;cases d:ai geS r with
    | none=>rw [d] at a;cases a
    | some n=>
    rw [d] at a;injection a with a;obtain ⟨m,e⟩:=eV d;rw [<-a];refine ⟨by rw [List.length_cons,List.length_cons];omega,fun p c=> ?_⟩;rcases i8.1 c with rfl | c
    ·exact ⟨f.2,j8 ..,i,j,k⟩
    obtain ⟨b,g,h⟩:=e p c;exact ⟨b,k8 _ g,h⟩
   cases a
  obtain ⟨m,e⟩:=eV a;refine ⟨by rw [List.length_cons];omega,fun p c=> ?_⟩;obtain ⟨b,g,h⟩:=e p c;exact ⟨b,k8 _ g,h⟩
theorem hJ {l P} (a:ai geS l=some P):cQ P:=fun b c=>by
 obtain ⟨h,_,_,d,_⟩:=(eV a).2 b c;obtain ⟨e,f,_⟩:=mI d;exact ⟨e,fun x g=>dD _ (f x g).1⟩
def Ld (w:World) (g m:Nat) (D:Dk) (r:Option (List Pk)) (b:Ending) (w':World):Prop:=
 Below w w w'/\match r with
 | none=>b= .returned (.tuple #[.pointer none,.int .i64 2])
 | some f=> ∃a c d e,Hid (e.map PkA.pk=f)/\b= .returned (.tuple #[.pointer (some ⟨a,0,none⟩),i0])/\w.heap.size<=a/\w.heap.size<=d/\w.heap.size<=c/\Sto w' a g m c d D e
section
variable {w w':World} {base gp gs g m:Nat} {xs:List PkA} {D:Dk}
theorem Le:ab ⟨#[112,47]⟩=true:=by decide
theorem ku (d:Dsk w g m D) (e:OkG kac kab D):Calls an 17 #[.pointer (some g)] w (Ld w g m D (ai geS D.l)):=by
 have q:OkW D:=e.mono (lR _) (by decide);obtain ⟨r,f⟩:=gH (ai geS D.l);rw [<-f];have h:=qI (jj d e.ord ⟨#[112,47]⟩ (fun s t=>q.small' t));have i:(aU D ⟨#[112,47]⟩).2≠1:=by
  unfold aU;rw [if_neg (by rw [Le];decide)];cases aa D.l ⟨#[112,47]⟩<;>simp
 obtain ⟨H,n⟩:=gX (aU D ⟨#[112,47]⟩);rw [<-n] at h i;have I:=beq_eq_false_iff_ne.2 i;clear n i;go_in;go_wp2_with fail;refine h.mono ?_;rintro o J ⟨s,K,L,u,rfl,M,b⟩;have p:=d.below b;have j:=qI (qK p e);rw [<-f] at j;clear h u;go_wp2_with fail;refine j.mono ?_;clear f j;cases r with
 | none=>
  rintro o c ⟨a,rfl⟩;go_wp2_with fail;go_ret2;exact ⟨b.next a,rfl⟩
 | some N=>
 rintro o c ⟨a,base,gp,xs,v,x,y,z,A,rfl,O,P,B⟩;have Q:=b.size;have R:=a.size;obtain ⟨S,T⟩:=d.lt;have C:=b.next a;have E:=o9 c 100 [.pointer (some g),.pointer (some gp)];have k:=bAl c (.cells #[.pointer (some g),.pointer (some gp)] 100);have F:=((p.below a).below k);have G:=B.below k;go_wp2_with fail;go_ret2;exact ⟨C.next k,c,base,gp,xs,A,rfl,qO,qO,qO,E,F,qO,v,x,y,z,0,_,G⟩
end
def RetObjS (w:World) (r:Except Int Go.Dol.Obj) (a:Ending) (w':World):Prop:=match r with
 | .error b=>a= .returned (.tuple #[.agg zcells.toArray,b])/\Below w w w'
 | .ok c=>gW w (some c) a w'
section
variable {w w':World} {base gp gs g m:Nat} {xs:List PkA} {D:Dk}
theorem KS (h:Sto w gs g m base gp D xs) (H:OkW D) (C:cQ (xs.map PkA.pk)) (I:xs.length<=kac) (id) (J:id.size<=70368744177600) (kind):
  Calls an 62 #[.pointer (some gs),.string id,.int .i64 kind] w (RetObjS w (dZ geS D (xs.map PkA.pk) id kind)):=by
 obtain ⟨y,c⟩:=gH (dZ geS D (xs.map PkA.pk) id kind);rw [<-c];have ha:=bAl w (.cells zcells.toArray 40);have t:=o9 w 40 zcells;have U:(w.alloc (.cells zcells.toArray 40)).heap.size=w+1:=by simp
 have E:=qI (hV (h.below ha) H C I id J);obtain ⟨K,b⟩:=gX (aP geS D (xs.map PkA.pk) id);rw [<-b] at E;go_in;go_wp2_with fail;refine E.mono ?_;intro F z G;cases K with
 | error k=>
  obtain ⟨i,rfl⟩:=G;have L:=bne_iff_ne.2 (fO b.symm);have a:=qI (c.out.trans (xk b.symm));have j:=t.below i t.lt;have n:=ha.next i;clear b c;go_wp2_with ((refine dy (by rfl) _ (.tmp 6) (.tmp 19) rfl w.heap.size zcells rfl rfl 40 zcells j qkR rfl (by decide) ?_;intro w6 hB6 hg6));have hl:=Go.run_loadVar_row (P:=an) w6 w 40 40 zcells.toArray (0,0) _ hB6 Go.Proofs.Tryz.underlying40 rfl qkR;rw [a];refine bodyPost_ret (v:=.tuple #[.agg zcells.toArray,.int .i64 k]) ?_ rfl ⟨rfl,n.grown hg6 n.size (fun k hk=>by cases hk;exact lR _)⟩;simp [results,Pp,asAddr,hl]
 | ok M=>
 obtain ⟨i,N,O,Q,u,rfl,R,S,T⟩:=G;have j:=t.below i t.lt;have n:=ha.next i;have V:=qd C b.symm;have e:=js O N Q z (d8 R) S T (by rw [u];omega);go_wp2_with fail;rw [u] at e;cases l:aZ geS M with
 | none=>
  rw [l] at e;have o:=qI e;have a:=qI (c.out.trans (xl b.symm l));clear e l c b;rw [<-u] at o;refine o.mono ?_;rintro F w2 ⟨rfl,q⟩;have A:=j.below q j.lt;have r:=n.next q;have hN:=o9 w2 40 zcells;have hB3:=A.alloc (.cells zcells.toArray 40);have hb03:=r.alloc r.size (.cells zcells.toArray 40);go_wp2_with ((first
   | (refine wpList_load_row rfl 40 _ rfl w2.heap.size rfl _ _ _ _ hN Go.Proofs.Tryz.underlying40 rfl qkR ?_)
   | (refine dy (by rfl) _ (.tmp 6) (.tmp 39) rfl w.heap.size zcells rfl rfl 40 zcells hB3 qkR rfl (by decide) ?_;intro w6 hB6 hg6)))
  have hl:=Go.run_loadVar_row (P:=an) w6 w 40 40 zcells.toArray (0,0) _ hB6 Go.Proofs.Tryz.underlying40 rfl qkR;rw [a];refine bodyPost_ret (v:=.tuple #[.agg zcells.toArray,.int .i64 2]) ?_ rfl ⟨rfl,hb03.grown hg6 hb03.size (fun k hk=>by cases hk;exact lR _)⟩;simp [results,Pp,asAddr,hl]
 | some B=>
 rw [l] at e;have o:=qI e;have a:=qI (c.out.trans (xm b.symm l));clear e l c b;rw [<-u] at o;refine o.mono ?_;rintro F w2 ⟨k,Ad,d,cd,Ae,en,ce,tr,Ap,pa,cp,ta,na,wh,st,te,hoE,rfl,r1,r2,r3,q,r5,r6,r7⟩;have A:=j.below q j.lt;have r:=n.next q;have hN:=o9 w2 40 [k,.slice Ad d cd,.slice Ae en ce,tr,.slice Ap pa cp,ta,na,wh,st,te];have hB3:=A.alloc (.cells ([.int .i64 k,.slice Ad d cd,.slice Ae en ce,.string tr,.slice Ap pa cp,.string ta,.string na,.string wh,.int .i64 st,.string te]:List Value).toArray 40);have hbN:=bAl w2 (.cells ([.int .i64 k,.slice Ad d cd,.slice Ae en ce,.string tr,.slice Ap pa cp,.string ta,.string na,.string wh,.int .i64 st,.string te]:List Value).toArray 40);have hb03:=r.alloc r.size (.cells ([.int .i64 k,.slice Ad d cd,.slice Ae en ce,.string tr,.slice Ap pa cp,.string ta,.string na,.string wh,.int .i64 st,.string te]:List Value).toArray 40);have hlt1:w.heap.size<z:=by have:=i.size;omega
 have hlt2:w.heap.size<=z:=qO;have x:B.kind=k:=by rw [hoE]
 rw [x] at a;have W:=hN.cell 0;by_cases f:kind=0
 ·have hr3:Hid (y= .ok B):=by
   unfold Hid;rw [a,if_neg (fun h=>h.1 f)]
  subst f;clear a x;exact z225
 have L:=bne_iff_ne.2 f;have z2:=beq_eq_false_iff_ne.2 f;by_cases s:k=kind
 ·have hr3:Hid (y= .ok B):=by
   unfold Hid;rw [a,if_neg (fun h=>h.2 s)]
  subst s;clear a x f;exact z225
 have X:=bne_iff_ne.2 s;have hr3:Hid (y= .error 6):=by
  unfold Hid;rw [a,if_pos ⟨f,s⟩]
 clear a x f s;go_wp2_with ((refine dy (by rfl) _ (.tmp 6) (.tmp 38) rfl w.heap.size zcells rfl rfl 40 zcells hB3 qkR rfl (by decide) ?_;intro w6 hB6 hg6));have hl:=Go.run_loadVar_row (P:=an) w6 w 40 40 zcells.toArray (0,0) _ hB6 Go.Proofs.Tryz.underlying40 rfl qkR;rw [hr3];refine bodyPost_ret (v:=.tuple #[.agg zcells.toArray,.int .i64 6]) ?_ rfl ⟨rfl,hb03.grown hg6 hb03.size (fun k hk=>by cases hk;exact lR _)⟩;simp [results,Pp,asAddr,hl]
end
def Lg (r:Int×Dk) (c B:Nat) (d:BA) (ns:List BA) (n g m:Nat) (w:World) (i:Value) (wr:World):Prop:=
 ∃(a:Nat) (b:Dk),i= .int .i64 a/\a<=n/\Hid (r=bW b (bX d (ns.drop a)))/\OkG c B b/\Dsk wr g m b/\Tw w wr g m
def Lh (r:Int×Dk) (c B:Nat) (ids:List BA) (n g m:Nat) (w:World) (i:Value) (wr:World):Prop:=
 ∃(a:Nat) (b:Dk),i= .int .i64 a/\a<=n/\Hid (r=cB b (ids.drop a))/\OkG c B b/\Dsk wr g m b/\Tw w wr g m
section
variable {w w':World} {base gp gs g m:Nat} {xs:List PkA} {D:Dk}
theorem Li (G:Sto w gs g m base gp D xs) (Q:OkG kac kab D) (but):
  Calls an 131 #[.pointer (some gs),.string but] w (da w g m (bm geS D but)):=by
 obtain ⟨r,H⟩:=gH (bm geS D but);rw [<-H];have B0:w.cell? gs=some (.pointer (some g)):=by rw [G.st.cell];rfl
 have m0:=G.st;have y:=G.lt;have R:=G.dk;have S:=qI (qK R Q);obtain ⟨C0,u⟩:=gX (ai geS D.l);rw [<-u] at S;clear G;go_in;go_wp2_with fail;refine S.mono ?_;cases C0 with
 | none=>
  have T:Hid (r=(2,D)):=by
   unfold Hid;rw [H];unfold bm;rw [<-u]
  clear u H S;rintro z Z ⟨t,rfl⟩;go_wp2_with fail;go_ret;rw [T];exact ⟨rfl,R.below t,B7 t⟩
 | some a0=>
 have T:Hid (r=hD D a0 but):=by
  unfold Hid;rw [H];unfold bm;rw [<-u]
 have Y0:=(eV u.symm).1;have b0: ∀b∈a0,ab b.1=true:=fun b k=>by
  obtain ⟨Z0,D0,_⟩:=(eV u.symm).2 b k;exact Q.names _ D0
 have a1:=Q.len;clear u H S;rintro z Z ⟨t,b1,E0,d,F0,G0,c1,d1,U,rfl,e1,f1,n0⟩;have H0:=R.below t;have I:=m0.below t m0.lt;have g1:Z.cell? E0=some (.slice F0 d G0):=by rw [n0.blk.cell];rfl
 have h1:=I.c 0;have i1:d.length<=kac:=by
  have:=congrArg List.length U.out;rw [g7] at this;omega
 have b0: ∀b∈d,ab b.n=true:=fun b k=>b0 b.pk (by rw [<-U];exact e9.2 ⟨b,k,rfl⟩);obtain ⟨o,c0⟩:=gX (bW D (bX but (d.map (·.n))));have o0:a0.map Prod.fst=d.map (·.n):=by
  rw [<-U,w9];rfl
 have d0:Hid (r=if o.1≠0 then o else cB o.2 (bE o.2)):=by
  unfold Hid;rw [T];unfold hD;rw [o0,<-c0]
 have p0:=qI c0;obtain ⟨j1,k1⟩:=R.lt;clear c0 T o0 U B0;go_wp2_with fail;go_loopw [29] (fun i wr=>Lg o 3518437208880 140737488351232 but (d.map (·.n)) d g m Z i wr) (fun i _=>d-(intOf i).toNat)
 case atStart=>exact ⟨0,D,rfl,zL,by unfold Hid;rw [p0];rfl,Q,H0,Tw.refl _ _ _⟩
 case round=>
  obtain ⟨a,s,rfl,I0,p,A,J,B⟩:=hrel;have J0:=qiJ (a+1);have K0:=I.keepB (B.block gs I.lt y.2.2.2.2.1 y.2.2.2.2.2);have l1:=K0.c 0;by_cases e0:a<d
  ·have L0:=ltI a d.length;have M0:=zeI a;obtain ⟨b,k⟩: ∃b,d[a]?=some b:=⟨d[a],gE e0⟩;obtain ⟨q0,r0,rfl,N0,C⟩:=(d8 (hA n0.names (fun f0 O0 g0=>B.block f0 g0 qO qO))).at_ qO;have P0:wr.cell? ⟨q0,r0+a,none⟩=some (.string b.n):=C _ _ (by rw [sc,m7,m7,k];rfl);have K:(d.map (·.n)).drop a=b.n::(d.map (·.n)).drop (a+1):=hU (by rw [m7,k];rfl);have j:=p.out;rw [K] at j;clear C K p;by_cases L:b.n=but
   ·have Q0:=eM L;have E:Hid (o=bW s (bX but ((d.map (·.n)).drop (a+1)))):=by
     unfold Hid;rw [j];unfold bX;rw [List.filter_cons_of_neg (by simpa using L)]
    clear j L;go_wp2_with fail;exact ⟨⟨a+1,s,by go_num,qO,E,A,J,B⟩,by simp [intOf];omega⟩
   have Q0:=eN L;have E:o=bW s (b.n::bX but ((d.map (·.n)).drop (a+1))):=by
    rw [j];unfold bX;rw [List.filter_cons_of_pos (by simpa using L)]
   have V:=oj J (A.mono (lR _) (by decide)) b.n (by have:=dN (b0 _ (g8 k));unfold maxLen;omega);obtain ⟨h,e⟩:=gX (aB s b.n);rw [<-e] at V;have s0:=qI V;by_cases f:h.1=0
   ·have F:Hid (o=bW h.2 (bX but ((d.map (·.n)).drop (a+1)))):=by
     unfold Hid;rw [E,kg (by rw [<-e];exact f),<-e]
    have W:OkG kac kab h.2:=by rw [e];exact A.rem _
    clear V e E j;obtain ⟨v,M⟩:=h;change v=0 at f;subst f;go_wp2_with fail;refine s0.mono ?_;rintro z h0 ⟨rfl,N,x⟩;go_wp2_with fail;exact ⟨⟨a+1,M,by go_num,qO,F,W,N,B.step x⟩,by simp [intOf];omega⟩
   have F:o=h:=by rw [E,qn (by rw [<-e];exact f),<-e]
   have O:Hid (r=h):=by
    unfold Hid;rw [d0,F,if_pos f]
   clear V e E j F;obtain ⟨v,M⟩:=h;change v≠0 at f;have R0:=bne_iff_ne.2 f;clear f;go_wp2_with fail;refine s0.mono ?_;rintro z h0 ⟨rfl,N,x⟩;go_wp2_with fail;go_ret;rw [O];exact ⟨rfl,N,(B7 t).step (B.step x)⟩
  have t0:o=(0,s):=by
   rw [p,p9 (by rw [g7];omega)];rfl
  have O:Hid (r=cB s (bE s)):=by
   unfold Hid;rw [d0,t0];rfl
  have u0:=qI (tB J (A.mono (lR _) (by decide)));clear t0 p d0 p0;go_wp2_with fail;refine u0.mono ?_;rintro z h0 ⟨q,m1,n1,X,rfl,S0,v0⟩;have N:=J.below v0;have x:=B.step (B7 v0);have w0:=I.keepB (x.block gs I.lt y.2.2.2.2.1 y.2.2.2.2.2);have o1:q.length<=kac:=by
   rw [X];exact lT (kf s) A.len
  have T0: ∀x0∈q,x0.size=32:=by rw [X];exact fun x0 U0=>qo U0
  rw [<-X] at O;have y0:=O;obtain ⟨p1,q1⟩:=J.lt;clear X O u0;go_wp2_with fail;go_loopw [52] (fun i wr=>Lh r 3518437208880 140737488351232 q q g m h0 i wr) (fun i _=>q-(intOf i).toNat)
  case atStart=>exact ⟨0,s,rfl,zL,y0,A,N,Tw.refl _ _ _⟩
  case round=>
   clear y0;obtain ⟨a,z0,rfl,I0,p,W,K,P⟩:=hrel;have J0:=qiJ (a+1);have V0:=w0.keepB (P.block gs w0.lt y.2.2.2.2.1 y.2.2.2.2.2);have r1:=(V0.cell 0);by_cases e0:a<q
   ·have L0:=ltI a q.length;have M0:=zeI a;obtain ⟨b,k⟩: ∃b,q[a]?=some b:=⟨q[a],gE e0⟩;obtain ⟨q0,r0,rfl,N0,C⟩:=(d8 (hA S0 (fun f0 O0 g0=>P.block f0 g0 qO qO))).at_ qO;have P0:_=some (Value.string b):=C a _ (by rw [sc,m7,k];rfl);have i0:=hU k;have j:=p.out;rw [i0] at j;have Y:=CM K (W.mono (lR _) (by decide)) b (by have:=T0 b (g8 k);omega);obtain ⟨h,e⟩:=gX (dropO z0 b);rw [<-e] at Y;have A0:=qI Y;by_cases f:h.1=0
    ·have F:Hid (r=cB h.2 (q.drop (a+1))):=by
      unfold Hid;rw [j,mK (by rw [<-e];exact f),<-e]
     have W0:OkG kac kab h.2:=by rw [e];exact W.dropd _
     clear Y e j p i0 C;obtain ⟨v,M⟩:=h;change v=0 at f;subst f;go_wp2_with fail;refine A0.mono ?_;rintro z X0 ⟨rfl,j0,k0⟩;go_wp2_with fail;exact ⟨⟨a+1,M,by go_num,qO,F,W0,j0,P.step k0⟩,by simp [intOf];omega⟩
    have l0:Hid (r=h):=by
     unfold Hid;rw [j,qp (by rw [<-e];exact f),<-e]
    clear Y e j p i0 C;obtain ⟨v,M⟩:=h;change v≠0 at f;have R0:=bne_iff_ne.2 f;clear f;go_wp2_with fail;refine A0.mono ?_;rintro z X0 ⟨rfl,j0,k0⟩;go_wp2_with fail;go_ret;rw [l0];exact ⟨rfl,j0,(B7 t).step (x.step (P.step k0))⟩
   have l0:Hid (r=(0,z0)):=by
    unfold Hid;rw [p,p9 qO];rfl
   clear p;go_wp2_with fail;go_ret;rw [l0];exact ⟨rfl,K,(B7 t).step (x.step P)⟩
end
