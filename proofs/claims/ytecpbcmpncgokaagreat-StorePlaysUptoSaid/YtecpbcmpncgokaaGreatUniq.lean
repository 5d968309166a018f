/- Walks and laws. Conditions: as stated. -/
import Derived.Test.YtecpbcmpncgokaaGreatRegEnd
import Derived.Test.YtecpbcmpncgokaaGreatRPk1
import Derived.Test.YtecpbcmpncgokaaGreatObjC
import Derived.Test.YtecpbcmpncgokaaGreatPressB
import Derived.Test.YtecpbcmpncgokaaGreatDeltaB
import Derived.Lib.SlicesCompact
set_option maxRecDepth 99999
set_option maxHeartbeats 25600000
set_option linter.all false
open Go.Proofs.Tryz renaming prog->an
open Go.RowKit Go.Dol
namespace Go.Dol
def af (id:BA):BA:=⟨#[111,47]⟩++⟨(cq id.data.toList).toArray⟩
theorem gh (id):(af id).data.toList=111::47::cq id.data.toList:=by
 unfold af;rw [Np];simp
theorem gP (id):(af id).size=2+2*id.size:=by
 have a:=congrArg List.length (gh id);rw [List.length_cons,List.length_cons,gd] at a;have b:(af id).data.toList.length=(af id).size:=by rw [v7];rfl
 have c:id.data.toList=id.size:=by rw [v7];rfl
 omega
theorem jy {a b} (d:af a=af b):a=b:=by
 have c:=gh a;rw [d,gh b] at c;injection c with _ c;injection c with _ c;exact fD (CB c).symm
def aK (ge:BA->BA->Bool) (D:Dk) (id:BA):Except Int (LU):=
 if id.size≠32 then .error 1 else match aa D.l (af id) with
  | none=> .error 6
  | some b=>match cf b 2097152 with
   | none=> .error 2
   | some a=>if aw a=id.data.toList/\ah ge a=true then .ok a else .error 2
def idO (raw:LU):BA:=idS (aw raw)
theorem dO (raw):(idO raw).size=32:=by
 show (aw raw).toArray.size=32;rw [List.size_toArray,ew]
def putO (ge:BA->BA->Bool) (D:Dk) (raw:LU):Except Int BA×Dk:=
 if ah ge raw=false then (.error 1,D) else
 match aK ge D (idO raw) with
 | .ok a=>if a=raw then (.ok (idO raw),D) else (.error 7,D)
 | .error b=>if b=2 then (.error 2,D) else
  if (ao D (af (idO raw)) (aA raw)).1≠0 then (.error (ao D (af (idO raw)) (aA raw)).1,(ao D (af (idO raw)) (aA raw)).2) else (.ok (idO raw),(ao D (af (idO raw)) (aA raw)).2)
def dropO (D:Dk) (id:BA):Int×Dk:=if id.size≠32 then (1,D) else if (aa D.l (af id)).isSome=true then aB D (af id) else (6,D)
def bj (n:BA):Option BA:=
 match n.data.toList with
 | 111::47::t=>match aX t with
  | none=>none
  | some q=>if q.length=32 then some (idS q) else none
 | _=>none
def bE (D:Dk):List BA:=(D.l.map (·.1)).filterMap bj
def cL (prev:LU) (ps:List Pt):LU:=match ps.getLast? with | none=>prev | some a=>a.raw
def bO (d:Nat) (ps:List Pt):Nat:=match ps.getLast? with | none=>d | some a=>a.depth
theorem Gb (prev) (p:Pt) (ps):cL prev (p::ps)=cL p.raw ps:=by
 unfold cL;cases ps with
 | nil=>rfl
 | cons a b=>rw [OO,List.getLast?_cons]
theorem Gc (d) (p:Pt) (ps):bO d (p::ps)=bO p.depth ps:=by
 unfold bO;cases ps with
 | nil=>rfl
 | cons a b=>rw [OO,List.getLast?_cons]
theorem Gd (prev) (p:Pt) (ps):cL prev (ps++[p])=p.raw:=by simp [cL]
theorem Ge (d) (p:Pt) (ps):bO d (ps++[p])=p.depth:=by simp [bO]
theorem lW {ge:BA->BA->Bool} (k:Nat): ∀(i:Nat) (prev:LU) (d:Nat) (l:LU),bp ge (i+k) prev d l=match bp ge i prev d l with
  | none=>none
  | some (ps,r)=>match bp ge k (cL prev ps) (bO d ps) r with
   | none=>none
   | some (b,c)=>some (ps++b,c)
 | 0,prev,d,l=>by
  rw [x9];show _=match bp ge k prev d l with | none=>none | some (b,c)=>some ([]++b,c);cases bp ge k prev d l with
  | none=>rfl
  | some x=>rfl
 | i+1,prev,d,l=>by
  have f:i+1+k=(i+k)+1:=qO;rw [f,bp,bp];cases h:cg ge 1099511627776 prev d l with
  | none=>rfl
  | some x=>
  obtain ⟨a,e⟩:=x;simp only;rw [lW k i a.raw a.depth e];cases j:bp ge i a.raw a.depth e with
  | none=>rfl
  | some g=>
  obtain ⟨ps,r⟩:=g;simp only;rw [Gb,Gc];cases bp ge k (cL a.raw ps) (bO a.depth ps) r with
  | none=>rfl
  | some m=>rfl
section
variable {ge:BA->BA->Bool} {i n:Nat} {l r:LU} {ps:List Pt}
theorem pt (a:bp ge i [] 0 l=some (ps,r)) {p:Pt} {rest} (b:cg ge 1099511627776 (cL [] ps) (bO 0 ps) r=some (p,rest)):bp ge (i+1) [] 0 l=some (ps++[p],rest):=by
 rw [lW,a];simp only;rw [bp,b];rfl
theorem iI (b:bp ge i [] 0 l=some (ps,r)) (hi:i<n) (c:cg ge 1099511627776 (cL [] ps) (bO 0 ps) r=none):bp ge n [] 0 l=none:=by
 obtain ⟨a,rfl⟩: ∃a,n=i+(a+1):=⟨n-i-1,qO⟩;rw [lW,b];simp only;rw [bp,c]
theorem Gf (d:bp ge i [] 0 l=some (ps,r)) (hi:i<n) {p:Pt} {rest} (e:cg ge 1099511627776 (cL [] ps) (bO 0 ps) r=some (p,rest)) (f:p.id∈ps.map (·.id)) {qs r'} (a:bp ge n [] 0 l=some (qs,r')): ¬(qs.map (·.id)).Nodup:=by
 obtain ⟨b,rfl⟩: ∃b,n=(i+1)+b:=⟨n-i-1,qO⟩;rw [lW,pt d e] at a;simp only at a;split at a
 ·cases a
 injection a with a;injection a with a _;subst a;rw [g9,p8,List.singleton_append,List.map_cons,E9];intro g;obtain ⟨c,h,j⟩:=e9.1 f;exact g.2.2 c.id (e9.2 ⟨c,h,rfl⟩) p.id (j8 ..) j
end
theorem vw {ge most prev d l} {p:Pt} {rest} (a:cg ge most prev d l=some (p,rest)) (n:d<=7):ah ge p.raw=true/\p.depth<=7/\rest.length<=l.length/\p.id=aw p.raw:=by
 unfold cg at a;split at a
 ·cases a
 rename_i e o f;split at a
 ·cases a
 rename_i q r g;split at a
 ·cases a
 rename_i raw b;split at a
 ·rename_i c;injection a with a;injection a with h i;subst h i;refine ⟨c.2,?_,?_,c.1.symm⟩
  ·show aI d e.toNat<=7;unfold aI;split
   ·rename_i j;unfold bk at b;rw [if_neg qO,if_neg qO,if_pos j] at b;split at b
    ·rename_i s;omega
    cases b
   omega
  have k:=congrArg List.length (fT g).1;rw [b7] at k;have m:=congrArg List.length f;rw [b8,List.length_cons] at m;omega
 cases a
def bZ:List (LU)->List (LU)
 | []=>[]
 | [x]=>[x]
 | x::y::r=>if x=y then bZ (y::r) else x::bZ (y::r)
theorem nc: ∀(l:List (LU)) (a:LU),a∈bZ l↔a∈l
 | [],a=>by simp [bZ]
 | [x],a=>by simp [bZ]
 | x::y::r,a=>by
  rw [bZ];split
  ·rename_i b;rw [nc (y::r) a,b];simp
  rw [i8,nc (y::r) a,<-i8]
theorem zE {a b:LU} (d:a<=b):a<b\/a=b:=by
 rcases Decidable.em (a<b) with c | c
 ·exact .inl c
 exact .inr (Oz d (PB.1 c))
theorem zF: ∀(l:List (LU)),l.Pairwise (fun a b=>a<=b)->(bZ l).Pairwise fun a b=>a<b
 | [],_=>Ny
 | [x],_=>w8 ..
 | x::y::r,h=>by
  have c:=s8.1 h;have g:=zF (y::r) c.2;rw [bZ];split
  ·exact g
  rename_i i;refine s8.2 ⟨fun j k=> ?_,g⟩;have m:=(nc _ _).1 k;have d:x<y:=by
   rcases zE (c.1 y (j8 ..)) with e | e
   ·exact e
   exact absurd e i
  rcases i8.1 m with n | o
  ·rw [n];exact d
  have p:=(s8.1 c.2).1 j o;rcases zE p with f | f
  ·exact List.lt_trans d f
  rw [<-f];exact d
theorem zG: ∀{a b:List (LU)},a.Pairwise (fun x y=>x<y)->b.Pairwise (fun x y=>x<y)->(∀d,d∈a↔d∈b)->a=b
 | [],[],_,_,_=>rfl
 | [],y::b,_,_,c=>by cases (c y).2 (j8 ..)
 | x::a,[],_,_,c=>by cases (c x).1 (j8 ..)
 | x::a,y::b,ha,j,c=>by
  have h:=s8.1 ha;have i:=s8.1 j;have k:x=y:=by
   rcases i8.1 ((c x).1 (j8 ..)) with e | f
   ·exact e
   rcases i8.1 ((c y).2 (j8 ..)) with e | l
   ·exact e.symm
   exact absurd (List.lt_trans (h.1 y l) (i.1 x f)) (OR _)
  subst k;congr 1;refine zG h.2 i.2 fun d=>⟨fun g=> ?_,fun g=> ?_⟩
  ·rcases i8.1 ((c d).1 (k8 _ g)) with e | f
   ·exact absurd (h.1 d g) (by rw [e];exact OR _)
   exact f
  rcases i8.1 ((c d).2 (k8 _ g)) with e | f
  ·exact absurd (i.1 d g) (by rw [e];exact OR _)
  exact f
theorem Nc (l):(df l).Pairwise fun a b=>a<=b:=by
 have d: ∀a b c:LU,decide (a<=b)=true->decide (b<=c)=true->decide (a<=c)=true:=fun a b c e f=>dT (Pa (of_decide_eq_true e) (of_decide_eq_true f));have g: ∀a b:LU,(decide (a<=b)||decide (b<=a))=true:=fun a b=>by
  exact z121
 exact (NO d g l).imp fun h=>of_decide_eq_true h
theorem ke (l z):z∈df l↔z∈l:=(NA l _).mem_iff
def fp (l:List (LU)):List (LU):=bZ (df l)
theorem gv (l z):z∈fp l↔z∈l:=(nc _ _).trans (ke _ _)
theorem qN (l):(fp l).Pairwise fun a b=>a<b:=zF _ (Nc l)
theorem qg {a b} (d: ∀c,c∈a↔c∈b):fp a=fp b:=zG (qN a) (qN b) fun c=>by rw [gv,gv];exact d c
theorem qh: ∀(l:List (LU)) (y:LU),bZ (l++[y])=if l.getLast?=some y then bZ l else bZ l++[y]
 | [],y=>by simp [bZ]
 | [x],y=>by
  by_cases a:x=y
  ·simp [bZ,a]
  simp [bZ,a]
 | x::z::r,y=>by
  have b:=qh (z::r) y;rw [List.cons_append,List.cons_append,bZ,<-List.cons_append,b];have c:(x::z::r).getLast?=(z::r).getLast?:=by simp [OO]
  rw [c,bZ];by_cases a:(z::r).getLast?=some y
  ·rw [if_pos a,if_pos a]
  rw [if_neg a,if_neg a];split<;>simp
theorem Ky (l):Lib.compact l=bZ l:=by
 unfold Lib.compact;have h: ∀a,a<=l.length->Lib.compactUpTo l.toArray a=bZ (l.take a):=by
  intro a;induction a with
  | zero=>intro _;simp [Lib.compactUpTo,bZ]
  | succ a i=>
  intro m;rw [Lib.compactUpTo_succ,i qO];have c:a<l:=qO;rw [n9 c,qh];have e:l.toArray[a]! =l[a]:=by simp [c]
  by_cases j:a=0
  ·subst j;simp [Lib.keeps,bZ,c]
  have g:l.toArray[a-1]! =l[a-1]:=by simp [show a-1<l by omega]
  have k:(l.take a).getLast?=some l[a-1]:=by
   rw [NC,b9,w7,Oj qO,if_pos qO];exact gE qO
  rw [k];by_cases b:l[a]=l[a-1]
  ·rw [Lib.keeps_neg (d:=l.toArray) (m:=a) qO (by rw [e,g];exact b)];simp only [Py,if_false,List.append_nil];rw [if_pos (by rw [b])]
  rw [Lib.keeps_pos (d:=l.toArray) (m:=a) (by rw [e,g];exact b)];simp only [if_true];rw [if_neg (fun f=>b (by injection f with f;exact f.symm)),e]
 have:=h l (lR _);rw [y7] at this;exact this
end Go.Dol
namespace Go.Proofs.YtecpbcmpncgokaaGreat
theorem Ga {l} (c:cT geS l=true):(l.flatMap aY).length<=600000:=by
 have g:=lG aY 143 l fun h e=>by
  obtain ⟨b,d,rfl⟩:=I8 e;have a:=(gm c).1 b d;unfold ff at a;rw [gE d] at a;simp only [m8,decide_eq_true_eq] at a;have i:=tQ a.1.1;have j:=dX (s:=l[b].name) qO;have f:=aC l[b].id;unfold aY;rw [b7,List.length_cons,f];omega
 have k:=(gm c).2;omega
theorem pr {o} (h:ay geS o=true):(ct o).length<=1048577:=by
 unfold ct;rw [List.length_cons];rcases jK h with e | e | e | e
 ·rw [if_pos e];have:=lI e h;omega
 ·rw [if_neg qO,if_pos e];have h1:=Ga (iD e h);have h3:=aJ 8 o.ents (by have:=(gm (iD e h)).2;omega);unfold fg;rw [b7];omega
 ·rw [if_neg qO,if_neg qO,if_pos e];obtain ⟨h1,h2,h3⟩:=lJ e h;have h4:=lH h2;have a:=aJ 8 o.pars (by have:=(iA h2).2;omega);exact z280
 exact z253
theorem dD: ∀r,ah geS r=true->r.length<=2097152:=by
 intro r a;unfold ah at a;cases b:aZ geS r with
 | none=>rw [b] at a;cases a
 | some d=>
 obtain ⟨c,rfl⟩:=tZ b;have:=pr c;omega
theorem lV {r} (a:ah geS r=true): ∃k c,r=k::c:=by
 unfold ah at a;cases b:aZ geS r with
 | none=>rw [b] at a;cases a
 | some d=>
 obtain ⟨e,rfl⟩:=tZ b;exact ⟨_,_,rfl⟩
theorem vv (A b c w) (e:Rd w w.heap.size 1 A b.length (bc b)) (f:b.length<=c) (g:c<=maxLen) (i:b.length<=kab):
  Calls an 251 #[.slice A b c] w fun d w'=>d= .returned (.bool (ah geS b))/\Below w w w':=by
 have a:=js A b c w e f g i;unfold ah;cases h:aZ geS b with
 | none=>
  rw [h] at a;go_in;go_wp2_with (go_at_call 96;refine a.mono ?_);rintro d j ⟨rfl,hb1⟩;exact z155
 | some k=>
 rw [h] at a;go_in;go_wp2_with (go_at_call 96;refine a.mono ?_);rintro d j ⟨l,m,n,o,q,r,s,t,u,v,x,y,z,B,C,D,E,rfl,F,G,H,hb1,I,J,K⟩;exact z155
theorem tc (g a T cs v) (d b:Nat) (A) (n c:Nat) (w) (e:Blk w g T cs) (i:cs[a]?=some v) (j:cs[a+1]?=some (.int .i64 d)) (o:d<=1000):
  Calls an 257 #[.pointer (some ⟨g,a,none⟩),b,.slice A n c] w fun l w'=>l= .returned (.tuple #[])/\Blk w' g T ((cs.set (a+1) (.int .i64 (aI d b:Nat))).set a (.slice A n c))/\w.grownBy w' (some g):=by
 have p:w.cell? ⟨g,a+1,none⟩=some (.int .i64 d):=by rw [e.cell];exact j
 have q:w.cell? ⟨g,a,none⟩=some v:=by rw [e.cell];exact i
 have r:=e.free a;have s:=e.free (a+1);have t:=qiJ (d+1);clear i j;by_cases f:b=2
 ·have m:((b:Int)!=2)=false:=by simp;omega
  have h:Hid (aI d b=d+1):=qI (by unfold aI;rw [if_pos f]);clear f;go_in;go_wp2_with fail;go_end0;rw [h];exact ⟨rfl,(e.set (a+1) (.int .i64 (d+1))).set a (.slice A n c),ae (ae (gR _ _) _ _) _ _⟩
 have m:((b:Int)!=2)=true:=by simp;omega
 have h:Hid (aI d b=0):=qI (by unfold aI;rw [if_neg f]);clear f;go_in;go_wp2_with fail;go_end0;rw [h];have k:=((e.set (a+1) (.int .i64 (d+1))).set (a+1) (.int .i64 0)).set a (.slice A n c);rw [List.set_set] at k;exact ⟨rfl,k,ae (ae (ae (gR _ _) _ _) _ _) _ _⟩
theorem _root_.Go.Dol.Rd.blkw {w w' B A l g T cs} (e:Rd w B 1 A l.length (bc l)) (i:Blk w g T cs) (m: ∀v∈cs,∀k,v≠ .int .u8 k) (n:w.grownBy w' (some g)):Rd w' B 1 A l.length (bc l):=by
 refine ⟨e.len,fun f=> ?_⟩;obtain ⟨a,o,p,q,h⟩:=e.at_ f;have b:=h 0 _ (bu l 0 f);have r:a≠g:=fun c=>by
  subst c;rw [i.cell] at b;exact m _ (g8 b) _ rfl
 have s:a<w:=by
  rcases D8 a w.heap.size with d | d
  ·exact d
  have:w.heap[a]?=none:=Oh d;simp [World.cell?,this] at b
 exact ⟨a,o,p,q,fun j u t=>(k7 (n.block a s (fun c=>r (by injection c)))).trans (h j u t)⟩
theorem CF (A n c d): ∀v∈[Value.slice A n c,.int .i64 d],∀k,v≠ .int .u8 k:=by
 intro v a k;simp only [i8,m9,or_false] at a;rcases a with rfl | rfl<;>simp
theorem td (g off n c w') (a:0<n):(Instr.indexAt 36 (.slice (some ⟨g,off,none⟩) n c) i0).run an w'= .ok (.pointer (some ⟨g,off,none⟩)) w':=by
 go_simp
def tf (w:World) (base g:Nat) (A:OA) (raw:LU) (c:Nat) (k:Nat×LU) (d:Nat) (h:Ending) (w':World):Prop:=
 ∃(b:LU) (a:OA) (e:Nat),Hid (b=k.2)/\h= .returned (.tuple #[.int .i64 (k.1:Nat),.slice a b e])/\Rd w' w' 1 a b (bc b)/\b<=e/\e<=maxLen/\Blk w' g 274 [.slice A raw c,.int .i64 (aI d k.1:Nat)]/\w.grownBy w' (some g)/\(0<b.length-> ∀f,au a=some f->f<base\/w.heap.size<=f)
theorem CG (base g) (B1:base<=g) (Ap prev) (o d:Nat) (A raw c w) (q0:Blk w g 274 [.slice Ap prev.length o,.int .i64 d]) (S0:Rd w g 1 Ap prev.length (bc prev)) (T0:prev<=o) (U0:o<=maxLen)
  (r0:Rd w base 1 A raw.length (bc raw)) (W:raw.length<=c) (s0:c<=maxLen) (C1:prev.length<=kae) (D1:raw.length<=kae) (l:0<raw.length) (E1:d<=7):
  Calls an 252 #[.pointer (some g),.slice A raw c] w (tf w base g A raw c (aO prev d raw) d):=by
 have V0:=q0.lt;have t0:=qI (tg A raw c w (r0.more qO) qO W);go_in;go_wp2_with fail;refine t0.mono ?_;rintro y X ⟨p,u0,v0,w0,rfl,Y,z,W0,X0⟩;have x0:=d8 Y;have y0:=kO Y (lR _);have Y0:=z.size;have M:=q0.below z V0;have Z:=S0.belowW z qO;have E:=r0.belowW z qO;obtain ⟨b,e,q,r,F,z0,A0,B0,C0,Z0⟩: ∃(b:Nat) (e:LU) (q:OA) (r:Nat),Hid (db raw=(b,e))/\Rd X X 1 q e (bc e)/\e<=r/\r<=maxLen/\Hid (0<e.length-> ∀j,au q=some j->j<base\/w.heap.size<=j)/\Hid (if p.length<raw then b=1/\e=p/\q=u0/\r=v0 else b=0/\e=raw/\q=A/\r=c):=by
  by_cases h:p.length<raw
  ·exact ⟨1,p,u0,v0,by unfold Hid db;rw [<-w0,if_pos h],x0,W0,X0,qI (fun l j s=> .inr (y0 l j s)),by unfold Hid;rw [if_pos h];exact ⟨rfl,rfl,rfl,rfl⟩⟩
  exact ⟨0,raw,A,c,by unfold Hid db;rw [<-w0,if_neg h],E.more qO,W,s0,qI (fun l j s=> .inl (by
   obtain ⟨a1,F1,b1,G1,_⟩:=E.at_ l;rw [b1] at s;injection s with s;have H1:a1=j:=s;omega)),by unfold Hid;rw [if_neg h];exact ⟨rfl,rfl,rfl,rfl⟩⟩
 have D0:=B0;clear B0 Y y0;go_upto_if 17 with (fail);go_cut [6,7] (fun kv c1 a0=>kv= .int .i64 b/\c1= .slice q e r/\a0=X)
 case first=>
  have N:=Z0.out;by_cases h:p.length<raw
  ·rw [if_pos h] at N;have d1:=dtX ((p:Int)<raw);obtain ⟨rfl,rfl,rfl,rfl⟩:=N;go_wp2_with fail;go_meet;exact ⟨rfl,rfl,rfl⟩
  rw [if_neg h] at N;have d1:=dfX ((p:Int)<raw);obtain ⟨rfl,rfl,rfl,rfl⟩:=N;go_wp2_with fail;go_meet;exact ⟨rfl,rfl,rfl⟩
 case rest=>
 obtain ⟨rfl,rfl,e1⟩:=hcut;subst e1;have b0:=M.c 0;have f1:=M.c 1;obtain ⟨i,k,rfl,I1,E0⟩:=E.at_ qO;have F0:wc.cell? ⟨i,k,none⟩=some (.int .u8 (raw[0]).toNat):=E0 0 _ (bu raw 0 l);have g1: ∀a:World,(Instr.indexAt 36 (.slice (some ⟨i,k,none⟩) raw c) i0).run an a= .ok (.pointer (some ⟨i,k,none⟩)) a:=fun a=>td i k raw c a l;obtain ⟨G,H⟩:=gH (fE prev d raw);clear E0;go_upto_region 5 with (fail);go_cut [43] (fun h1 a0=>h1= .bool G/\ ∃m,a0=wc.drewN m)
 case first=>
  by_cases B:0<prev.length
  ·obtain ⟨O,P,rfl,J1,G0⟩:=Z.at_ B;have i1:wc.cell? ⟨O,P,none⟩=some (.int .u8 (prev[0]).toNat):=G0 0 _ (bu prev 0 B);have K1: ∀a:World,(Instr.indexAt 36 (.slice (some ⟨O,P,none⟩) prev o) i0).run an a= .ok (.pointer (some ⟨O,P,none⟩)) a:=fun a=>td O P prev o a B;obtain ⟨c0,d0⟩:=gX ((prev[0]).toNat);obtain ⟨e0,f0⟩:=gX ((raw[0]).toNat);have Q:Hid (prev.head?=raw.head?↔c0=e0):=by
    unfold Hid;rw [List.head?_eq_getElem?,List.head?_eq_getElem?,gE B,gE l,d0,f0];constructor
    ·intro h;injection h with h;rw [h]
    intro h;rw [C9.1 h]
   rw [<-d0] at i1;rw [<-f0] at F0;clear d0 f0 G0;by_cases R:c0=e0
   ·have h4:Hid (G=decide (d<7)):=by
     unfold Hid;rw [H];unfold fE;rw [dT B,dT (Q.2 R)];simp
    clear Q;subst R;cases u:decide (d<7) with
    | true=>
     have j1:decide ((d:Int)<7)=true:=dT (by have:=of_decide_eq_true u;omega);rw [u] at h4;clear u;exact z28
    | false=>
    have j1:decide ((d:Int)<7)=false:=qF (by have:=of_decide_eq_false u;omega);rw [u] at h4;clear u;exact z28
   have h4:Hid (G=false):=by
    unfold Hid;rw [H];unfold fE;rw [qF (p:=prev.head?=raw.head?) (fun h=>R (Q.1 h))];simp
   have u:((c0:Int)==e0)=false:=by simp;omega
   clear Q R;exact z28
  have h4:Hid (G=false):=by
   unfold Hid;rw [H];unfold fE;rw [qF B];simp
  exact z28
 case rest=>
 obtain ⟨rfl,m,rfl⟩:=hcut;have C:=M.drewN m;have H0:=Z.drewN m;have I0:=E.drewN m;have S:=z0.drewN m;have g0:=z.drewN' m;have J0:(wc.drewN m).heap.size=wc:=rfl;rw [<-J0] at S;obtain ⟨h0,K0⟩:=gX (wc.drewN m);rw [<-K0] at C H0 I0 S g0 ⊢;clear K0 J0 b0 f1 F0 M Z E z0 z g1 x0 Y0 t0;have k1:=g0.size;have l1:=C.lt;have L0: ∀(n:Nat) (v:Int) (t:LU) (I:OA) (J:Nat) (f a:World),v=(n:Nat)->Hid (aO prev d raw=(n,t))->Rd f f 1 I t (bc t)->t<=J->J<=maxLen->w.grownBy f (some g)->Blk f g 274 [.slice Ap prev o,d]->
   (Blk a g 274 [.slice (some ⟨i,k,none⟩) raw c,.int .i64 (aI d n:Nat)]/\f.grownBy a (some g))->Hid (0<t.length-> ∀j,au I=some j->j<base\/w.heap.size<=j)->tf w base g (some ⟨i,k,none⟩) raw c (aO prev d raw) d (.returned (.tuple #[v,.slice I t J])) a:=by
  intro n v t I J f a j0 x m1 n1 o1 p1 q1 ⟨r1,k0⟩ s1;rw [x,j0];exact ⟨t,I,J,rfl,rfl,(m1.blkw q1 (CF _ _ _ _) k0).more k0.size,n1,o1,r1,aq p1 k0,s1.out⟩
 have l0:=qI L0;clear L0;have M0: ∀(n:Nat) (v:Int) (f:World),v=(n:Nat)->Blk f g 274 [.slice Ap prev o,d]->Calls an 257 #[.pointer (some g),v,.slice (some ⟨i,k,none⟩) raw c] f fun y a=>y= .returned (.tuple #[])/\Blk a g 274 [.slice (some ⟨i,k,none⟩) raw c,.int .i64 (aI d n:Nat)]/\f.grownBy a (some g):=
  fun n v f j0 t1=>by rw [j0];exact tc g 0 274 _ _ d n (some ⟨i,k,none⟩) raw c f t1 rfl rfl qO
 have m0:=qI M0;clear M0;have N0:=ax g0 (some g);have n0:=ti raw;have L1:e.length<=raw:=by rw [F] at n0;exact n0
 clear n0;cases G with
 | false=>
  have x:Hid (aO prev d raw=(b,e)):=by
   unfold Hid aO;rw [if_neg (fun h=>by rw [<-H] at h;exact absurd h.1 (by simp)),F]
  go_wp2_with fail;refine (m0.out b b h0 rfl C).mono ?_;rintro y K ⟨rfl,D,L⟩;go_wp2_with fail;go_ret2;exact l0.out b b e q r h0 K rfl x S A0 D0 N0 C ⟨D,L⟩ C0
 | true=>
 have b0:=C.c 0;have O0:=qI (Bj Ap prev o (some ⟨i,k,none⟩) raw c h0 (H0.more qO) (I0.more qO) qO qO T0 U0 W s0);go_wp2_with fail;refine O0.mono ?_;rintro y T ⟨U,P0,u1,o0,rfl,v1,V,w1,x1,Q0⟩;have y1:Hid (0<U.length-> ∀j,au P0=some j->j<base\/w.heap.size<=j):=fun l j s=> .inr (lT k1 (Q0 l j s));clear Q0;have D:=C.below V l1;have R0:=ou N0 V;clear O0 b0;by_cases h:U.length<e
 ·have x:Hid (aO prev d raw=(2,U)):=by
   unfold Hid aO;rw [if_pos ⟨H.symm,by rw [F,<-o0];exact h⟩,o0]
  go_wp2_with fail;refine (m0.out 2 2 T rfl D).mono ?_;rintro y K ⟨rfl,p0,L⟩;go_wp2_with fail;go_ret2;exact l0.out 2 2 U P0 u1 T K rfl x v1 w1 x1 R0 D ⟨p0,L⟩ y1
 have x:Hid (aO prev d raw=(b,e)):=by
  unfold Hid aO;rw [if_neg (fun z1=>h (by have:=z1.2;rw [F,<-o0] at this;exact this)),F]
 have A1:=S.belowW V (lR _);go_wp2_with fail;refine (m0.out b b T rfl D).mono ?_;rintro y K ⟨rfl,p0,L⟩;go_wp2_with fail;go_ret2;exact l0.out b b e q r T K rfl x (A1.more V.size) A0 D0 R0 D ⟨p0,L⟩ C0
def vM (base:Nat) (w:World) (r:Option (LU)) (c:Ending) (w':World):Prop:=
 Below w w w'/\match r with
 | none=>c= .returned (.tuple #[eL,.int .i64 2])
 | some e=> ∃(a:LU) (d:OA) (b:Nat),Hid (a=e)/\c= .returned (.tuple #[.slice d a b,i0])/\B8 w' base d a/\a<=b/\b<=maxLen
theorem RetOpenN.toB {base w w' r e} (a:RetOpenN w r e w') (b:base<=w.heap.size):vM base w r e w':=by
 cases r with
 | none=>exact ⟨a.2,a.1⟩
 | some m=>obtain ⟨c,d,f,g,h,i,j,k,l⟩:=a;exact ⟨j,c,d,f,g,h,(B8.own i).lower b,k,l⟩
theorem GA (g o T cs Ap prev) (i d k base:Nat) (A b c w) (r:Blk w g T cs) (s:cs[o]?=some (.slice Ap prev.length i)) (t:cs[o+1]?=some (.int .i64 d)) (x:Rd w w.heap.size 1 Ap prev.length (bc prev)) (J:prev.length<=kae) (y:prev<=i) (z:i<=maxLen)
  (l:B8 w base A b) (hbase:base<=w) (m:b.length<=c) (B:c<=maxLen) (K:b.length<=kab):
  Calls an 256 #[.pointer (some ⟨g,o,none⟩),.int .i64 k,.slice A b c] w (vM base w (bk prev d k b)):=by
 have L:w.cell? ⟨g,o,none⟩=some (.slice Ap prev i):=by rw [r.cell];exact s
 have c1:w.cell? ⟨g,o+1,none⟩=some (.int .i64 d):=by rw [r.cell];exact t
 clear s t;by_cases e:k=0
 ·have C:((k:Int)==0)=true:=by simp;omega
  have a:bk prev d k b=some b:=by unfold bk;rw [if_pos e]
  rw [a];clear a e;go_in;go_wp2_with fail;go_ret2;exact ⟨bR _ _,b,A,c,rfl,rfl,l,m,B⟩
 have C:((k:Int)==0)=false:=by simp;omega
 by_cases f:k=1
 ·have D:((k:Int)==1)=true:=by simp;omega
  have a:bk prev d k b=cf b 2097152:=by unfold bk;rw [if_neg e,if_pos f]
  rw [a];have n:=qI (tu A b c 2097152 w l.rd qO m (fun _ _ _ _=>by omega));clear a e f;go_in;go_wp2_with fail;refine n.mono ?_;intro E F q;have hB:=q.toB hbase;cases hq:cf b 2097152 with
  | none=>
   exact z200
  | some G=>
  exact z124
 have D:((k:Int)==1)=false:=by simp;omega
 by_cases j:k=2
 ·have H:((k:Int)==2)=true:=by simp;omega
  have a:bk prev d k b=if 0<prev.length/\d<7 then cH prev b 2097152 else none:=by unfold bk;rw [if_neg e,if_neg f,if_pos j]
  rw [a];clear a e f j;by_cases u:0<prev.length
  ·by_cases v:d<7
   ·have I:=dtX ((d:Int)<7);rw [if_pos ⟨u,v⟩];have n:=qI (Bt Ap prev i A b c 2097152 w x qO y z l.rd qO m (fun _ _ _ _ _ _=>by omega));go_in;go_wp2_with fail;refine n.mono ?_;intro E F q;have hB:=q.toB hbase;cases hq:cH prev b 2097152 with
    | none=>
     exact z200
    | some G=>
    exact z124
   have I:=dfX ((d:Int)<7);rw [if_neg (fun h=>v h.2)];exact z95
  rw [if_neg (fun h=>u h.1)];exact z95
 have H:((k:Int)==2)=false:=by simp;omega
 have a:bk prev d k b=none:=by unfold bk;rw [if_neg e,if_neg f,if_neg j]
 rw [a];clear a e f j;go_in;go_wp2_with fail;go_ret2;exact ⟨bR _ _,rfl⟩
