/- Walks and laws. Conditions: as stated. -/
import Derived.Test.YtecpbcmpncgokaaGreatUniq
import Derived.Shelf.Slices.CompactS
import Derived.Lib.OwnBridge
set_option maxRecDepth 99999
set_option maxHeartbeats 25600000
set_option linter.all false
open Go.Lib renaming compact->Qj
open Go.Proofs.Tryz renaming prog->an
open Prod renaming fst->PM
open Go.RowKit Go.Dol
namespace Go.Dol
theorem gg {id} (h:id.size=32):ab (af id)=true/\ab (shd (af id))=true/\bi (af id)=false/\(af id).size≠0:=by
 have a:=gP id;have hz: ∀b∈(af id).data.toList,47<=b.toNat/\b.toNat<=111:=by
  intro b hx;rw [gh] at hx;exact z264
 have c:(af id).data.toList.contains 0=false:=by
  exact z171
 have d:ab (af id)=true:=by
  unfold ab;rw [c,a,h];rfl
 have f:bi (af id)=false:=by
  exact z273
 have g:ab (shd (af id))=true:=by
  have i:(shd (af id)).data.toList=(af id).data.toList++[126]:=by
   unfold shd;rw [Np];simp
  unfold ab;rw [gQ,a,h,i];have j:((af id).data.toList++[126]).contains 0=false:=by
   exact z81
  rw [j];rfl
 exact ⟨d,g,f,by rw [a,h];decide⟩
theorem tD {a b} (d:a.size=32):af a≠shd (af b):=fun e=>by
 have c:=(gg d).2.2.1;rw [e] at c;unfold bi at c;have f:(shd (af b)).data.toList.getLast?=some 126:=by
  unfold shd;rw [Np];simp
 rw [f] at c;cases c
theorem CV {a b k} (d:a=true) (e:k≠0) (f:b=false): ¬(a=false\/k=0\/b=true):=by
 rintro (c | c | c)
 ·rw [d] at c;cases c
 ·exact e c
 rw [f] at c;cases c
theorem tE (n):bi (shd n)=true:=by
 unfold bi shd;rw [Np];simp
theorem jx {l m} (c:InOrder l) (d:InOrder m) (e: ∀x,aa l x=aa m x):l=m:=by
 have a:=rE c d (fun _=>true) fun x _=>e x;have b: ∀l:List Fil,(l.filter fun f=>(fun _=>true) f.1)=l:=fun l=>List.filter_eq_self.2 fun _ _=>rfl;rw [b,b] at a;exact a
theorem CW {id} (a:id.size=32):bj (af id)=some id:=by
 unfold bj;rw [gh];simp only;rw [lj];simp only;rw [if_pos (by rw [v7];exact a)];cases id;simp [idS]
theorem oB {n id} (a:bj n=some id):n=af id/\id.size=32:=by
 unfold bj at a;split at a
 ·rename_i c d;split at a
  ·cases a
  rename_i b e;split at a
  ·rename_i f;injection a with a;subst a;refine ⟨fD ?_,by show b.toArray.size=32;rw [List.size_toArray];exact f⟩;rw [d,gh];have:=lk c b e;simp [idS,this]
  cases a
 cases a
theorem zi: ∀l:LU,l.length%2=1->aX l=none
 | [],c=>by simp at c
 | [_],_=>rfl
 | a::b::t,c=>by
  rw [aX,zi t (by simp at c;omega)];simp
theorem CH {acc l m} (a:aQ acc l=some m): ∀f∈m,f∈acc\/f∈l:=by
 induction l generalizing acc with
 | nil=>
  have:acc=m:=by simpa [aQ] using a
  subst this;exact fun f b=> .inl b
 | cons g h e=>
 unfold aQ at a;split at a
 ·cases a
 intro f b;rcases e a f b with c | c
 ·rcases gc f c with d | d
  ·exact .inr (by rw [d];exact j8 ..)
  exact .inl d
 exact .inr (k8 _ c)
theorem CI {cap k l D} (a:cE cap l=(some D,k)):k=0/\0<=cap/\cap<=1099511627776/\D.cap=cap/\aQ [] l=some D.l/\D=⟨cap,D.l,0,-1,false⟩/\ ¬frD D<0:=by
 unfold cE at a;by_cases d:cap<0\/kaf<cap
 ·rw [if_pos d] at a;cases a
 rw [if_neg d] at a;cases e:aQ [] l with
 | none=>rw [e] at a;cases a
 | some f=>
 rw [e] at a;simp only at a;by_cases b:frD ⟨cap,f,0,-1,false⟩<0
 ·rw [if_pos b] at a;cases a
 rw [if_neg b] at a;injection a with c g;injection c with c;subst c;exact ⟨g.symm,qO,qO,rfl,rfl,rfl,b⟩
theorem CK {a b:BA} (c:a=b):(a.toList !=b.toList)=false:=by rw [c];simp
theorem CL {a b:BA} (c:a≠b):(a.toList !=b.toList)=true:=by
 have:=eN c;unfold bne;rw [this];rfl
theorem ox {l b}:(⟨l.toArray⟩:BA)=b↔l=b.data.toList:=by
 constructor
 ·intro a;rw [<-a]
 intro a;exact fD (by simpa using a)
def aD (n:BA):Bool:=decide (n.data.toList.take 2=[112,47])&& !bi n
def ap (b:LU):BA:=⟨#[112,47]⟩++⟨(cq (b.drop (b.length-32))).toArray⟩
abbrev Pk:=BA×List Pt
def ai (ge:BA->BA->Bool):List Fil->Option (List Pk)
 | []=>some []
 | f::r=>if aD f.1=true then match ba ge f.2 with
   | none=>none
   | some ps=>if ap f.2=f.1 then (ai ge r).map ((f.1,ps):: ·) else none
  else ai ge r
def cX (P:List Pk):List BA:=(fp (P.flatMap fun a=>a.2.map (·.id))).map idS
def el:List Pk->BA->Option (LU)
 | [],_=>none
 | p::r,id=>match bV p.2 id.data.toList with
  | some x=>some x.raw
  | none=>el r id
def aP (ge:BA->BA->Bool) (D:Dk) (P:List Pk) (id:BA):Except Int (LU):=match aK ge D id with
 | .ok b=> .ok b
 | .error a=>if a=6 then (match el P id with | some c=> .ok c | none=> .error 6) else .error a
def cz (ge:BA->BA->Bool) (D:Dk) (P:List Pk) (raw:LU):Except Int BA×Dk:=
 if ah ge raw=false then (.error 1,D) else match aP ge D P (idO raw) with
 | .ok a=>if a=raw then (.ok (idO raw),D) else (.error 7,D)
 | .error b=>if b=2 then (.error 2,D) else putO ge D raw
def bJ (ge:BA->BA->Bool) (D:Dk) (P:List Pk):List BA->Except Int (List (LU))
 | []=> .ok []
 | id::r=>match aP ge D P id with
  | .error k=> .error k
  | .ok b=>match bJ ge D P r with
   | .error k=> .error k
   | .ok a=> .ok (b::a)
def bF (ge:BA->BA->Bool) (D:Dk) (P:List Pk) (ids:List BA):Except Int (Option (BA×LU)):=
 if ¬ids.Nodup then .error 1 else match bJ ge D P ids with
 | .error b=> .error b
 | .ok c=>match bl ge c with
  | none=> .error 1
  | some a=>if ids=[] then .ok none else .ok (some (ap a,a))
def bW (D:Dk):List BA->Int×Dk
 | []=>(0,D)
 | n::r=>if (aB D n).1≠0 then aB D n else bW (aB D n).2 r
def cB (D:Dk):List BA->Int×Dk
 | []=>(0,D)
 | id::r=>if (dropO D id).1≠0 then dropO D id else cB (dropO D id).2 r
def bX (a:BA) (l:List BA):List BA:=l.filter fun b=>decide (b≠a)
def hD (D:Dk) (P:List Pk) (a:BA):Int×Dk:=
 if (bW D (bX a (P.map PM))).1≠0 then bW D (bX a (P.map PM)) else
  cB (bW D (bX a (P.map PM))).2 (bE (bW D (bX a (P.map PM))).2)
def bm (ge:BA->BA->Bool) (D:Dk) (a:BA):Int×Dk:=match ai ge D.l with
 | none=>(2,D)
 | some b=>hD D b a
def gy (ge:BA->BA->Bool) (D:Dk) (P:List Pk) (ids:List BA):Int×Int:=match bF ge D P ids with
 | .error b=>(0,b)
 | .ok none=>(0,0)
 | .ok (some (a,c))=>if (aa D.l a).isSome=true then (0,0) else (16+(a.size+1)+c,0)
end Go.Dol
namespace Go.Proofs.YtecpbcmpncgokaaGreat
theorem zM:(an.info? 107).map (fun i=>(i.zero,i.size,i.bytes))=some (some (.agg #[eS,eL]),2,40):=qkR
def zN (b:List FilA) (w:World) (q i:Value) (wr:World):Prop:=
 ∃(a:Nat) (c:OA) (d:Nat),q= .slice c a d/\i= .int .i64 a/\a<=b/\wr.ownsRow w 107 2 (.slice c a d) a (fc (b.take a))/\Below w w wr
def zO (w:World) (r:Option Dk×Int) (c:Ending) (w':World):Prop:=
 match r.1 with
 | none=>c= .returned (.tuple #[.pointer none,.pointer none])/\Below w w w'
 | some d=> ∃a e b,c= .returned (.tuple #[.pointer (some ⟨a,0,none⟩),.pointer (some ⟨b,0,none⟩)])/\Dsk w' a e d/\Rdk w' b d/\w.heap.size<=a/\w.heap.size<=e/\w.heap.size<=b/\Below w w w'
theorem ri (cap A fs n c) (I:n=fs.length) (w) (o:Rd w w.heap.size 2 A n (fc fs)) (u:Fls8 w w.heap.size fs) (J:n<=3518437208883) (v: ∀x∈fs,x.n.size<=140737488355328/\x.b.length<=140737488355328) (cap') (v0:0<=cap'/\cap'<=1048575)
  (w0:bits .and .i64 cap 1048575=cap'):
  Calls an 16 #[.int .i64 cap,.slice A n c] w (zO w (cE cap' (fs.map FilA.f))):=by
 have K:=qI I;have x0:n<=fs:=qO;have y0:fs<=n:=qO;clear I;go_in;go_wp2_with fail;go_loopw [6,7] (fun q i wr=>zN fs w q i wr) (fun _ i _=>fs-(intOf i).toNat)
 case atStart=>exact ⟨0,none,0,rfl,rfl,zL,by simpa [fc] using j9 w w 107 2,bR _ _⟩
 case round=>
  obtain ⟨a,a0,b0,rfl,rfl,z0,y,g⟩:=hrel;have L:=g.size;by_cases A0:a<n
  ·have B0:=ltI a n;have C0:=zeI a;have c0:a<fs:=qO;obtain ⟨x,z⟩: ∃x,fs[a]?=some x:=⟨fs[a],gE c0⟩;obtain ⟨M,N⟩:=di z;have O:=o.belowW g (lR _);obtain ⟨j,r,rfl,d0,B⟩:=O.at_ qO;have e0:wr.cell? ⟨j,r+a*2,none⟩=_:=B _ _ M;have f0:wr.cell? ⟨j,r+a*2+1,none⟩=_:=B _ _ N;have P:fc (fs.take a)++fc [x]=fc (fs.take (a+1)):=by rw [<-iS,t7,z];rfl
   have Q:=(Rd.fileT wr 107 x).drew;have g0:=iT [x];obtain ⟨R,S,T,U⟩:=x;simp only at e0 f0 Q;have D0:=qiJ (a+1);have h0:=qI P;clear z M N B O P o;go_wp2_with fail;go_region_held3 (fun C=>C.cell? ⟨j,r+a*2,none⟩=some (.string R)/\C.cell? ⟨j,r+a*2+1,none⟩=some (.slice T S U)) (first | go_keep | (go_split_ands;refine ⟨?_,?_⟩<;>(rw [z2.cell (p:=⟨j,_,none⟩) d0];assumption)))
    ((refine ft (by rfl) (.tmp 19) (.tmp 31) 57 107 _ 2 40 (by rfl) Tryz.underlying57 zM rfl (by decide) w _ a (fc (fs.take a)) (by rfl) (E7 (w:=World.drew wr) y _) (wr+1) _ 1 1 (fc [⟨R,S,T,U⟩]) (by rfl) Q g0 (by unfold maxLen;omega) qO (by simp;omega) ?_;intro i0 j0 C k0 z2 E0 F0 z5))
   go_wp2_with fail;refine ⟨⟨a+1,i0,j0,rfl,by go_num,qO,?_,g.trans (((bR _ _).alloc L _).drew.trans z2)⟩,by simp [intOf];omega⟩;rw [<-h0];exact k0
  have V:a=fs:=qO;have W:fs.take a=fs:=i9 qO;rw [W] at y;have l0:=d8 y;have m0:=(u.below g).more L;have D:=qI (zP cap' a0 fs a b0 V wr l0 m0 ⟨qO,qO⟩ qO v);obtain ⟨n0,E⟩:=gX (cE cap' (fs.map FilA.f));rw [<-E] at D ⊢;have k:=qI E;obtain ⟨X,Y⟩:=n0;have s:Y=0↔X.isSome=true:=by
   have e:=k.out;unfold cE at e;rw [if_neg qO] at e;split at e
   ·injection e with e F;rw [e,F];simp
   split at e<;>(injection e with e F;rw [e,F];simp)
  clear W V E;cases X with
  | none=>
   have Z:Y≠0:=fun l=>by have:=s.1 l;cases this
   have G0:=bne_iff_ne.2 Z;clear Z;clear s;go_wp2_with fail;refine D.mono ?_;rintro l G ⟨rfl,H⟩;have d:=g.next H;have m:=qI (rj cap' A fs n c K.out G (o.belowW d (lR _) |>.more d.size) ((u.below d).more d.size) J v);rw [<-k] at m;go_wp2_with fail;refine m.mono ?_;rintro l o0 ⟨rfl,t⟩;go_wp2_with fail;go_ret2;rw [<-k];exact ⟨rfl,d.next t⟩
  | some H0=>
  have p0:=s.2 rfl;subst p0;clear s;go_wp2_with fail;refine D.mono ?_;rintro l G ⟨q0,r0,rfl,s0,I0,J0,H⟩;have d:=g.next H;have m:=qI (rj cap' A fs n c K.out G (o.belowW d (lR _) |>.more d.size) ((u.below d).more d.size) J v);rw [<-k] at m;go_wp2_with fail;refine m.mono ?_;rintro l o0 ⟨t0,rfl,u0,K0,t⟩;go_wp2_with fail;go_ret2;rw [<-k];have:=d.size;exact ⟨q0,r0,t0,rfl,s0.below t,u0,qO,qO,qO,d.next t⟩
def FO (D:Dk):Prop:=∀ a∈D.l,∃raw,ah geS raw=true/\a=(af (idO raw),aA raw)
section
variable {D:Dk}
theorem FO.look (c:FO D) (d:InOrder D.l) {n b} (e:aa D.l n=some b): ∃raw,ah geS raw=true/\n=af (idO raw)/\b=aA raw:=by
 obtain ⟨raw,f,a⟩:=c _ ((bz d).1 e);injection a with a g;exact ⟨raw,f,a,g⟩
theorem CX {raw} (a:ah geS raw=true):cf (aA raw) 2097152=some raw:=by
 have:=dD raw a;rw [tF (by unfold cI;omega),if_pos qO]
theorem oC {id raw} (a:ah geS raw=true) (b:id=idO raw) (c:aa D.l (af id)=some (aA raw)):aK geS D id= .ok raw:=by
 unfold aK;rw [if_neg (by rw [b,dO];simp),c];simp only;rw [CX a];simp only;rw [if_pos ⟨by rw [b];simp [idO,idS],a⟩]
theorem oD {id} (a:id.size=32) (b:aa D.l (af id)=none):aK geS D id= .error 6:=by
 unfold aK;rw [if_neg (by rw [a];simp),b]
theorem CY {D' id} (a:aa D'.l (af id)=aa D.l (af id)):aK geS D' id=aK geS D id:=by
 unfold aK;rw [a]
theorem FO.get (d:FO D) (e:InOrder D.l) {id} (f:id.size=32):(aa D.l (af id)=none/\aK geS D id= .error 6)\/ ∃raw,ah geS raw=true/\id=idO raw/\aa D.l (af id)=some (aA raw)/\aK geS D id= .ok raw:=by
 cases a:aa D.l (af id) with
 | none=>exact .inl ⟨rfl,oD f a⟩
 | some i=>
 obtain ⟨raw,b,g,h⟩:=d.look e a;have c:=jy g;rw [h] at a ⊢;exact .inr ⟨raw,b,c,rfl,oC b c a⟩
theorem FO.shadow (a:FO D) (b:InOrder D.l) (id):aa D.l (shd (af id))=none:=by
 cases c:aa D.l (shd (af id)) with
 | none=>rfl
 | some e=>
 obtain ⟨raw,_,d,_⟩:=a.look b c;exact absurd d.symm (tD (dO raw))
theorem FO.put (b:FO D) (h:InOrder D.l) {raw} (c:ah geS raw=true) {l'} (d:l'=ag D.l (af (idO raw)) (aA raw)): ∀f∈l',∃raw,ah geS raw=true/\f=(af (idO raw),aA raw):=by
 intro f a;rw [d] at a;rcases gc f a with e | g
 ·exact ⟨raw,c,e⟩
 exact b f g
theorem jw {raw} (a:ah geS raw=true):(aA raw).length<=2621449:=by
 have b:=dD raw a;have c:=ln raw qO;omega
theorem CZ (i:CalmD D) (d:FO D) {raw} (g:ah geS raw=true) (E:83+((aA raw).length:Int)<=frD D):
  (∃b,b≠raw/\aK geS D (idO raw)= .ok b/\putO geS D raw=(.error 7,D))\/(aK geS D (idO raw)= .ok raw/\putO geS D raw=(.ok (idO raw),D))\/
  ∃D',aK geS D (idO raw)= .error 6/\putO geS D raw=(.ok (idO raw),D')/\CalmD D'/\FO D'/\D'.cap=D.cap/\D'.l=ag D.l (af (idO raw)) (aA raw)/\aa D.l (af (idO raw))=none/\aK geS D' (idO raw)= .ok raw/\
   (∀x,x.size=32->x≠idO raw->aK geS D' x=aK geS D x)/\frD D'=frD D-(82+((aA raw).length:Int)):=by
 have c:=i.ok.ord;have e:=dO raw;obtain ⟨F,p,y,q⟩:=gg e;rcases d.get c e with ⟨r,s⟩ | ⟨t,G,H,I,j⟩
 ·refine .inr (.inr ?_);have k:=gP (idO raw);rcases tG i (n:=af (idO raw)) (b:=aA raw) (fun _=>d.shadow c _) with a | ⟨_,a,_⟩ | ⟨_,_,_,D',a,h,u,z,v⟩
  ·unfold ao at a;rw [if_neg (CV p q y)] at a;split at a
   ·cases (congrArg PM a)
   rw [if_neg (by rw [d.shadow c];simp)] at a;unfold cR at a;rw [if_neg (by rw [k,e];omega)] at a;obtain ⟨J,A,_⟩:=tH i p q (d.shadow c (idO raw)) (b:=aA raw) (by rw [k,e];omega);rw [A] at a;cases (congrArg PM a)
  ·rw [k,e] at a;omega
  have m:=jx h.calm.ok.ord (ef c) fun x=>by
   rw [cF c];by_cases f:x=af (idO raw)
   ·rw [if_pos f,f,u]
   rw [if_neg f];by_cases w:x=shd (af (idO raw))
   ·rw [w,z,d.shadow c]
   exact v x f w
  have B:ar D'.l=ar D.l+(16+((af (idO raw)).size:Int)+(aA raw).length):=by
   rw [m,sz,eK r];simp only [dB];omega
  refine ⟨D',s,?_,h.calm,d.put c g m,h.cap,m,r,oC g rfl u,fun x f C=>CY (v _ (fun a=>C (jy a)) (tD f)),?_⟩
  ·unfold putO;rw [if_neg (by rw [g];simp),s];simp only;rw [if_neg (by decide),a];rfl
  rw [i.free,h.calm.free,h.cap,B,k,e];omega
 by_cases o:t=raw
 ·subst o;refine .inr (.inl ⟨j,?_⟩);unfold putO;rw [if_neg (by rw [g];simp),j];simp only;rw [if_pos trivial]
 refine .inl ⟨t,o,j,?_⟩;unfold putO;rw [if_neg (by rw [g];simp),j];simp only;rw [if_neg o]
theorem oE {id} (a:InOrder D.l):id∈bE D↔id.size=32/\(aa D.l (af id)).isSome=true:=by
 unfold bE;rw [List.mem_filterMap];constructor
 ·rintro ⟨k,c,d⟩;obtain ⟨b,e,rfl⟩:=e9.1 c;obtain ⟨f,g⟩:=oB d;refine ⟨g,?_⟩;rw [<-f,(bz a).2 (show (b.1,b.2)∈D.l from e)];rfl
 rintro ⟨h,i⟩;obtain ⟨m,j⟩:=Nr.1 i;exact ⟨af id,e9.2 ⟨_,(bz a).1 j,rfl⟩,CW h⟩
end
theorem ov (A l c w) (b:Rd w w.heap.size 1 A l.length (bc l)) (d:l.length<=140737488355296):
  Calls an 45 #[.slice A l c] w fun a w'=>a= .returned (.string (idO l))/\Below w w w':=(iu A l c w b d).mono fun a w' ⟨h,e,f,g⟩=>⟨by rw [f,e];rfl,g⟩
theorem tp (l' id w') (a:l'=cq id.data.toList) (b:id.size<=70368744177600):(Op.stringOp .add ⟨#[111,47]⟩ ⟨l'.toArray⟩).run an w'= .ok (.string (af id)) w':=by
 rw [show af id=(⟨#[111,47]⟩:BA)++⟨l'.toArray⟩ by rw [a];rfl];refine run_string_add_sum w' _ _ ?_;show 2+l'.toArray.size<=_;rw [List.size_toArray,a,gd,aC];omega
theorem lm (id w) (a:id.size<=70368744177600):
  Calls an 41 #[.string id] w fun b w'=>b= .returned (.string (af id))/\Below w.heap.size w w':=by
 have c:=tq id w a;go_in;go_wp2_with fail;refine c.mono ?_;rintro b d ⟨e,f,rfl,g⟩;have h:=tp e id d f.out a;go_wp2_with fail;go_ret;exact ⟨rfl,g⟩
section
variable {w:World} {g m:Nat} {D:Dk}
theorem CJ (D):(aU D ⟨#[111,47]⟩).2≠1:=by
 have a:ab ⟨#[111,47]⟩=true:=by decide
 unfold aU;rw [if_neg (by rw [a];decide)];split<;>simp
theorem ow (i:Dsk w g m D) (d:OkW D) (id):
  Calls an 97 #[.pointer (some g),.string id] w fun e w'=>e= .returned (.bool (decide (id.size=32)))/\Below w w w':=by
 have f:=qI (jj i d.ord ⟨#[111,47]⟩ (fun l a=>d.small' a));have b:=CJ D;obtain ⟨j,h⟩:=gX (aU D ⟨#[111,47]⟩);rw [<-h] at b f;obtain ⟨n,k⟩:=j;have o:(k !=1)=true:=bne_iff_ne.2 b;clear b h;have p:((id.size:Int)==32)=decide (id.size=32):=by
  by_cases c:id.size=32
  ·rw [dT c];simp [c]
  rw [qF c];simp;omega
 go_in;go_wp2_with fail;refine f.mono ?_;rintro e q ⟨r,s,t,u,rfl,v,a⟩;go_wp2_with fail;go_ret;exact ⟨rfl,a⟩
end
theorem LY (x:Nat) (b:x<256):Lib.indexByte [48,49,50,51,52,53,54,55,56,57,97,98,99,100,101,102] (x:Int).toNat.toUInt8=aN x:=by
 have c: ∀a:_root_.Fin 256,Lib.indexByte [48,49,50,51,52,53,54,55,56,57,97,98,99,100,101,102] (a.val:Int).toNat.toUInt8=aN a.val:=by decide+kernel
 exact c ⟨x,b⟩
theorem zh (x:Nat) (b:x<256) (w):
  Calls an 172 #[.string ⟨#[48,49,50,51,52,53,54,55,56,57,97,98,99,100,101,102]⟩,.int .u8 x] w fun a w'=>a= .returned (.int .i64 (aN x))/\w'=w:=by
 refine (yb _ x w).mono ?_;rintro a w' ⟨rfl,c⟩;exact ⟨by rw [<-LY x b],c⟩
theorem CS (s w) (o0:s.size<=140737488355200):
  Calls an 185 #[.string s] w (zd w (aX s.data.toList)):=by
 obtain ⟨b,k⟩:=gH s.data.toList;have g:Hid (s.size=b):=qI (by rw [k,aC]);rw [<-k];have D:(s.size:Int)=b:=by have:=g.out;omega
 by_cases q:b.length%2=0
 rotate_left
 ·have r:(s.size:Int)%2=1:=qO;have T:(s.size:Int).tmod 2=1:=by rw [q8 qO];exact r
  have l:Hid (aX b=none):=zi b qO;clear D q;go_in;go_wp2_with fail;go_ret2;rw [l];exact ⟨rfl,bR _ _⟩
 have r:(s.size:Int)%2=0:=qO;have T:(s.size:Int).tmod 2=0:=by rw [q8 qO];exact r
 have U:=qI q;clear D q;go_in;go_wp2_with fail;go_loopw [4,5,6,7] (fun V i _ _ wr=>zf b w 5 V i wr) (fun _ i _ _ _=>b-(intOf i).toNat)
 case atStart=>exact ⟨0,[],none,0,rfl,rfl,zL,rfl,rfl,by unfold Hid;simp,⟨by simp [bc],.inl ⟨rfl,rfl⟩⟩,bR _ _,lR _,by unfold maxLen;omega⟩
 case round=>
  obtain ⟨a,c,E,F,rfl,rfl,p0,G,H,e1,I,j,q0,r0⟩:=hrel;have W:=qI H;have J:=qI G;have s0:c.length<=140737488355200:=by have:=g.out;omega
  clear H G;by_cases K:a+1<b
  ·have L:a<s.size:=by rw [g];omega
   have t0:a+1<s.size:=by rw [g];omega
   have X:a<b:=qO;have u0:=ltI a s.size;have v0:(a:Int)+1<s.size:=qO;obtain ⟨x,t⟩:=gX ((b[a]).toNat);obtain ⟨y,u⟩:=gX ((b[a+1]).toNat);have Y:x<256:=by have:=(b[a]).toNat_lt;omega
   have Z:y<256:=by have:=(b[a+1]).toNat_lt;omega
   have a0: ∀h:a<s.size,(s[a]'h).toNat=x:=fun h=>by rw [t];exact kx k.out X h
   have b0: ∀h:a+1<s.size,(s[a+1]'h).toNat=y:=fun h=>by rw [u];exact kx k.out K h
   have c0:=qI t;have d0:=qI u;clear t u;go_wp2_with fail;go_quiet ((go_at_call 172;first | exact A9 (zh x Y _) | exact A9 (zh y Z _)));obtain ⟨M,n⟩:=gX (World.drewN wr nq);have e0:M.ownsRow w 5 1 (.slice E c F) c (bc c):=by rw [n];exact I
   have o:Below w w M:=by rw [n];exact ⟨j.os,j.tape,j.output,j.size,j.block⟩
   have f0:=o.size;rw [<-n];clear n;have N:=ze K;have hstep:Hid (aX (b.drop a)=if aN x<0\/aN y<0 then none else (aX (b.drop (a+2))).map (UInt8.ofNat (16*(aN x).toNat+(aN y).toNat):: ·)):=by
    unfold Hid;rw [N,aX,c0,d0]
   have O:=mV x;have P:=mV y;obtain ⟨p,e⟩:=gX (aN x);obtain ⟨v,f⟩:=gX (aN y);rw [<-e,<-f] at hstep;rw [<-e] at O ⊢;rw [<-f] at P ⊢;clear e f N a0 b0;by_cases A:p<0\/v<0
   ·have l:Hid (aX b=none):=by unfold Hid;rw [e1,hstep,if_pos A];rfl
    rcases (by omega:p<0\/(0<=p/\v<0)) with e | ⟨e,f⟩
    ·go_wp2_with fail;go_ret2;rw [l];exact ⟨rfl,o⟩
    go_wp2_with fail;go_ret2;rw [l];exact ⟨rfl,o⟩
   have e:0<=p:=qO;have f:0<=v:=qO;obtain ⟨B,rfl⟩:=Od e;obtain ⟨C,rfl⟩:=Od f;have w0:B<16:=qO;have x0:C<16:=qO;obtain ⟨m,Q⟩:=gX (16*B+C);have y0:IntKind.u8.wrap (16*B+C)=(m:Int):=by rw [NR];omega
   have z0:m<256:=qO;have HM:=qI Q;rw [if_neg A] at hstep;clear Q A O P e f;go_wp2_with (at_builtin;refine cY rfl (.tmp 33) (.tmp 39) rfl w.heap.size _ c.length c rfl e0 rfl (by omega) (by omega) (by omega) f0 ?_);intro d R g0 h0 A0 ed e2 i0 j0 _ _ k0 l0;have m0:Hid (R.length=c+1):=qI (by rw [e2];simp);go_wp2_with fail;refine ⟨⟨a+2,R,g0,h0,rfl,by go_num,qO,by have:=J.out;omega,by rw [m0];have:=W.out;omega,?_,i0,o.trans j0,k0,l0⟩,by simp [intOf];omega⟩;exact z174
  have L:b=a:=by have:=U.out;have:=J.out;omega
  have B0:a<=140737488355200:=by have:=g.out;omega
  have C0: ¬((a:Int)<s.size):=by have:=g.out;omega
  have S:aX (b.drop a)=some []:=by
   rw [p9 qO];rfl
  have n0:Hid (aX b=some c):=by unfold Hid;rw [e1,S];simp
  clear S L;go_wp2_with (refine fU rfl (.tmp 41) rfl wr.heap.size E c F c rfl (d8 I) ?_);go_ret2;rw [n0];exact ⟨c,rfl,rfl,j⟩
theorem BC:(an.info? 107).map (fun i=>(i.zero,i.size,i.bytes))=some (some (.agg #[eS,eL]),2,40):=qkR
theorem BD {w ops rest o a Q} (g:o.guard=none) (s x)
  (h:o.op= .call { callee:=.builtin .append,args:=#[s,x],argTypes:=#[57,57] })
  (base v xs n) (r:n=xs.length) (i:a.eval s=v) (b:w.ownsRow base 107 2 v n (fc xs))
  (B A m c news) (j:a.eval x= .slice A m c) (t:m=news.length) (k:Rd w B 2 A m (fc news))
  (u:n+m<=3518437208883) (hbase:base<=w.heap.size)
  (l: ∀(ys:List FilA) (A':OA) (c':Nat) (w':World),Hid (ys=xs++news)->w'.ownsRow base 107 2 (.slice A' ys.length c') ys.length (fc ys)->Below base w w'->w.grownBy w' v.ownBlock->
   wpList an ops Q rest (a.put o.dst (.slice A' ys.length c')) w'):wpList an ops Q (o::rest) a w:=by
 refine hZ w g s x _ h base _ _ 2 40 Tryz.underlying57 BC rfl (by decide) v n (fc xs) i b B A m c (fc news) j k (iT _) (by unfold maxLen;omega) qO hbase ?_;intro A' c' w' d e y z C;have f:n+m=(xs++news).length:=by rw [b7];omega
 rw [<-iS,f] at d;rw [f];exact l _ A' c' w' rfl d ((bR _ _).grown e hbase (fun p q=>(b.lt p q).1)) e
def BE (w:World) (d:List Fil) (e:Ending) (w':World):Prop:=
 ∃(a:List FilA) (b:OA) (c:Nat),Hid (a.map FilA.f=d)/\e= .returned (.slice b a c)/\w'.ownsRow w 107 2 (.slice b a c) a (fc a)/\Fls8 w' 0 a/\Below w w w'
def BF (D:Dk) (B:Nat) (w:World) (q i:Value) (wr:World):Prop:=
 ∃(b:Nat) (a:List FilA) (c:OA) (d:Nat),q= .slice c a d/\i= .int .i64 b/\b<=D.l/\Hid (a.map FilA.f=D.l.take b)/\a=b/\wr.ownsRow w 107 2 (.slice c a d) a (fc a)/\Fls8 wr B a/\Below w w wr
section
variable {w:World} {g m:Nat} {D:Dk}
theorem BG (A:Dsk w g m D) (j:OkL D):Calls an 34 #[.pointer (some g)] w (BE w D.l):=by
 have V:=qI (jh A j);have E0:=j.len;have hO:=j.ord;go_in;go_wp2_with ((go_at_call 59;refine V.mono ?_;rintro W B ⟨F0,G0,rfl,X,v⟩));have C:=A.below v;have H0:=C.lt;have Y:=v.size;have E:=d8 X;go_loopw [3,9] (fun Z i wr=>BF D 0 B Z i wr) (fun _ i _=>D.l-(intOf i).toNat)
 case atStart=>exact ⟨0,[],none,0,rfl,rfl,zL,by simp [Hid],rfl,j9 _ _ _ _,fun b d=>(m9 d).elim,bR _ _⟩
 case round=>
  obtain ⟨a,e,a0,b0,rfl,rfl,I0,F,G,x,H,k⟩:=hrel;have c0:=k.size;by_cases d0:a<D.l
  ·have e0:=dtX ((a:Int)<D.l);have J0:=ltI a D.l.length;have K0:=zeI a;obtain ⟨b,d⟩: ∃b,D.l[a]?=some b:=⟨D.l[a],gE d0⟩;have s:=g8 d;have t:=(bz hO).2 s;have f0:b.1.size<=140737488355328:=by have I:=j.names b s;unfold ab at I;simp only [m8,decide_eq_true_eq] at I;omega
   have J:=j.small b s;have K:(sc (D.l.map PM))[a]?=some (.string b.1):=by simp [sc,d]
   have L:D.l.take (a+1)=D.l.take a++[b]:=by rw [t7,d];rfl
   have M:=E.belowW k (lR _);obtain ⟨L0,M0,rfl,N0,N⟩:=M.at_ qO;have g0:=N _ _ K;have O:=C.below k;obtain ⟨O0,P0,Q0,R0,S0,T0⟩:=O.cells;have P:=O.find hO b.1 (by unfold maxLen;omega);obtain ⟨n,h0⟩:=b;simp only at t f0 J g0 P;rcases P with ⟨i0,_,_⟩ | ⟨y,j0,k0,Q,l0,U0,V0,_,R⟩
   ·exfalso;have c:=i0.out;rw [t] at c;cases c
   have m0:y=h0:=by
    have c:=Q.out;rw [t] at c;injection c with c;exact c.symm
   subst m0;have W0:=R wr rfl;have n0:=qI (nV _ j0 y y k0 rfl wr l0.1 J);have o0:=qI L;have p0:=qI G;have X0:e.length<=kac:=qO;have Y0:=qiJ (a+1);clear R d s t K L N M G E Q;go_wp2_with (first
    | (go_at_call 93;refine n0.mono ?_;rintro W u ⟨o,p,q,q0,rfl,r0,h,s0,t0⟩)
    | (at_builtin;refine BD rfl (.tmp 13) (.tmp 23) rfl B.heap.size _ e e.length rfl rfl (E7 (az x h) _) (u.heap.size+1) _ 1 1 [⟨n,o,p,q⟩] rfl rfl (Rd.fileT u 107 ⟨n,o,p,q⟩) (by omega) (by have:=h.size;simp only [Go.World.size_alloc];omega) ?_;intro S u0 v0 Z0 z w0 x0 y0))
   have a1:=h.size;have z0:Fls8 (u.alloc (.cells #[n,.slice p o q] 107)) 0 (e++[⟨n,o,p,q⟩]):=by
    have T:=bAl u (.cells #[n,.slice p o q] 107);intro A0 r;rcases l7.1 r with r | r
    ·exact ((H.below h).below T) A0 r
    rw [i7.1 r];exact ⟨(J7 (s7 r0)).below T,s0,t0⟩
   have B0:=z0.keep y0 (K9 (E7 (az x h) _) (by decide) (zL));have C0:S=a+1:=by rw [z,b7,p0];rfl
   go_wp2_with fail;refine ⟨⟨a+1,S,u0,v0,rfl,by go_num,qO,?_,C0,w0,?_,(k.trans ((h.mono c0).trans (((bR _ _).alloc qO _).trans x0)))⟩,by simp [intOf];omega⟩
   ·unfold Hid;rw [z,p8,F,o0,<-q0];rfl
   rw [z];exact B0
  have e0:=dfX ((a:Int)<D.l);have U:a=D.l:=qO;have D0:Hid (e.map FilA.f=D.l):=qI (by rw [F,U,y7]);clear U;go_wp2_with fail;go_ret;exact ⟨e,a0,b0,D0,rfl,World.ownsRow.mono x Y,H,v.next k⟩
end
theorem tj {cap k} {e:List FilA} {D L} (h:cE cap (e.map FilA.f)=(some D,k)) (q:e.length<=L) (i: ∀x∈e,x.n.size<=140737488351232/\x.b.length<=140737488351232):
  OkG L 140737488351232 D/\D.left= -1/\D.dark=false/\D.cap=cap/\D.done=0:=by
 obtain ⟨_,r,s,j,c,g,d⟩:=CI h;have l:D.left= -1:=by rw [g]
 have m:D.dark=false:=by rw [g]
 have o:D.done=0:=by rw [g]
 refine ⟨⟨so c Ny,qO,qO,qO,qO,Cs c (fun f d=>(m9 d).elim),?_,fun f d=> ?_⟩,l,m,j,o⟩
 ·have a:=tm c;rw [g7,List.length_nil] at a;omega
 rcases CH c f d with a | a
 ·exact (m9 a).elim
 obtain ⟨x,p,rfl⟩:=e9.1 a;exact (i x p).2
section
variable {w:World} {g m:Nat} {D:Dk}
theorem tt (h:Dsk w g m D) (i:OkW D) (id) (B:id.size<=70368744177600):
  Calls an 44 #[.pointer (some g),.string id] w (RetGet w (aK geS D id)):=by
 obtain ⟨r,HR⟩:=gH (aK geS D id);rw [<-HR];have C:=qI (ow h i id);go_in;go_wp2_with fail;refine C.mono ?_;by_cases hs:id.size=32
 ·have h32:=qI hs;have hnB:=(gg hs).1;clear hs;rw [dT h32.out];rintro e q ⟨rfl,j⟩;have E:=h.below j;have F:=qI (lm id q B);go_wp2_with fail;refine F.mono ?_;rintro e U ⟨rfl,s⟩;have G:=E.below s;have hb02:=j.next s;have hRd:=jj G i.ord (af id) (fun b H=>i.small' H);cases hl:aa D.l (af id) with
  | none=>
   exact z235
  | some t=>
  have hrd:aU D (af id)=(t,0):=by
   unfold aU;rw [if_neg (by rw [hnB];decide),hl]
  rw [hrd] at hRd;have HRd:=qI hRd;clear hRd hrd;go_wp2_with fail;refine HRd.mono ?_;rintro e w3 ⟨b,A,c,hbr,rfl,ho3,hb3⟩;have hb03:=hb02.next hb3;have hbq:Hid (b=t):=hbr;have I:=i.small' hl;have J:=dz ho3;have K:b.length<=kaa:=by rw [hbq];exact I
  have L:=qI (tu A b c 2097152 w3 (d8 ho3) K J.1 (fun V r _ h=>by omega));clear hbr HRd;go_wp2_with fail;refine L.mono ?_;cases hop:cf b 2097152 with
  | none=>
   exact z250
  | some W=>
  rintro e w4 ⟨p,k,n,hp,rfl,u,hb4,v,x⟩;have M:=hb03.next hb4;have X:p.length<=kae:=by
   rw [hp];have:=(jr hop).2;omega
  have N:=qI (ov k p n w4 (d8 u) qO);have hr:Hid (r=if aw p=id.data.toList/\ah geS p=true then .ok p else .error 2):=by
   exact z276
  clear hl hop hbq;go_wp2_with fail;refine N.mono ?_;rintro e O ⟨rfl,y⟩;have hb05:=M.next y;have z:=az u y;by_cases hs:idO p=id
  ·have q2:=eM hs;have P:Hid (aw p=id.data.toList):=ox.1 hs;have a:=js k p n O (d8 z) v x qO;clear hs;cases d:aZ geS p with
   | none=>
    rw [d] at a;have o:=qI a;have hr2:Hid (r= .error 2):=by
     unfold Hid;rw [hr,if_neg (by unfold ah;rw [d];simp)]
    clear a d;go_wp2_with fail;refine o.mono ?_;rintro e Q ⟨rfl,f⟩;go_wp2_with fail;go_ret2;rw [hr2];exact ⟨(hb05.next f).alloc (hb05.next f).size _,rfl⟩
   | some Y=>
   rw [d] at a;have o:=qI a;have hr2:Hid (r= .ok p):=by
    unfold Hid;rw [hr,if_pos ⟨P.out,by unfold ah;rw [d];rfl⟩]
   clear a d;go_wp2_with fail;refine o.mono ?_;rintro e Q ⟨Z,a0,b0,c0,d0,e0,f0,g0,h0,i0,j0,k0,l0,m0,n0,o0,R,rfl,_,_,_,f,_,_,_⟩;have S:=az z f;have T:=hb03.size;clear R;go_wp2_with fail;go_ret2;rw [hr2];exact ⟨(hb05.next f).alloc (hb05.next f).size _,p,k,n,rfl,rfl,(S.alloc _).base T,v,x⟩
  exact z259
 have h32:=qI hs;have hr:Hid (r= .error 1):=by
  unfold Hid;rw [HR];unfold aK;rw [if_pos hs]
 clear hs;rw [qF h32.out];rintro e q ⟨rfl,j⟩;go_wp2_with fail;go_ret2;rw [hr];exact ⟨j,rfl⟩
end
def pm (f:Nat) (g:Addr) (b d:Nat) (T:TypeId) (h:List Value) (i:List Value->World->World->Prop) (w:World):Prop:=
 ∀a,Blk a b T (h.set (d+1) (.int .i32 1))->w.grownBy a (some b)->a.heap.size=w.heap.size->Calls an f #[.pointer (some g)] a fun j e=>j= .returned (.tuple #[])/\ ∃c,Blk e b T c/\c[d]?=some (.int .u32 0)/\c[d+1]?=some (.int .i32 1)/\i c a e
def vj (b d:Nat) (T:TypeId) (f:List Value->World->World->Prop) (w:World) (g:Ending) (w':World):Prop:=
 g= .returned (.tuple #[])/\ ∃e a c,f e a c/\w.grownBy a (some b)/\a.heap.size=w.heap.size/\Blk c b T e/\w'=(c.drew.setCell ⟨b,d,none⟩ (.int .u32 1)).setCell ⟨b,d+1,none⟩ (.int .i32 0)
theorem FR (e:Nat) (C: ∀args i,(callFunc e args).run an i= .ok (.enter e args) i) (b a T cs pl R w) (g:Blk w b T cs)
  (j:cs[a]?=some (.int .u32 0)) (k:cs[a+1]?=some (.int .i32 0)) (l:pm e pl b a T cs R w):
  Calls an 214 #[.pointer (some ⟨b,a,none⟩),.func (.func e) #[] #[.pointer (some pl)]] w (vj b a T R w):=by
 have n:w.cell? ⟨b,a,none⟩=some (.int .u32 0):=by rw [g.cell];exact j
 have D:w.cell? ⟨b,a+1,none⟩=some (.int .i32 0):=by rw [g.cell];exact k
 have E:=g.free (a+1);have o:=g.set (a+1) (.int .i32 1);have m:w.grownBy (w.setCell ⟨b,a+1,none⟩ (.int .i32 1)) (some b):=ae (gR _ _) _ _;have p:=qI (jN ⟨b,a,none⟩ 0 (w.setCell ⟨b,a+1,none⟩ (.int .i32 1)) ((G8 _ ⟨b,a+1,none⟩ ⟨b,a,none⟩ _ (by simp)).trans n));have q:=qI (l _ o m (by simp [World.setCell]));clear l j k;go_enter_defers Tryz.func214,Tryz.ntmps214;go_wp2_with (first | (go_at_call 260;refine (vg ⟨b,a+1,none⟩ _ (by go_simp) (by go_simp)).mono ?_;rintro h r ⟨rfl,rfl⟩));refine p.mono ?_;rintro h r ⟨rfl,rfl⟩;go_wp2_with fail;refine q.mono ?_;rintro h c ⟨rfl,s,d,i0,t,u⟩;have v:c.cell? ⟨b,a,none⟩=some (.int .u32 0):=by rw [d.cell];exact i0
 have x:c.cell? ⟨b,a+1,none⟩=some (.int .i32 1):=by rw [d.cell];exact t
 have y:=d.free a;go_wp2_with fail;simp only [bodyPostD];refine leaves_cons (f:=262) (args:=#[.pointer (some ⟨b,a,none⟩),.bool true]) (by simp) (by simp [go_sem]) ?_;refine (vc ⟨b,a,none⟩ (.int .u32 0) .returning _ v y).mono ?_;rintro h z A ⟨rfl,rfl,rfl⟩;have B:=d.drew.set a (.int .u32 1);refine leaves_cons (f:=261) (args:=#[.pointer (some ⟨b,a+1,none⟩)]) (by simp [settle]) (by simp [go_sem]) ?_;refine (vf ⟨b,a+1,none⟩ _ (c.drew.setCell ⟨b,a,none⟩ (.int .u32 1)) ((G8 c.drew ⟨b,a,none⟩ ⟨b,a+1,none⟩ _ (by simp)).trans (by rw [World.cell?_drew];exact x)) (B.free _)).mono ?_;rintro h z A ⟨rfl,rfl,rfl⟩;simp only [Leaves,settle,results,Tryz.results214];exact ⟨.tuple #[],by simp,rfl,s,_,c,u,m,by simp [World.setCell],d,rfl⟩
theorem FSx (a:Nat) (h: ∀args c,(callFunc a args).run an c= .ok (.enter a args) c) (b off T cs pl R w) (d:Blk w b T cs)
  (e:cs[off]?=some (.int .u32 0)) (i:cs[off+1]?=some (.int .i32 0)) (f:pm a pl b off T cs R w):
  Calls an 151 #[.pointer (some ⟨b,off,none⟩),.func (.func a) #[] #[.pointer (some pl)]] w (vj b off T R w):=by
 have j:=qI (jN ⟨b,off,none⟩ 0 w (by rw [d.cell];exact e));have k:=qI (FR a h b off T cs pl R w d e i f);clear f;go_in;go_wp2_with fail;refine j.mono ?_;rintro l n ⟨rfl,rfl⟩;go_wp2_with fail;refine k.mono ?_;rintro l o g;have m:=g.1;subst m;go_wp2_with fail;go_end0;exact g
end Go.Proofs.YtecpbcmpncgokaaGreat
namespace Go.Proofs.YtecpbcmpncgokaaGreat
open Go.RowKit Go.Dol Go.Shelf Go.Sort
def Kx:Go.Shelf.Ren:=⟨fun | 194=>84 | n=>n,fun | 0=>0 | 3=>3 | 4=>4 | 9=>9 | 31=>38 | n=>n,fun | n=>n⟩
theorem yd:Go.Proofs.Lays.n194 an Kx:={
 mixed:=qkR
 f194:=Tryz.func84.trans (congrArg some qkR)
 t0:=O8
 a0:=Tryz.isAgg0
 z0:=Tryz.sizeOf0
 v0:=Ph
 t3:=B9
 a3:=Tryz.isAgg3
 z3:=Tryz.sizeOf3
 v3:=Tryz.zeroValue3
 t4:=Ob
 a4:=Tryz.isAgg4
 z4:=Tryz.sizeOf4
 v4:=Tryz.zeroValue4
 t9:=l9
 a9:=Pb
 z9:=OQ
 v9:=Oi
 t31:=q9
 a31:=Tryz.isAgg38
 z31:=PC
 v31:=O7 }
def lsS (l:List BA):List (LU):=l.map (·.data.toList)
def eW (l:List BA):List BA:=(df (lsS l)).map idS
def cO (l:List BA):List BA:=(bZ (lsS l)).map idS
theorem mP (l:List (LU)):l.map encStr=sc (l.map idS):=by
 rw [sc,w9];exact NT fun a _=>rfl
theorem qf (l):(lsS l).map idS=l:=by
 rw [lsS,w9];exact (NT fun a _=>fD (fM _)).trans (List.map_id l)
theorem ye (l):lsS (l.map idS)=l:=by
 rw [lsS,w9];exact (NT fun a _=>fM a).trans (List.map_id l)
theorem iK (l):cO (eW l)=(fp (lsS l)).map idS:=by
 unfold cO eW;rw [ye];rfl
section
variable {w:World} {base n c:Nat} {A:OA} {l:List BA}
theorem yf (d:w.ownsRow base 9 1 (.slice A n c) n (sc l)):(A=none/\n=0/\c=0/\l=[])\/
  ∃g b,A=some ⟨g,0,none⟩/\base<=g/\g<w.heap.size/\n<=c/\c<=maxLen/\(lsS l).length=n/\Holds encStr w g 0 (lsS l).toArray/\w.heap[g]?=some (.cells b 9 (0,0))/\b.size=c*1:=by
 have z:l=n:=by have:=d.1;simpa [sc] using this
 rcases d.2 with ⟨j,k⟩ | ⟨g,B,b,h,e,i,f,m,o,C⟩
 ·injection j with e i f;exact .inl ⟨e,k,f,nZ qO⟩
 refine .inr ?_;have p:w.ownsRow base 9 1 (.slice A n c) n ((lsS l).map encStr):=by rw [mP,qf];exact d
 obtain ⟨D,E,q,F,r,G,H,s,t⟩:=Go.Lib.holds_of_ownsRow p (by rw [h];intro u;cases u);injection h with v I x;injection q with a J y;subst x y v;injection a with a;injection a with a;subst a;exact ⟨g,b,rfl,e,r,f,m,s,t,i,o⟩
theorem yg (f:w.ownsRow base 9 1 (.slice A n c) n (sc l)) (t:n<=8796093022208):
  Calls an 83 #[.slice A n c] w fun a w'=>a= .returned (.tuple #[])/\w'.ownsRow base 9 1 (.slice A n c) n (sc (eW l))/\w.grownBy w' (Value.slice A n c).ownBlock:=by
 rcases yf f with ⟨rfl,rfl,rfl,rfl⟩ | ⟨g,u,rfl,h,i,v,j,b,k,m,o⟩
 ·refine (AnyM.slices_Sort_string_none ll none 0 w).mono ?_;rintro a w' ⟨rfl,rfl⟩;exact ⟨rfl,by rw [show eW []=[] by simp [eW,df,lsS]];exact j9 _ _ _ _,gR _ _⟩
 have d:=AnyM.slices_Sort_string ll g 0 c (lsS l) w k i qO;rw [b] at d;refine d.mono ?_;rintro a w' ⟨rfl,p,q,rfl⟩;have e:=ownsRow_sorted (n:=p) (os:=q) (ts:=(lsS l).mergeSort fun r s=>decide (r<=s)) (ss:=lsS l) (OY _) h m qO j o;rw [b,mP] at e;exact ⟨rfl,e,grownBy_sorted _⟩
theorem yh (e:w.ownsRow base 9 1 (.slice A n c) n (sc l)) (r:n<=8796093022208):
  Calls an 84 #[.slice A n c] w fun b w'=> ∃k,b= .returned (.slice A k c)/\Hid (k=(cO l).length)/\k<=n/\w'.ownsRow base 9 1 (.slice A k c) k (sc (cO l))/\w.grownBy w' (Value.slice A n c).ownBlock:=by
 rcases yf e with ⟨rfl,rfl,rfl,rfl⟩ | ⟨d,s,rfl,t,u,v,x,m,o,y,z⟩
 ·refine (Any.slices_Compact_string_empty yd none 0 w).mono ?_;rintro b w' ⟨rfl,rfl⟩;exact ⟨0,rfl,rfl,lR _,j9 _ _ _ _,gR _ _⟩
 have f:=Any.slices_Compact_string yd d 0 c (lsS l) w o qO qO;have B:=Go.Lib.compact_length_le (lsS l);rw [m] at f;have p:w.ownsRow base 9 1 (.slice (some ⟨d,0,none⟩) n c) n ((lsS l).map encStr):=by rw [mP,qf];exact e
 refine f.mono ?_;rintro b w' ⟨rfl,g,rfl⟩;have h:=Go.Lib.ownsRow_putRow (q:=g) (k:=(Qj (lsS l)).length) (ys:=Qj (lsS l)++List.replicate (n-(Qj (lsS l)).length) []) p (by simp;omega) qO;rw [Nx,mP] at h;have i:=grownBy_sorted (w:=w) (g:=d) (n:=g) (os:=#[]) (Qj (lsS l)++List.replicate (n-(Qj (lsS l)).length) []).toArray;have j:cO l=(Qj (lsS l)).map idS:=by rw [Ky];rfl
 have q: ∀a:World,grow a #[]=a:=fun a=>by cases a;simp [grow]
 rw [q] at i;exact ⟨_,rfl,by unfold Hid;rw [j,g7],qO,by rw [j];exact h,i⟩
end
