/- Walks and laws. Conditions: as stated. -/
import Derived.Test.YtecpbcmpncgokaaGreatSumA
import Derived.Test.YtecpbcmpncgokaaGreatDeltaA
import Derived.Test.YtecpbcmpncgokaaGreatObjA
import Derived.Test.YtecpbcmpncgokaaGreatTheirs10
set_option maxRecDepth 99999
set_option maxHeartbeats 25600000
set_option linter.all false
open Go.Value renaming string->th
open Go.Proofs.Tryz renaming prog->an
open Go.RowKit Go.Dol
namespace Go.Dol
def magicL:LU:=[68,80,75,49]
def ah (ge:BA->BA->Bool) (raw:LU):Bool:=(aZ ge raw).isSome
def db (raw:LU):Nat×LU:=if (aA raw).length<raw then (1,aA raw) else (0,raw)
def fE (prev:LU) (a:Nat) (raw:LU):Bool:=decide (0<prev.length)&&(decide (prev.head?=raw.head?)&&decide (a<7))
def aO (prev:LU) (a:Nat) (raw:LU):Nat×LU:=
  if fE prev a raw=true/\(eg prev raw).length<(db raw).2.length then (2,eg prev raw) else db raw
def aI (a b:Nat):Nat:=if b=2 then a+1 else 0
def fL (raw:LU) (a:Nat×LU):LU:=aw raw++(UInt8.ofNat a.1::text a.2)
def dI:LU->Nat->List (LU)->LU
  | _,_,[]=>[]
  | prev,d,r::rs=>fL r (aO prev d r)++dI r (aI d (aO prev d r).1) rs
def bH (a:List (LU)):LU:=magicL++(num a.length++dI [] 0 a)
def gZ (ge:BA->BA->Bool) (a:List (LU)):Prop:=a.length<=4096/\(∀b∈a,ah ge b=true)/\(a.map aw).Nodup
instance (ge:BA->BA->Bool) (rs:List (LU)):Decidable (gZ ge rs):=by unfold gZ;infer_instance
def bl (ge:BA->BA->Bool) (a:List (LU)):Option (LU):=if gZ ge a then some (bH a++aw (bH a)) else none
structure Pt where
  id:LU
  kind:Nat
  depth:Nat
  size:Nat
  raw:LU
def bk (prev:LU) (c a:Nat) (b:LU):Option (LU):=
  if a=0 then some b else if a=1 then cf b 2097152 else if a=2 then (if 0<prev.length/\c<7 then cH prev b 2097152 else none) else none
def cg (ge:BA->BA->Bool) (e:Int) (prev:LU) (c:Nat) (l:LU):Option (Pt×LU):=
  match l.drop 32 with
  | []=>none
  | a::q=>match bh q e with
    | none=>none
    | some (d,f)=>match bk prev c a.toNat d with
      | none=>none
      | some b=>if aw b=l.take 32/\ah ge b=true then some (⟨l.take 32,a.toNat,aI c a.toNat,d.length,b⟩,f) else none
def bp (ge:BA->BA->Bool):Nat->LU->Nat->LU->Option (List Pt×LU)
  | 0,_,_,l=>some ([],l)
  | n+1,prev,d,l=>match cg ge 1099511627776 prev d l with
    | none=>none
    | some (p,rest)=>match bp ge n p.raw p.depth rest with
      | none=>none
      | some (ps,r)=>some (p::ps,r)
def ba (ge:BA->BA->Bool) (b:LU):Option (List Pt):=
  if b.length<36\/b.take 4≠magicL\/aw (b.take (b.length-32))≠b.drop (b.length-32) then none else
  match ad ((b.take (b.length-32)).drop 4) with
  | none=>none
  | some (a,d)=>if 4096<a then none else
    match bp ge a [] 0 d with
    | none=>none
    | some (c,e)=>if e=[]/\(c.map (·.id)).Nodup then some c else none
def eA:LU->Nat->List (LU)->List Pt
  | _,_,[]=>[]
  | prev,d,r::rs=>⟨aw r,(aO prev d r).1,aI d (aO prev d r).1,(aO prev d r).2.length,r⟩::eA r (aI d (aO prev d r).1) rs
theorem pu (raw):(db raw).1=0/\(db raw).2=raw\/(db raw).1=1/\(db raw).2=aA raw:=by
  unfold db;split
  · exact .inr ⟨rfl,rfl⟩
  exact .inl ⟨rfl,rfl⟩
theorem ti (raw):(db raw).2.length<=raw.length:=by
  unfold db;split
  · simp only;omega
  exact lR _
theorem lX (prev d raw):(aO prev d raw).2.length<=raw.length:=by
  have:=ti raw;unfold aO;split
  · rename_i a;simp only;omega
  exact this
theorem vx (prev d raw):(aO prev d raw).1<=2:=by
  unfold aO;split
  · exact lR 2
  rcases pu raw with a | a<;>rw [a.1]<;>omega
theorem jP {prev d raw}:fE prev d raw=true↔0<prev.length/\prev.head?=raw.head?/\d<7:=by
  unfold fE;simp
theorem vy {prev d raw} (e:d<=7):aI d (aO prev d raw).1<=7:=by
  unfold aI;split
  · rename_i a
    unfold aO at a;split at a
    · rename_i c;have:=jP.1 c.1;omega
    rcases pu raw with b | b<;>rw [b.1] at a<;>omega
  omega
theorem Gg {prev d raw} (e:prev.length<=2097152) (f:raw.length<=2097152):bk prev d (aO prev d raw).1 (aO prev d raw).2=some raw:=by
  unfold aO;split
  · rename_i c
    have b:=jP.1 c.1;unfold bk;rw [if_neg (by simp),if_neg (by simp),if_pos rfl,if_pos ⟨b.1,b.2.2⟩];rw [AK (by unfold cI;omega) (by unfold cI;omega),if_pos qO]
  rcases pu raw with a | a
  · rw [a.1,a.2];rfl
  rw [a.1,a.2];unfold bk;rw [if_neg (by simp),if_pos rfl,tF (by unfold cI;omega),if_pos qO]
theorem vz (raw kb l):(fL raw kb++l).take 32=aw raw/\(fL raw kb++l).drop 32=UInt8.ofNat kb.1::(text kb.2++l):=by
  have a:=ew raw;unfold fL;rw [g9];constructor
  · rw [<-a,Nx]
  rw [<-a,OS,List.cons_append]
theorem Gh {ge:BA->BA->Bool} {prev:LU} {d:Nat} {raw:LU} (l:LU) {a:Int} (b:prev.length<=kae) (c:raw.length<=kae) (e:ah ge raw=true) (f:(aO prev d raw).2.length<=a):
    cg ge a prev d (fL raw (aO prev d raw)++l)=some (⟨aw raw,(aO prev d raw).1,aI d (aO prev d raw).1,(aO prev d raw).2.length,raw⟩,l):=by
  have h:=vx prev d raw;have i:=lX prev d raw;have g:(UInt8.ofNat (aO prev d raw).1).toNat=(aO prev d raw).1:=by rw [NG];omega
  unfold cg;rw [(vz _ _ _).1,(vz _ _ _).2];simp only;rw [nl _ _ _ f (by unfold av;omega)];simp only;rw [g,Gg b c];simp only;rw [if_pos ⟨trivial,e⟩]
theorem vB {ge} (b: ∀r,ah ge r=true->r.length<=2097152): ∀(a:List (LU)) (prev:LU) (d:Nat),prev.length<=kae->(∀r∈a,ah ge r=true)->
    bp ge a.length prev d (dI prev d a)=some (eA prev d a,[])
  | [],_,_,_,_=>rfl
  | r::a,prev,d,g,c=>by
    have e:=c r (j8 ..);have f:=b r e;have j:=lX prev d r;rw [List.length_cons,dI,bp,Gh (ge:=ge) _ g f e qO];simp only;rw [vB b a r _ f fun h i=>c h (k8 _ i)];rfl
theorem jQ: ∀(a:List (LU)) (prev:LU) (d:Nat),(eA prev d a).map (·.id)=a.map aw
  | [],_,_=>rfl
  | r::a,prev,d=>by rw [eA,List.map_cons,List.map_cons,jQ a]
theorem vC: ∀(a:List (LU)) (prev:LU) (d:Nat),(eA prev d a).map (·.raw)=a
  | [],_,_=>rfl
  | r::a,prev,d=>by rw [eA,List.map_cons,vC a]
theorem vD:magicL.length=4:=rfl
theorem lY {ge} (e: ∀r,ah ge r=true->r.length<=2097152) {rs b} (a:bl ge rs=some b):ba ge b=some (eA [] 0 rs):=by
  unfold bl at a;split at a
  · rename_i f
    obtain ⟨n,g,h⟩:=f;injection a with a;have c:=ew (bH rs);have i:4<=(bH rs).length:=by unfold bH;rw [b7,vD];omega
    have j:b-32=(bH rs).length:=by rw [<-a,b7,c];omega
    have d:b.take (bH rs).length=bH rs:=by rw [<-a,Nx]
    have k:b.drop (bH rs).length=aw (bH rs):=by rw [<-a,OS]
    have l:b.take 4=magicL:=by
      have:b.take 4=((b.take (bH rs).length).take 4):=by rw [Om,Oj i]
      rw [this,d];unfold bH;show List.take magicL _=_;exact Nx
    have m:(bH rs).drop 4=num rs.length++dI [] 0 rs:=by unfold bH;show List.drop magicL _=_;exact OS
    have o:b=(bH rs).length+32:=by rw [<-a,b7,c]
    unfold ba;rw [j,d,k,l,m,if_neg (by simp;omega),dV _ _ (by unfold av;omega)];simp only;rw [if_neg qO,vB e rs [] 0 (by simp) g];simp only;rw [if_pos ⟨trivial,by rw [jQ];exact h⟩]
  cases a
theorem pw (size): ∀(f:Nat) (out p r:LU),ek size f out p=some r->out.length<=size->p.length<=19*(size-out)/\r.length=size
  | f,out,[],r,h,g=>by
    exact z87
  | 0,out,c::q,r,h,g=>by cases h
  | f+1,out,c::q,r,h,g=>by
    unfold ek at h;cases a:ad (c::q) with
    | none=>rw [a] at h;cases h
    | some x=>
      obtain ⟨i,rest⟩:=x;have j:=ch a;have o:=aJ 8 i (by have:=j.2;unfold av at this;omega);have s:(c::q).length=(num i).length+rest:=by rw [j.1,b7]
      rw [a] at h;simp only at h;split at h
      · split at h
        · rename_i l
          have:=pw size f _ _ _ h (by rw [b7,b9];omega);rw [b7,b9,b8] at this;omega
        cases h
      cases b:ad rest with
      | none=>rw [b] at h;cases h
      | some m=>
        obtain ⟨d,n⟩:=m;have k:=ch b;have t:=aJ 8 d (by have:=k.2;unfold av at this;omega);have u:rest=(num d).length+n:=by rw [k.1,b7]
        rw [b] at h;simp only at h;split at h
        · rename_i l
          have:=pw size f _ _ _ h (by rw [lZ];omega);rw [lZ] at this;omega
        cases h
theorem jr {p r most} (a:cf p most=some r):p.length<=19*r.length+9/\(r.length:Int)<=most:=by
  unfold cf at a;cases b:ad p with
  | none=>rw [b] at a;cases a
  | some e=>
    obtain ⟨size,c⟩:=e;have d:=ch b;have f:=aJ 8 size (by have:=d.2;unfold av at this;omega);have g:p=(num size).length+c:=by rw [d.1,b7]
    rw [b] at a;simp only at a;split at a
    · rename_i h
      have:=pw size _ [] c r a (by simp);simp only [List.length_nil] at this;omega
    cases a
theorem px (base size): ∀(f:Nat) (out p r:LU),dF base size f out p=some r->out.length<=size->p.length<=19*(size-out)/\r.length=size
  | f,out,[],r,h,i=>by
    exact z87
  | 0,out,c::q,r,h,i=>by cases h
  | f+1,out,c::q,r,h,i=>by
    unfold dF at h;cases b:ad (c::q) with
    | none=>rw [b] at h;cases h
    | some x=>
      obtain ⟨a,rest⟩:=x;have j:=ch b;have s:=aJ 8 a (by have:=j.2;unfold av at this;omega);have t:(c::q).length=(num a).length+rest:=by rw [j.1,b7]
      rw [b] at h;simp only at h;split at h
      · split at h
        · rename_i m
          have:=px base size f _ _ _ h (by rw [b7,b9];omega);rw [b7,b9,b8] at this;omega
        cases h
      cases g:ad rest with
      | none=>rw [g] at h;cases h
      | some n=>
        obtain ⟨d,o⟩:=n;have k:=ch g;have u:=aJ 8 d (by have:=k.2;unfold av at this;omega);have v:rest=(num d).length+o:=by rw [k.1,b7]
        rw [g] at h;simp only at h;split at h
        · rename_i m
          have l:((base.drop d).take (a/2+1)).length=a/2+1:=by rw [b9,b8];omega
          have:=px base size f _ _ _ h (by rw [b7,l];omega);rw [b7,l] at this;omega
        cases h
theorem vE {base p r most} (a:cH base p most=some r):p.length<=19*r.length+18/\(r.length:Int)<=most:=by
  unfold cH at a;cases b:ad p with
  | none=>rw [b] at a;cases a
  | some h=>
    obtain ⟨n,c⟩:=h;have e:=ch b;have j:=aJ 8 n (by have:=e.2;unfold av at this;omega);have k:p=(num n).length+c:=by rw [e.1,b7]
    rw [b] at a;simp only at a;split at a
    · cases d:ad c with
      | none=>rw [d] at a;cases a
      | some i=>
        obtain ⟨size,f⟩:=i;have g:=ch d;have l:=aJ 8 size (by have:=g.2;unfold av at this;omega);have m:c=(num size).length+f:=by rw [g.1,b7]
        rw [d] at a;simp only at a;split at a
        · rename_i o
          have:=px base size _ [] f r a (by simp);simp only [List.length_nil] at this;omega
        cases a
    cases a
theorem Gi {ge} (b: ∀r,ah ge r=true->r.length<=2097152) {prev d k t raw} (a:bk prev d k t=some raw) (c:ah ge raw=true):t.length<=1099511627776:=by
  have e:=b raw c;unfold bk at a;split at a
  · injection a with a;subst a;omega
  split at a
  · have:=(jr a).1;omega
  split at a
  · split at a
    · have:=(vE a).1;omega
    cases a
  cases a
theorem ma {q m m2 t rest} (a:bh q m=some (t,rest)) (b:(t.length:Int)<=m2):bh q m2=some (t,rest):=by
  obtain ⟨rfl,_,c⟩:=fT a;exact nl t rest m2 b c
theorem Gj {ge} (o: ∀r,ah ge r=true->r.length<=2097152) (prev d l):cg ge l.length prev d l=cg ge 1099511627776 prev d l:=by
  unfold cg;cases p:l.drop 32 with
  | nil=>rfl
  | cons q b=>
    simp only;have u:b.length<=l:=by
      have:(l.drop 32).length=b+1:=by rw [p];rfl
      rw [b8] at this;omega
    cases f:bh b l with
    | some s=>
      obtain ⟨t,v⟩:=s;simp only;cases g:bk prev d q.toNat t with
      | none=>
        cases a:bh b 1099511627776 with
        | none=>rfl
        | some c=>
          obtain ⟨i,j⟩:=c;obtain ⟨e,k,m⟩:=fT a;have:=ma a (m2:=l.length) (by have:=congrArg List.length e;rw [b7] at this;unfold text at this;rw [b7] at this;omega);rw [f] at this;obtain ⟨rfl,rfl⟩:=NK (K8 this);simp only;rw [g]
      | some n=>
        by_cases h:aw n=l.take 32/\ah ge n=true
        · rw [ma f (by have:=Gi o g h.2;omega)]
          simp only;rw [g]
        simp only;rw [if_neg h];cases a:bh b 1099511627776 with
        | none=>rfl
        | some c=>
          obtain ⟨i,j⟩:=c;obtain ⟨e,k,m⟩:=fT a;have:=ma a (m2:=l.length) (by have:=congrArg List.length e;rw [b7] at this;unfold text at this;rw [b7] at this;omega);rw [f] at this;obtain ⟨rfl,rfl⟩:=NK (K8 this);simp only;rw [g];simp only;rw [if_neg h]
    | none=>
      cases a:bh b 1099511627776 with
      | none=>rfl
      | some c=>
        obtain ⟨i,j⟩:=c;obtain ⟨e,k,m⟩:=fT a;have:=ma a (m2:=l.length) (by have:=congrArg List.length e;rw [b7] at this;unfold text at this;rw [b7] at this;omega);rw [f] at this;cases this
structure PtA where
 p:Pt
 A:OA
 c:Nat
def idS (l:LU):BA:=⟨l.toArray⟩
def PtA.cells (x:PtA):List Value:=[.string (idS x.p.id),.int .i64 (x.p.kind:Nat),.int .i64 (x.p.depth:Nat),.int .i64 (x.p.size:Nat)]
def ptc (l:List PtA):List Value:=l.flatMap PtA.cells
def ptm (l:List PtA):List (Value×Value):=l.map fun a=>(.string (idS a.p.id),.slice a.A a.p.raw.length a.c)
def ptp (l:List PtA):List Pt:=l.map PtA.p
theorem Gk (l): ∀u∈ptc l,u.oneCell'=true:=by
 intro u b;obtain ⟨c,_,a⟩:=I7.1 b;simp only [PtA.cells,i8,m9,or_false] at a;rcases a with rfl | rfl | rfl | rfl<;>rfl
theorem fM (l):(idS l).data.toList=l:=by simp [idS]
theorem mc {l s}:idS l=s↔l=s.data.toList:=by
 constructor
 ·intro a;rw [<-a];simp [idS]
 intro a;rw [a];cases s;simp [idS]
def bV (l:List Pt) (s:LU):Option Pt:=l.find? fun a=>decide (a.id=s)
def dY (l:List Pt) (s:BA):Except Int (LU):=if s.size=32 then (match bV l s.data.toList with | none=> .error 6 | some a=> .ok a.raw) else .error 1
def df (l:List (LU)):List (LU):=l.mergeSort fun a b=>decide (a<=b)
def aV (l:List Pt):List BA:=(df (l.map (·.id))).map idS
theorem py (l):(aV l).length=l.length:=by simp [aV,df,OY]
theorem hA {w w':World} {base e size v n xs} (a:w.ownsRow base e size v n xs) (f: ∀k,base<=k->k<w.heap.size->w'.heap[k]?=w.heap[k]?):w'.ownsRow base e size v n xs:=by
 refine ⟨a.1,?_⟩;rcases a.2 with g | ⟨b,h,i,rfl,c,d,j⟩
 ·exact .inl g
 exact .inr ⟨b,h,i,rfl,c,(f b c (j7.1 d).1).trans d,j⟩
end Go.Dol
namespace Go.Proofs.YtecpbcmpncgokaaGreat
def B8 (w:World) (base:Nat) (A:OA) (l:LU):Prop:=Far w 0 A l/\(0<l.length-> ∀a,au A=some a->base<=a)
theorem B8.nil {w base A}:B8 w base A []:=⟨Far.nil,fun a=>absurd a (by decide)⟩
theorem B8.own {w base A l c} (h:w.ownsRow base 5 1 (.slice A l.length c) l.length (bc l)):B8 w base A l:=by
 refine ⟨J7 (s7 h),fun a k hk=> ?_⟩;exact z51
theorem B8.rd {w base A l} (a:B8 w base A l):Rd w w.heap.size 1 A l.length (bc l):=a.1.1
theorem B8.lower {w base base' A l} (a:B8 w base A l) (b:base'<=base):B8 w base' A l:=⟨a.1,fun c d e=>lT b (a.2 c d e)⟩
theorem B8.grown {w w' base A l} (a:B8 w base A l) {row} (b:w.grownBy w' row) (c:Other w 0 row):B8 w' base A l:=⟨a.1.keep b c,a.2⟩
theorem B8.keepB {w w' base A l} (a:B8 w base A l) (g: ∀k,base<=k->k<w.heap.size->w'.heap[k]?=w.heap[k]?) (m:w.heap.size<=w'.heap.size):B8 w' base A l:=by
 rcases p7 l.length with c | c
 ·obtain rfl:l=[]:=nZ c;exact B8.nil
 obtain ⟨b,n,h,e,o⟩:=a.1.1.at_ c;have f:au A=some b:=by rw [h];rfl
 have i:=a.2 c b f;refine ⟨⟨⟨a.1.1.len,fun _=>⟨b,n,h,r9 e m,fun j u p=>(k7 (g b i e)).trans (o j u p)⟩⟩,fun _ k d=> ?_⟩,a.2⟩;rw [f] at d;injection d with d;subst d;rw [g b i e];exact a.1.2 c b f
structure Pck (w:World) (base g:Nat) (l:List PtA) (A:OA) (c m:Nat) (d:Int) (vi:Value):Prop where
 blk:Blk w g 205 [.slice A l c,.map (some m),.int .u32 d,.int .i32 0,.int .u32 0,vi]
 gb:base<=g
 mb:base<=m
 parts:w.ownsRow base 306 4 (.slice A l c) l (ptc l)
 map:MapL an 9 w m (ptm l)
 raws: ∀x∈l,B8 w base x.A x.p.raw/\x.p.raw.length<=x.c/\x.c<=maxLen
 ids:d=0/\vi= .slice none 0 0\/d=1/\ ∃Ai ci,vi= .slice Ai l ci/\w.ownsRow base 9 1 (.slice Ai l ci) l (pc (aV (ptp l)))
section
variable {w w':World} {base g:Nat} {l:List PtA} {A:OA} {c m:Nat} {d:Int} {vi:Value}
theorem Pck.keep (a:Pck w base g l A c m d vi) (b: ∀k,base<=k->k<w.heap.size->w'.heap[k]?=w.heap[k]?) (i:w.heap.size<=w'):Pck w' base g l A c m d vi:=
 ⟨a.blk.keepB (b g a.gb a.blk.lt),a.gb,a.mb,hA a.parts b,a.map.keepB (b m a.mb a.map.lt),fun f h=>⟨(a.raws f h).1.keepB b i,(a.raws f h).2⟩,by
  rcases a.ids with e | ⟨e,j,n,o,p⟩
  ·exact .inl e
  ·exact .inr ⟨e,j,n,o,hA p b⟩⟩
theorem Pck.below (b:Pck w base g l A c m d vi) (a:Below w w w'):Pck w' base g l A c m d vi:=b.keep (fun e _ f=>a.block e f) a.size
theorem Pck.cells (a:Pck w base g l A c m d vi):w.cell? g=some (.slice A l c)/\w.cell? ⟨g,1,none⟩=some (.map (some m))/\w.cell? ⟨g,2,none⟩=some (.int .u32 d)/\w.cell? ⟨g,3,none⟩=some (.int .i32 0)/\w.cell? ⟨g,5,none⟩=some vi:=
 ⟨by rw [a.blk.cell];rfl,by rw [a.blk.cell];rfl,by rw [a.blk.cell];rfl,by rw [a.blk.cell];rfl,by rw [a.blk.cell];rfl⟩
theorem me (w):(zeroValue 36).run an w= .ok eL w:=qkR
theorem jR:Go.Maps.Keyed an 9:=Go.Maps.string_keyed l9
theorem Gl {l s v} (e:(l.map fun x=>x.p.id).Nodup) (h:(th s,v)∈ptm l): ∃x∈l,v= .slice x.A x.p.raw.length x.c/\bV (ptp l) s.data.toList=some x.p:=by
 obtain ⟨x,a,f⟩:=e9.1 h;injection f with b i;injection b with b;refine ⟨x,a,i.symm,?_⟩;have j:=mc.1 b;clear h b i;induction l with
 | nil=>cases a
 | cons k l n=>
 unfold bV ptp;rw [List.map_cons,Pj];rw [List.map_cons,NP] at e;rcases i8.1 a with rfl | a
 ·rw [dT j]
 have: ¬k.p.id=s.data.toList:=fun f=>e.1 (e9.2 ⟨x,a,by rw [j,f]⟩);rw [qF this];exact n e.2 a
theorem Gm {l s} (a: ∀p∈ptm l,p.1≠th s):bV (ptp l) s.data.toList=none:=by
 unfold bV ptp;rw [Px];intro p b;obtain ⟨e,f,rfl⟩:=e9.1 b;have:=a _ (e9.2 ⟨e,f,rfl⟩);simp only [decide_eq_true_eq];intro h;exact this (congrArg th (mc.2 h))
theorem Pck.nodup (b:Pck w base g l A c m d vi):(l.map fun x=>x.p.id).Nodup:=by
 have a:=b.map.nodup;unfold ptm at a;rw [w9] at a;have e:(l.map fun x=>x.p.id).map (fun s=>th (idS s))=l.map (Prod.fst∘fun x=>(th (idS x.p.id),Value.slice x.A x.p.raw.length x.c)):=by rw [w9];rfl
 rw [<-e] at a;exact List.Pairwise.of_map _ (fun h i b f=>b (congrArg (fun s=>th (idS s)) f)) a
theorem Pck.look (e:Pck w base g l A c m d vi) (s) (k:s.size<=maxLen):
  (bV (ptp l) s.data.toList=none/\(∀w',w'.heap[m]?=w.heap[m]?->(Instr.lookup 140 (.map (some m)) (.string s) true).run an w'= .ok (.tuple #[eL,false]) w'))\/
  ∃x∈l,bV (ptp l) s.data.toList=some x.p/\(∀w',w'.heap[m]?=w.heap[m]?->(Instr.lookup 140 (.map (some m)) (.string s) true).run an w'= .ok (.tuple #[.slice x.A x.p.raw.length x.c,true]) w')/\
   (∀w',w'.heap[m]?=w.heap[m]?->(Instr.lookup 140 (.map (some m)) (.string s) false).run an w'= .ok (.slice x.A x.p.raw.length x.c) w'):=by
 have i:=NJ l9 k;have n:=e.nodup;rcases e.map.look jR D7 (me w) i true with ⟨b,_⟩ | ⟨j,b,_⟩
 ·refine .inl ⟨Gm b,fun w' f=> ?_⟩;rcases (e.map.keepB f).look jR D7 (me w') i true with ⟨_,a⟩ | ⟨j,a,_⟩
  ·exact a
  exact absurd rfl (b _ a)
 obtain ⟨x,o,rfl,q⟩:=Gl n b;refine .inr ⟨x,o,q,fun w' f=> ?_,fun w' f=> ?_⟩
 ·rcases (e.map.keepB f).look jR D7 (me w') i true with ⟨a,_⟩ | ⟨j,a,h⟩
  ·exact absurd rfl (a _ b)
  rw [Go.Proofs.YtecpbcmpncgokaaGreat.key_one e.map.nodup a b] at h;exact h
 rcases (e.map.keepB f).look jR D7 (me w') i false with ⟨a,_⟩ | ⟨j,a,h⟩
 ·exact absurd rfl (a _ b)
 rw [Go.Proofs.YtecpbcmpncgokaaGreat.key_one e.map.nodup a b] at h;exact h
theorem vF (h:Pck w base g l A c m d vi) (s) (e:s.size<=maxLen):Calls an 86 #[.pointer (some g),.string s] w fun f w'=>f= .returned (.bool (bV (ptp l) s.data.toList).isSome)/\w'=w:=by
 obtain ⟨j,k,_⟩:=h.cells;rcases h.look s e with ⟨a,b⟩ | ⟨n,o,a,b,_⟩
 ·have i:=b w rfl;rw [a];clear b a;exact z38
 have i:=b w rfl;rw [a];clear b a;exact z38
def RetGet (w:World) (r:Except Int (LU)) (a:Ending) (w':World):Prop:=
 Below w w w'/\match r with
  | .error b=>a= .returned (.tuple #[eL,b])
  | .ok e=> ∃(q:LU) (A:OA) (c:Nat),Hid (q=e)/\a= .returned (.tuple #[.slice A q c,i0])/\w'.ownsRow w 5 1 (.slice A q c) q (bc q)/\q<=c/\c<=maxLen
theorem Gn (h:Pck w base g l A c m d vi) (s) (j:s.size<=maxLen) (q: ∀x∈l,x.p.raw.length<=140737488351232):Calls an 87 #[.pointer (some g),.string s] w (RetGet w (dY (ptp l) s)):=by
 obtain ⟨F,G,_⟩:=h.cells;have a:=qI (vF h s j);unfold dY;by_cases k:s.size=32
 ·have r:((s.size:Int)!=32)=false:=by simp;omega
  rw [if_pos k];rcases h.look s j with ⟨e,b⟩ | ⟨x,n,e,_,b⟩
  ·rw [e] at a ⊢;clear b;have f:(none:Option Pt).isSome=false:=rfl;rw [f] at a;go_in;go_wp2_with (go_at_call 86;refine a.mono ?_;rintro o w' ⟨rfl,i⟩;obtain rfl:=i.symm);go_ret2;exact ⟨bR _ _,rfl⟩
  rw [e] at a ⊢;have f:(some x.p).isSome=true:=rfl;rw [f] at a;have H:=b w rfl;have t:=qI (iW x.A x.p.raw x.c w (h.raws x n).1.rd (by have:=q x n;omega));clear b;go_in;go_wp2_with (first | (go_at_call 86;refine a.mono ?_;rintro o w' ⟨rfl,i⟩;obtain rfl:=i.symm) | (go_at_call 93;refine t.mono ?_;rintro o w' ⟨u,v,y,z,rfl,B,C,D,E⟩));go_ret2;exact ⟨C,u,v,y,z,rfl,B,D,E⟩
 have r:((s.size:Int)!=32)=true:=by simp;omega
 rw [if_neg k];exact z95
end
end Go.Proofs.YtecpbcmpncgokaaGreat
namespace Go.Dol
def PtA.rcells (x:PtA):List Value:=[.string (idS x.p.id), .int .i64 (x.p.kind:Nat), .int .i64 (x.p.depth:Nat), .int .i64 (x.p.size:Nat), .slice x.A x.p.raw x.c]
def rpc (l:List PtA):List Value:=l.flatMap PtA.rcells
theorem pW (l):(rpc l).length=l.length*5:=by
  induction l with
  | nil=>rfl
  | cons b l a=>rw [rpc,List.flatMap_cons,b7,List.length_cons];show 5+(rpc l).length=_;rw [a];omega
theorem bD: ∀{l:List PtA} {i:Nat} {x:PtA},l[i]?=some x-> ∀j,j<5->(rpc l)[i*5+j]?=x.rcells[j]?
  | [],i,x,a,_,_=>by simp at a
  | y::l,0,x,a,j,b=>by
    have c:y=x:=by simpa using a
    subst c;rw [rpc,List.flatMap_cons,Nat.zero_mul,x9,G9 (by show j<5;omega)]
  | y::l,i+1,x,a,j,b=>by
    rw [rpc,List.flatMap_cons,G7 (by show 5<=_;omega)];have d:(i+1)*5+j-y.rcells=i*5+j:=by show (i+1)*5+j-5=_;omega
    rw [d];exact bD (l:=l) (by simpa using a) j b
theorem wH (a b):rpc (a++b)=rpc a++rpc b:=by simp [rpc]
theorem wI (l): ∀u∈rpc l,u.oneCell'=true:=by
  intro u b;obtain ⟨c,_,a⟩:=I7.1 b;simp only [PtA.rcells,i8,m9,or_false] at a;rcases a with rfl | rfl | rfl | rfl | rfl<;>rfl
def cM (l:List PtA):List (LU):=l.map fun a=>a.p.id
theorem wJ (l):cM l=(ptp l).map (·.id):=by simp [cM,ptp]
theorem Ip {l:List PtA} {k} {x:PtA} (c:l[k]?=some x) (d:(cM (l.take k)).Nodup) (e:x.p.id∉cM (l.take k)):(cM (l.take (k+1))).Nodup:=by
  obtain ⟨f,a⟩:=c9.1 c;rw [n9 f,a];unfold cM;rw [p8,E9];refine ⟨d,by simp,fun g ha h b=> ?_⟩;simp only [List.map_cons,List.map_nil,i7] at b;subst b;exact fun a=>e (a▸ha)
theorem Iq {l:List PtA} {j} {y:PtA} {s} (b:l[j]?=some y) (c:s∉cM (l.take j)) (d: ¬s=y.p.id):s∉cM (l.take (j+1)):=by
  obtain ⟨e,f⟩:=c9.1 b;rw [n9 e,f];unfold cM;rw [p8,l7];rintro (a | a)
  · exact c a
  exact d (by simpa using a)
theorem Ir {l:List PtA} {j k:Nat} {x y:PtA} (a:l[k]?=some x) (b:l[j]?=some y) (c:j<k) (d:x.p.id=y.p.id): ¬(cM l).Nodup:=by
  intro e;obtain ⟨f,g⟩:=c9.1 a;obtain ⟨h,i⟩:=c9.1 b;have:=E8.1 e j k (by simpa [cM] using h) (by simpa [cM] using f) c;apply this;simp only [cM,Nt,g,i,d]
end Go.Dol
namespace Go.Proofs.YtecpbcmpncgokaaGreat
def Is (l:List PtA) (w:World) (b:Ending) (w':World):Prop:= ∃a:Bool,b= .returned (.bool a)/\Hid (a=true↔ ¬(cM l).Nodup)/\ ∃c,w'=w.drewN c
def It (l:List PtA) (w:World) (i:Value) (wr:World):Prop:= ∃a b:Nat,i= .int .i64 a/\a<=l.length/\Hid ((cM (l.take a)).Nodup)/\Hid (wr=w.drewN b)
def Iu (l:List PtA) (k:Nat) (s:LU) (w:World) (i:Value) (wr:World):Prop:= ∃a b:Nat,i= .int .i64 a/\a<=k/\Hid (s∉cM (l.take a))/\Hid (wr=w.drewN b)
theorem wK (A l c w B) (L:Rd w B 5 A l.length (rpc l)) (X:l.length<=kaf):
    Calls an 145 #[.slice A l c] w (Is l w):=by
  go_in;go_wp2_with fail;go_loopw [3] (fun i wr=>It l w i wr) (fun i _=>l-(intOf i).toNat)
  case atStart=>exact ⟨0,0,rfl,zL,by simp [cM,Hid],rfl⟩
  case round=>
    obtain ⟨a,g,rfl,Y,t,h⟩:=hrel;have z:Rd wr B 5 A l (rpc l):=by rw [h];exact L.drewN g
    have Z:=qiJ (a+1);by_cases C:a<l
    · have M:=ltI a l.length
      have a0:=zeI a;obtain ⟨e,D⟩: ∃e,l[a]?=some e:=⟨l[a],gE C⟩;obtain ⟨E,F⟩:=gX wr;have u:=qI D;rw [<-F] at z h ⊢;clear F D;go_wp2_with fail;go_loopw [4] (fun i wr=>Iu l a e.p.id E i wr) (fun i _=>a-(intOf i).toNat)
      case atStart=>exact ⟨0,0,rfl,zL,by simp [cM,Hid],rfl⟩
      case round=>
        obtain ⟨b,f,rfl,b0,j,r⟩:=hrel;have N:Rd wr B 5 A l (rpc l):=by rw [r];exact z.drewN f
        have c0:=qiJ (b+1);by_cases v:b<a
        · have d0:=ltI b l.length
          have e0:=zeI b;obtain ⟨k,m⟩: ∃k,l[b]?=some k:=⟨l[b]'qO,gE qO⟩;obtain ⟨G,H,rfl,f0,s⟩:=N.at_ qO;have O:wr.cell? ⟨G,H+a*5,none⟩=some (.string (idS e.p.id)):=s (a*5+0) _ (bD u.out 0 qO);have P:wr.cell? ⟨G,H+b*5,none⟩=some (.string (idS k.p.id)):=s (b*5+0) _ (bD m 0 qO);obtain ⟨Q,n⟩:=gX (idS e.p.id);obtain ⟨R,o⟩:=gX (idS k.p.id);rw [<-n] at O;rw [<-o] at P;have S:Hid (∀d,wr.drewN d=w.drewN (g+f+d)):=fun d=>by rw [r,h,o8,o8,OH]
          by_cases q:Q=R
          · have I:=Ir u.out m v (by
            have:idS e.p.id=idS k.p.id:=by rw [<-n, <-o,q]
            have:=congrArg (fun T:BA=>T.data.toList) this;simpa [idS] using this)
            have U:=qI I;obtain rfl:=q;clear n o s m I;go_wp2_with fail;go_quiet (fail);go_wp2_with fail;go_ret;exact ⟨true,rfl,by unfold Hid;simp [U.out],_,S.out nq⟩
          have g0:=beq_eq_false_iff_ne.2 fun x=>q (fh x);have V:=qI (Iq m j.out (fun x=>q (by rw [n,o,x])));have y:Hid (∀d,wr.drewN d=E.drewN (f+d)):=fun d=>by rw [r,o8]
          clear n o s m j q;go_wp2_with fail;go_quiet (fail);go_wp2_with fail;exact ⟨⟨b+1,f+nq,by go_num,qO,V,qI (y.out nq)⟩,by simp [intOf];omega⟩
        have h0:=qF v;have J:b=a:=qO;rw [J] at j;have W:=qI (Ip u.out t.out j.out);have y:Hid (wr=w.drewN (g+f)):=by unfold Hid;rw [r,h,o8]
        clear J j v;go_wp2_with fail;exact ⟨⟨a+1,g+f,by go_num,qO,W,y⟩,by simp [intOf];omega⟩
    have M: ¬(a:Int)<l:=qO;have K:a=l:=qO;rw [K,y7] at t;clear K C;go_wp2_with fail;go_ret;exact ⟨false,rfl,by unfold Hid;simp [t.out],g,h.out⟩
