/- Walks and laws. Conditions: as stated. -/
import Derived.Test.YtecpbcmpncgokaaGreatObjA
import Derived.Deep.CondSized
import Derived.Lib.SmallJoins
import Derived.Test.YtecpbcmpncgokaaGreatSrtP
set_option maxRecDepth 99999
set_option maxHeartbeats 25600000
set_option linter.all false
open Go.DataW renaming trod->PS
open Go.Proofs.Tryz renaming prog->an
open Go.RowKit Go.Dol
namespace Go.Dol
section
variable {P:Program} {w:World} {ops:Array Oper} {rest:List Oper} {o:Oper} {a:Act} {Q:Exit->Act->World->Prop}
theorem kB (g:o.guard=none) (s x t e z bytes)
  (h:o.op= .call { callee:=.builtin .append,args:=#[s,x],argTypes:=#[t,t] })
  (j:P.underlying t=some (.slice e)) (hi:(P.info? e).map (fun i=>(i.zero,i.size,i.bytes))=some (some z,1,bytes)) (k:z.cells.size=1)
  (base v n xs) (l:a.eval s=v) (d:w.ownsRow base e 1 v n xs)
  (B A m c news) (p:a.eval x= .slice A m c) (q:Rd w B 1 A m news) (b: ∀u∈news,u.oneCell'=true)
  (r:n+m<=maxLen) (y:(n+m)*bytes<=kaa) (hbase:base<=w)
  (C: ∀(A':OA) (c':Nat) (w':World),w'.ownsRow base e 1 (.slice A' (n+m) c') (n+m) (xs++news)->Below base w w'->w.grownBy w' v.ownBlock->Hid ((Value.slice A' (n+m) c').ownBlock=v.ownBlock\/(Value.slice A' (n+m) c').ownBlock=some w.heap.size)->
   n+m<=c'->c'<=maxLen->wpList P ops Q rest (a.put o.dst (.slice A' (n+m) c')) w'):wpList P ops Q (o::rest) a w:=by
 refine hZ w g s x _ h base _ _ 1 bytes j hi k (by decide) v n xs l d B A m c news p q b r y hbase ?_;intro A' c' w' b f D E F;exact C _ c' w' b ((bR _ _).grown f hbase (fun G H=>(d.lt G H).1)) f D E F
end
structure ObA where
 k:Int
 Ad:OA
 d:LU
 cd:Nat
 Ae:OA
 en:List Ent
 ce:Nat
 tr:BA
 Ap:OA
 pa:List BA
 cp:Nat
 ta:BA
 na:BA
 wh:BA
 st:Int
 te:BA
def ObA.cells (x:ObA):List Value:=[.int .i64 x.k,.slice x.Ad x.d x.cd,.slice x.Ae x.en x.ce,.string x.tr,.slice x.Ap x.pa x.cp,.string x.ta,.string x.na,.string x.wh,.int .i64 x.st,.string x.te]
theorem Il {s} (a:s.size=0):bi s=false:=by
 unfold bi;have b:=nZ (by rw [aC];exact a);rw [b];rfl
theorem wG {s k} (a:s.size=k+1) (b:k<s.data.toList.length):bi s=decide (s.data.toList[k]=126):=by
 unfold bi;have e:s.data.toList=k+1:=by rw [aC];exact a
 have c:s.data.toList.getLast?=some s.data.toList[k]:=by
  rw [NC,show s.data.toList-1=k by omega];exact gE b
 rw [c];by_cases d:s.data.toList[k]=126<;>simp [d]
structure RowB where
 l:LU
 A:OA
 c:Nat
def RowB.v (x:RowB):Value:=.slice x.A x.l x.c
def rc (l:List RowB):List Value:=l.map RowB.v
theorem pD {l:List RowB} {i:Nat} {x:RowB} (a:l[i]?=some x):(rc l)[i]?=some (.slice x.A x.l x.c):=by simp [rc,RowB.v,a]
theorem Kb (a b):rc (a++b)=rc a++rc b:=by simp [rc]
def Rws (w:World) (B:Nat) (l:List RowB):Prop:=∀ a∈l,Rd w B 1 a.A a.l.length (bc a.l)/\a.l.length<=a.c/\a.c<=maxLen
end Go.Dol
namespace Go.Proofs.YtecpbcmpncgokaaGreat
def mgL:LU:=[68,80,75,49]
theorem ny (a:World):(convert 36 36 (.slice (some ⟨a,0,none⟩) 4 4)).run an (a.alloc (.cells #[.int .u8 68,.int .u8 80,.int .u8 75,.int .u8 49] 5))= .ok (.slice (some ⟨a,0,none⟩) 4 4) (a.alloc (.cells #[.int .u8 68,.int .u8 80,.int .u8 75,.int .u8 49] 5 (4,5))):=Lib.run_convert_bytes_const (P:=an) a 36 5 #[.int .u8 68,.int .u8 80,.int .u8 75,.int .u8 49] 4 4 q7 z8
theorem nz (a:World):Rd (a.alloc (.cells #[.int .u8 68,.int .u8 80,.int .u8 75,.int .u8 49] 5 (4,5))) (a+1) 1 (some ⟨a,0,none⟩) 4 (bc mgL):=by
 refine ⟨rfl,fun _=>⟨a,0,rfl,qO,fun b e c=> ?_⟩⟩;rw [x9];have d:=cell_of_row (a.alloc (.cells #[.int .u8 68,.int .u8 80,.int .u8 75,.int .u8 49] 5 (4,5))) a b #[.int .u8 68,.int .u8 80,.int .u8 75,.int .u8 49] 5 (4,5) (heap_alloc_new a _);rw [d];rw [<-c];simp [bc,mgL]
theorem nB (A a n c A2 b n2 c2 w B B2) (d:Rd w B 1 A n (bc a)) (e:Rd w B2 1 A2 n2 (bc b)):
  Calls an 98 #[.slice A n c,.slice A2 n2 c2] w fun f w'=>f= .returned (.bool (decide (a=b)))/\w'=w:=by
 have h:=bA (c:=c) d;have i:=bA (c:=c2) e;have j:(a==b)=decide (a=b):=by by_cases g:a=b<;>simp [g]
 go_in;go_wp2_with fail;go_ret;exact ⟨rfl,rfl⟩
theorem AE (A a c A2 b c2 w B B2) (i:Rd w B 1 A a.length (bc a)) (j:Rd w B2 1 A2 b.length (bc b)) (l:a.length<=c) (m:c<=maxLen):
  Calls an 254 #[.slice A a c,.slice A2 b c2] w fun d w'=>d= .returned (.bool (decide (a.take b.length=b)))/\w'=w:=by
 by_cases h:b.length<=a
 ·obtain ⟨g,e,r,s,n,_,t⟩:=fV (k:=b.length) (b.length:Int) rfl i h l m;have f:=qI (nB A g g c A2 b b c2 w _ _ n.1 j);rw [e] at f;go_in;go_wp2_with (go_at_call 98;rw [<-e] at f;refine f.mono ?_;rintro d w' ⟨rfl,o⟩;obtain rfl:=o.symm);go_ret;rw [e];exact ⟨rfl,rfl⟩
 have q:decide (a.take b.length=b)=false:=qF fun d=>h (by have:=congrArg List.length d;rw [b9] at this;omega);rw [q];exact z38
def iY (w:World) (B:Nat) (A:OA) (a:LU) (c:Nat) (b:LU) (e:Ending) (w':World):Prop:=
 if a.take b.length=b then ∃(d:LU) (f:OA) (g:Nat),Hid (d=a.drop b)/\e= .returned (.tuple #[.slice f d g,true])/\ii w B d f g/\w'=w
 else e= .returned (.tuple #[.slice A a c,false])/\w'=w
theorem AF (A a c A2 b c2 w B B2) (i:Rd w B 1 A a.length (bc a)) (n:Rd w B2 1 A2 b.length (bc b)) (j:a.length<=c) (l:c<=maxLen):
  Calls an 208 #[.slice A a c,.slice A2 b c2] w (iY w B A a c b):=by
 have e:=AE A a c A2 b c2 w B B2 i n j l;by_cases d:a.take b.length=b
 ·rw [dT d] at e;have f:=qI e;clear e;have o:b.length<=a:=by have:=congrArg List.length d;rw [b9] at this;omega
  obtain ⟨p,q,r,s,x,y,m,_,_,_,z⟩:=cm (k:=b.length) (b.length:Int) rfl i o j l;have g:Hid (a.take b.length=b):=d;have t:=qI m;clear d m;go_in;go_wp2_with (go_at_call 254;refine f.mono ?_;rintro u v ⟨rfl,h⟩;obtain rfl:=h.symm);go_ret2;unfold iY;rw [if_pos g.out];exact ⟨p,q,r,s,rfl,t.out,rfl⟩
 rw [qF d] at e;have f:=qI e;have g:Hid (¬a.take b.length=b):=d;clear e d;go_in;go_wp2_with (go_at_call 254;refine f.mono ?_;rintro u v ⟨rfl,h⟩;obtain rfl:=h.symm);go_ret2;unfold iY;rw [if_neg g.out];exact ⟨rfl,rfl⟩
end Go.Proofs.YtecpbcmpncgokaaGreat
namespace Go.Proofs.YtecpbcmpncgokaaGreat
open Go.ChangeShapes Go.WideShapes Go.ChangeAt Go.RowKit Go.Dol
open Go.ChangeMaps (open_string shut_string)
theorem sU : ownKnob an.godebug = none := by kernel_rfl
theorem lh : laidOutB an = true := by kernel_rfl
theorem sS {H : Type} {enc W A len cap} {d : DataW H} {ps}
    (h : DataW.Trod enc an W 0 (fun _ => true) true 36 (.slice A len cap) d ps) :
    ∃ l : List UInt8, l.length = len ∧ Rd W W.heap.size 1 A len (bc l) ∧ len ≤ cap ∧ cap ≤ maxLen ∧ (d = .nil ∧ len = 0 ∨ ∃ es sp, d = .slice es sp ∧ es.length = len) := by
  obtain ⟨fuel, hf⟩ := h
  rcases open_ints Tryz.underlying36 Tryz.underlying5 (by kernel_rfl) hf with ⟨hcs, hx⟩ | ⟨x, l, c, zs, hcs, _, hl, hm, hz, hx, hcell, hwz⟩
  · simp [Value.cells] at hcs
    obtain ⟨rfl, rfl, rfl⟩ := hcs
    exact ⟨[], rfl, Rd.nil, Nat.le_refl _, by unfold maxLen; omega, .inl ⟨(Prod.mk.inj hx).1, rfl⟩⟩
  · simp [Value.cells] at hcs
    obtain ⟨rfl, rfl, rfl⟩ := hcs
    have hzl : zs.length = cap := by simpa using hz
    have hb := fun n hn => by simpa [Lit.wf, IntKind.min, IntKind.max, IntKind.signed, IntKind.bits] using hwz n hn
    refine ⟨(zs.take len).map fun n => UInt8.ofNat n.toNat, by simp; omega, ⟨by simp [bc]; omega, fun hn => ?_⟩, hl, hm, .inr ⟨_, _, (Prod.mk.inj hx).1, by simp [lits]; omega⟩⟩
    obtain ⟨b, off, rfl, hc⟩ := ints_at hcell (by omega)
    refine ⟨b, off, rfl, World.block_lt_of_cell? W _ (hc 0 (by omega)), fun j u hu => ?_⟩
    have hj := (List.getElem?_eq_some_iff.1 hu).1
    simp only [bc, List.length_map, List.length_take] at hj
    have hjz : j < zs.length := by omega
    rw [hc j hjz]
    have hget : zs.getD j 0 = zs[j] := by simp [List.getD, List.getElem?_eq_getElem hjz]
    have h1 := hb zs[j] (List.getElem_mem hjz)
    simp only [bc, List.getElem?_map, List.getElem?_take] at hu
    rw [if_pos (by omega), List.getElem?_eq_getElem hjz] at hu
    simp only [Option.map_some, Option.some.injEq] at hu
    rw [← hu, hget, UInt8.toNat_ofNat']
    congr 2
    omega
theorem Cz {H : Type} (d : DataW H) : 1 ≤ Rows.uptoBulk d := by
  cases d with
  | lit l => cases l <;> simp [Rows.uptoBulk]
  | nil => simp [Rows.uptoBulk]
  | ptr d => simp [Rows.uptoBulk]
  | slice elems spare => simp [Rows.uptoBulk]
  | agg parts => simp [Rows.uptoBulk]
  | iface t d => simp [Rows.uptoBulk]
  | map entries => simp [Rows.uptoBulk]
  | held h => simp [Rows.uptoBulk]
theorem jp {H : Type} {d : DataW H} {l} (h : d ∈ l) : Rows.uptoBulk d ≤ Rows.uptoBulkAll l := by
  induction l with
  | nil => cases h
  | cons x r ih =>
    simp only [Rows.uptoBulkAll]
    cases List.mem_cons.1 h with
    | inl e => subst e; omega
    | inr e => have := ih e; omega
theorem lf {H : Type} (l : List (DataW H)) : l.length ≤ Rows.uptoBulkAll l := by
  induction l with
  | nil => simp [Rows.uptoBulkAll]
  | cons x r ih => have := Cz x; simp only [Rows.uptoBulkAll, List.length_cons]; omega
theorem oo {H : Type} {l} (hk : Rows.uptoSmall H l = true) : Rows.uptoBulkAll l ≤ 1048576 := by
  simpa [Rows.uptoSmall] using hk
/-- The second form's bound, of a slice's length. -/
theorem li {H : Type} {l} {d : DataW H} {len} (hk : Rows.uptoSmall H l = true) (hm : d ∈ l) (h : d = .nil ∧ len = 0 ∨ ∃ es sp, d = .slice es sp ∧ es.length = len) : len ≤ 1048576 := by
  have h1 := oo hk
  have h2 := jp hm
  rcases h with ⟨_, rfl⟩ | ⟨es, sp, rfl, rfl⟩
  · omega
  · have := lf es
    simp only [Rows.uptoBulk] at h2
    omega
end Go.Proofs.YtecpbcmpncgokaaGreat
namespace Go.Proofs.YtecpbcmpncgokaaGreat
open Go.Joins Go.ChangeShapes Go.WideShapes Go.RowKit Go.Deep Go.Dol
section
variable {H:Type} {enc:TypeId×Value->H} {P:Program} {w:World} {base:Nat} {spare:Nat->Bool} {held:Bool}
theorem sR {t e fs fuel cs} {x:DataW H×List MemPlace} (r:P.underlying t=some (.slice e)) (s:P.underlying e=some (.struct fs))
  (u:oneCellFields P fs=true) (l:P.cellsOf e=fs.size) (z:PS enc P w base spare held fuel t cs=some x):
  (cs=[.slice none 0 0]/\x=(.nil,[]))\/
  ∃(a:Addr) (b cap m:Nat) (D:Nat->DataW H) (c:Nat->List MemPlace),cs=[.slice (some a) b cap]/\base<=a.block/\b<=cap/\cap<=maxLen/\m=(if spare a.block then cap else b)/\
   x=(.slice ((List.range b).map D) ((List.range (m-b)).map fun j=>D (b+j)),MemPlace.row a (m*fs.size)++(List.range m).flatMap c)/\
   ∀i,i<m-> ∃(ys:List (DataW H×List MemPlace)) (n:Nat),D i= .agg (ys.map (·.1))/\c i=ys.flatMap (·.2)/\ys.length=fs.size/\
    ∀(j:Nat) (f:Field),fs[j]?=some f-> ∃(v:Value) (y:DataW H×List MemPlace),w.cell? (a.add (i*fs.size+j))=some v/\ys[j]?=some y/\PS enc P w base spare held n f.type [v]=some y:=by
 rcases open_slice r z with A | ⟨a,b,cap,m,n,D,c,B,C,E,F,G,o,I⟩
 ·exact .inl A
 refine .inr ⟨a,b,cap,m,D,c,B,C,E,F,G,by rw [l] at o;exact o,fun i J=> ?_⟩;obtain ⟨d,p,K⟩:=I i J;rw [l] at p;obtain ⟨ys,L,W,g,X,M,N⟩:=DataW.trod_struct s K;obtain ⟨_,Y,O⟩:=World.cells?_some p;simp only [Prod.mk.injEq] at g;refine ⟨ys,L,g.1,g.2,M,fun j f h=> ?_⟩;obtain ⟨Q,R⟩:=hone_of u j f h;have S:=(j7.1 h).1;have T:=O j S;have U:d[j]?=some (d[j]'qO):=gE qO;have k:=N j f h;rw [Q,R] at k;have V:(d.drop j).take 1=[d[j]'qO]:=by
  rw [l8 qO];rfl
 rw [V] at k;have q:ys[j]?=some (ys[j]'qO):=gE qO;refine ⟨_,_,?_,q,k.trans q⟩;rw [<-Go.Deep.add_add,T,U]
end
section
variable {H:Type} {enc:TypeId×Value->H} {W:World}
theorem lg {a n size xs} (h:0<size) (b:xs.length=n*size) (c: ∀j u,xs[j]?=some u->W.cell? (a.add j)=some u):Rd W W size (some a) n xs:=by
 refine ⟨b,fun i=> ?_⟩;have d:0<xs.length:=by rw [b];exact Nat.mul_pos i h
 have k:=c 0 _ (gE d);obtain ⟨e,f,l⟩:=a;have m:l=none:=by simpa [Addr.add] using World.cell?_spot k
 subst m;have g: ∀j u,xs[j]?=some u->W.cell? ⟨e,f+j,none⟩=some u:=fun j u o=>by rw [<-Go.WideShapes.add_plain];exact c j u o
 exact ⟨e,f,rfl,o7 W _ (g 0 _ (gE d)),g⟩
theorem ld {d:Type} {p:Nat->d->Prop}: ∀n,(∀i,i<n-> ∃a,p i a)-> ∃l:List d,l.length=n/\ ∀i a,l[i]?=some a->p i a
 | 0,_=>⟨[],rfl,fun i a c=>by simp at c⟩
 | n+1,c=>by
  obtain ⟨l,e,g⟩:=ld n fun i f=>c i qO;obtain ⟨a,h⟩:=c n qO;refine ⟨l++[a],by simp [e],fun i j b=> ?_⟩;by_cases f:i<l
  ·rw [G9 f] at b;exact g i j b
  rw [G7 qO] at b;have k:=(c9.1 b).1;simp only [ND] at k;have m:i=n:=qO;subst m;rw [e,Nat.sub_self] at b;simp only [List.getElem?_cons_zero,M6] at b;rw [<-b];exact h
theorem FI {fuel v} {x:DataW H×List MemPlace} (c:PS enc an W 0 (fun _=>true) true fuel 36 [v]=some x):
  ∃(A:OA) (l:LU) (cap:Nat),v= .slice A l.length cap/\Rd W W 1 A l.length (bc l):=by
 rcases open_ints q7 z8 qkR c with ⟨b,h⟩ | ⟨a,e,cap,i,b,_⟩
 ·obtain rfl:v= .slice none 0 0:=by simpa using b
  exact ⟨none,[],0,rfl,L8⟩
 obtain rfl:v= .slice (some a) e cap:=by simpa using b
 obtain ⟨l,f,g,_⟩:=sS (d:=x.1) (ps:=x.2) ⟨fuel,c⟩;subst f;exact ⟨some a,l,cap,rfl,g⟩
theorem FJ {fuel v} {x:DataW H×List MemPlace} (j:PS enc an W 0 (fun _=>true) true fuel 38 [v]=some x):
  ∃(A:OA) (l:List BA) (cap:Nat),v= .slice A l.length cap/\Rd W W 1 A l.length (pc l)/\(∀p∈l,p.size<=maxLen)/\(x.1= .nil/\l.length=0\/ ∃h k,x.1= .slice h k/\h.length=l.length):=by
 rcases open_strings q9 l9 qkR j with ⟨c,d⟩ | ⟨a,b,cap,e,c,_,s,t,m,d,n,o⟩
 ·obtain rfl:v= .slice none 0 0:=by simpa using c
  exact ⟨none,[],0,rfl,L8,fun p f=>by (cases f),.inl ⟨by rw [d],rfl⟩⟩
 obtain rfl:v= .slice (some a) b cap:=by simpa using c
 have u:e=cap:=by simpa using m
 have i:(e.take b).length=b:=by rw [b9];omega
 refine ⟨some a,e.take b,cap,by rw [i],?_,fun p f=>o p (Pe f),.inr ⟨_,_,by rw [d],by simp [strs]⟩⟩;refine lg qO (by rw [ub];omega) fun q w g=> ?_;have r:=(c9.1 g).1;rw [ub,i] at r;rw [eQ qO] at g;rw [n q qO,<-g,List.getElem_take,List.getD,gE qO];rfl
theorem FK {fuel v} {x:DataW H×List MemPlace} (h:PS enc an W 0 (fun _=>true) true fuel 37 [v]=some x):
  ∃(A:OA) (l:List Ent) (cap:Nat),v= .slice A l.length cap/\Rd W W 3 A l.length (ec l)/\(x.1= .nil/\l.length=0\/ ∃k u,x.1= .slice k u/\k.length=l.length)/\Hid (∀d∈l,d.name.size<=maxLen):=by
 rcases sR Tryz.underlying37 Tryz.underlying177 qkR qkR h with ⟨f,g⟩ | ⟨a,m,cap,Y,Z,a0,f,_,b0,c0,w,g,y⟩
 ·obtain rfl:v= .slice none 0 0:=by simpa using f
  exact ⟨none,[],0,rfl,L8,.inl ⟨by rw [g],rfl⟩,qI fun p z=>by cases z⟩
 obtain rfl:v= .slice (some a) m cap:=by simpa using f
 obtain ⟨l,n,o⟩:=ld (p:=fun i (d:Ent)=>W.cell? (a.add (i*3+0))=some (.string d.name)/\W.cell? (a.add (i*3+1))=some (.bool d.dir)/\W.cell? (a.add (i*3+2))=some (.string d.id)/\d.name.size<=maxLen) m (fun i hi=>by
  obtain ⟨d0,e0,_,_,_,j⟩:=y i (by simp at w;omega);obtain ⟨B,f0,C,_,D⟩:=j 0 _ rfl;obtain ⟨E,g0,F,_,G⟩:=j 1 _ rfl;obtain ⟨I,z2,J,_,K⟩:=j 2 _ rfl;obtain ⟨q,L,_,M⟩:=M9 l9 D;obtain ⟨r,N,_⟩:=DataW.trod_bool Ob G;obtain ⟨s,O,_,_⟩:=M9 l9 K;obtain rfl:B= .string q:=by simpa using L
  obtain rfl:E= .bool r:=by simpa using N
  obtain rfl:I= .string s:=by simpa using O
  exact ⟨⟨q,r,s⟩,C,F,J,M⟩)
 refine ⟨some a,l,cap,by rw [n],?_,.inr ⟨_,_,by rw [g],by simp [n]⟩,qI fun d P=> ?_⟩
 rotate_left
 ·obtain ⟨i,hi⟩:=Nv P;exact (o i d hi).2.2.2
 refine lg qO (by rw [uc]) fun b h0 c=> ?_;have Q:=(c9.1 c).1;rw [uc] at Q;have t:b/3<l.length:=qO;obtain ⟨R,S,T⟩:=eR t;obtain ⟨U,V,X,_⟩:=o (b/3) _ (gE t);have e:b%3=0\/b%3=1\/b%3=2:=qO;rcases e with e | e | e
 ·rw [show b=b/3*3 by omega] at c ⊢;rw [R] at c;rw [<-c];exact U
 ·rw [show b=b/3*3+1 by omega] at c ⊢;rw [S] at c;rw [<-c];exact V
 rw [show b=b/3*3+2 by omega] at c ⊢;rw [T] at c;rw [<-c];exact X
end
end Go.Proofs.YtecpbcmpncgokaaGreat
namespace Go.Proofs.YtecpbcmpncgokaaGreat
section
variable {w w':World} {g m gr:Nat} {D:Dk}
theorem Im:(an.info? 9).map (fun i=>(i.zero,i.size,i.bytes))=some (some (.string ⟨#[]⟩),1,16):=qkR
def In (ns:List BA) (w:World) (q i:Value) (wr:World):Prop:=
 ∃(a:Nat) (b:OA) (c:Nat),q= .slice b a c/\i= .int .i64 a/\a<=ns/\wr.ownsRow w 9 1 (.slice b a c) a (sc (ns.take a))/\Below w w wr
theorem tO (h:Rdk w gr D) (a0:D.l.length<=kac):Calls an 92 #[.pointer (some gr)] w (nW w D):=by
 have H:=h.lt;obtain ⟨c,b0,c0,I,r,J,K,L,s,d0,e0,M,t⟩:=h.row;have u:D.l.length=c:=by rw [<-t,g7]
 obtain ⟨b,f⟩:=gX (D.l.map Prod.fst);have N:b.length=c:=by rw [f,g7];exact u
 have f0:b.length<=c:=qO;have g0:c.length<=b:=qO;have h0:b.length<=kac:=qO;have O:Hid (D.l.length=b):=by unfold Hid;omega
 have P:=qI f;clear u N;go_in;go_wp2_with fail;go_loopw [3,4] (fun q i wr=>In b w q i wr) (fun _ i _=>c-(intOf i).toNat)
 case atStart=>exact ⟨0,none,0,rfl,rfl,zL,j9 _ _ _ _,bR _ _⟩
 case round=>
  obtain ⟨a,Q,R,rfl,rfl,v,j,d⟩:=hrel;have S:=d.size;have i0:=(d.cell (p:=⟨gr,1,none⟩) H).trans r;by_cases x:a<c
  ·have j0:=ltI a c.length;have k0:=zeI a;obtain ⟨e,k⟩: ∃e,c[a]?=some e:=⟨c[a],gE x⟩;have y:b[a]?=some e.n:=by rw [f,m7,<-t,m7,k];rfl
   have o:sc (b.take a)++[.string e.n]=sc (b.take (a+1)):=by rw [t7,y];simp [sc]
   obtain ⟨z,A,rfl,T,B⟩:=s.at_ (by omega);have C:w.cell? ⟨z,A+a*2,none⟩=_:=B _ _ (di k).1;have U:=(d.cell (p:=⟨z,A+a*2,none⟩) T).trans C;obtain ⟨E,l0,m0,n0⟩:=e;simp only at U o;have o0:=qiJ (a+1);have V:=qI o;clear k y B o s C I r J K L M f;go_wp2_with (at_builtin;refine eF rfl (.tmp 14) (.tmp 23) 38 9 _ 16 rfl q9 Im rfl w.heap.size _ a (sc (b.take a)) rfl (E7 j _) (wr+1) _ 1 1 [.string E] rfl (NX wr 9 (.string E)) (by simp [Value.oneCell']) (by unfold maxLen;omega) (by omega) (by simp;omega) ?_;intro W X w' Y z2 p0 q0 z5);go_wp2_with fail;refine ⟨⟨a+1,W,X,rfl,by go_num,qO,?_,d.trans (((bR _ _).alloc S _).trans z2)⟩,by simp [intOf];omega⟩;rw [<-V];exact Y
  have r0:=dfX ((a:Int)<c);have s0:=qF x;have F:a=b:=qO;have G:b.take a=b:=i9 qO;rw [G] at j;have Z:Hid (a=D.l):=by unfold Hid;rw [O];exact F
  clear G F;go_wp2_with fail;go_ret;have v:=Z.out;subst v;rw [P] at j;exact ⟨Q,R,rfl,j,d⟩
theorem Io (s w) (l:s.size<=maxLen):Calls an 199 #[.string s] w fun j w'=>j= .returned (.bool (bi s))/\w'=w:=by
 have r:s.size<=kal:=by unfold maxLen at l;omega
 rcases p7 s.size with c | c
 ·have e:=qI (Il c);have n:=dfX (0<s.size);clear c;go_in;go_wp2_with fail;go_ret;rw [e];exact ⟨rfl,rfl⟩
 obtain ⟨a,k⟩: ∃a,s.size=a+1:=⟨s.size-1,qO⟩;have o:a<s.data.toList:=by rw [aC];omega
 have t:a<s.size:=qO;have f:=wG k o;have n:decide (0<s.size)=true:=dT c;have u:IntKind.i64.wrap (s.size-1)=(a:Int):=by rw [qJ qO];omega
 have v:=ltI a s.size;have x:=zeI a;obtain ⟨d,i⟩:=gX (s.data.toList[a]);have y: ∀h:a<s.size,(s[a]'h).toNat=d.toNat:=fun h=>by rw [pV s h,i]
 rw [<-i] at f;have e:=qI f;clear f i k c;by_cases b:d=126
 ·have q:((d.toNat:Int)==126)=true:=by rw [b];rfl
  have HF:Hid (bi s=true):=by unfold Hid;rw [e,b];rfl
  clear b;go_in;exact z36
 have q:((d.toNat:Int)==126)=false:=beq_eq_false_iff_ne.2 fun j=>b (C9.1 (by show d.toNat=126;omega));have HF:Hid (bi s=false):=by unfold Hid;rw [e];exact qF b
 clear b;go_in;exact z36
end
end Go.Proofs.YtecpbcmpncgokaaGreat
namespace Go.Proofs.YtecpbcmpncgokaaGreat
open Go.Joins Go.ChangeShapes Go.WideShapes Go.RowKit Go.Deep Go.Dol
section
variable {H:Type} {enc:TypeId×Value->H} {W:World}
def iH (d:DataW H) (n:Nat):Prop:=d= .nil/\n=0\/ ∃a b,d= .slice a b/\a.length=n
def uW (x:ObA) (c:DataW H):Prop:=∃ d e a f b g h i j k:DataW H,c= .agg [d,e,a,f,b,g,h,i,j,k]/\iH a x.en.length/\iH b x.pa
theorem uX {a:Type}: ∀{ys:List a} {b c z2 d e z5 f g i j:a},ys.length=10->ys[0]?=some b->ys[1]?=some c->ys[2]?=some z2->ys[3]?=some d->ys[4]?=some e->ys[5]?=some z5->ys[6]?=some f->ys[7]?=some g->ys[8]?=some i->ys[9]?=some j->ys=[b,c,z2,d,e,z5,f,g,i,j]
 | [_,_,_,_,_,_,_,_,_,_],_,_,_,_,_,_,_,_,_,_,_,k,l,m,n,o,r,s,t,u,v=>by
  simp only [List.getElem?_cons_zero,List.getElem?_cons_succ,M6] at k l m n o r s t u v;rw [k,l,m,n,o,r,s,t,u,v]
end
def vq (a:World) (B:Nat) (x:ObA):Prop:=Rd a B 1 x.Ad x.d.length (bc x.d)/\Rd a B 3 x.Ae x.en.length (ec x.en)/\Rd a B 1 x.Ap x.pa.length (pc x.pa)/\Hid ((∀b∈x.en,b.name.size<=maxLen)/\ ∀c∈x.pa,c.size<=maxLen)
section
variable {H:Type} {enc:TypeId×Value->H} {P:Program} {W:World} {base:Nat} {spare:Nat->Bool} {held:Bool}
theorem FX {e fs fuel cs} {x:DataW H×List MemPlace} (g:P.underlying e=some (.struct fs)) (h:oneCellFields P fs=true) (i:P.cellsOf e=fs.size) (k:PS enc P W base spare held fuel e cs=some x):
  ∃(ys:List (DataW H×List MemPlace)) (n:Nat),x.1= .agg (ys.map (·.1))/\ys.length=fs.size/\cs.length=fs.size/\
   ∀(j:Nat) (f:Field),fs[j]?=some f-> ∃(v:Value) (y:DataW H×List MemPlace),cs[j]?=some v/\ys[j]?=some y/\PS enc P W base spare held n f.type [v]=some y:=by
 obtain ⟨ys,l,u,m,c,o,p⟩:=DataW.trod_struct g k;rw [i] at c;refine ⟨ys,l,by rw [m],o,c,fun j f a=> ?_⟩;obtain ⟨q,r⟩:=hone_of h j f a;have w:=(j7.1 a).1;have s:cs[j]?=some (cs[j]'qO):=gE qO;have b:=p j f a;rw [q,r] at b;have t:(cs.drop j).take 1=[cs[j]'qO]:=by
  rw [l8 qO];rfl
 rw [t] at b;have d:ys[j]?=some (ys[j]'qO):=gE qO;exact ⟨_,_,s,d,b.trans d⟩
end
section
variable {H:Type} {enc:TypeId×Value->H} {W:World}
theorem FW {fuel cs} {b:DataW H×List MemPlace} (h:PS enc an W 0 (fun _=>true) true fuel 40 cs=some b): ∃x:ObA,cs=x.cells/\vq W W x/\uW x b.1:=by
 obtain ⟨I0,J0,k,l,m,a⟩:=FX u9 qkR qkR h;obtain ⟨n,o,r,s,t⟩:=a 0 _ rfl;obtain ⟨K0,u,v,w,y⟩:=a 1 _ rfl;obtain ⟨L0,z2,z,A,B⟩:=a 2 _ rfl;obtain ⟨C,D,E,F,G⟩:=a 3 _ rfl;obtain ⟨M0,I,J,K,L⟩:=a 4 _ rfl;obtain ⟨M,z5,N,O,P⟩:=a 5 _ rfl;obtain ⟨Q,R,S,T,U⟩:=a 6 _ rfl;obtain ⟨V,X,Y,Z,a0⟩:=a 7 _ rfl;obtain ⟨b0,c0,d0,e0,f0⟩:=a 8 _ rfl;obtain ⟨g0,h0,i0,j0,k0⟩:=a 9 _ rfl;obtain ⟨c,l0,_,N0⟩:=OU B9 t;obtain rfl:n= .int .i64 c:=by simpa using l0
 obtain ⟨m0,n0,o0,rfl,p0⟩:=FI y;obtain ⟨q0,r0,s0,rfl,t0,u0,v0⟩:=FK B;obtain ⟨d,w0,_,_⟩:=M9 l9 G;obtain rfl:C= .string d:=by simpa using w0
 obtain ⟨x0,y0,z0,rfl,A0,B0,C0⟩:=FJ L;obtain ⟨e,D0,_,_⟩:=M9 l9 P;obtain rfl:M= .string e:=by simpa using D0
 obtain ⟨f,E0,_,_⟩:=M9 l9 U;obtain rfl:Q= .string f:=by simpa using E0
 obtain ⟨g,F0,_,_⟩:=M9 l9 a0;obtain rfl:V= .string g:=by simpa using F0
 obtain ⟨i,G0,_,O0⟩:=OU B9 f0;obtain rfl:b0= .int .i64 i:=by simpa using G0
 obtain ⟨j,H0,_,_⟩:=M9 l9 k0;obtain rfl:g0= .string j:=by simpa using H0
 exact ⟨⟨c,m0,n0,o0,q0,r0,s0,d,x0,y0,z0,e,f,g,i,j⟩,uX m r v z E J N S Y d0 i0,⟨p0,t0,A0,qI ⟨v0,B0⟩⟩,o.1,u.1,z2.1,D.1,I.1,z5.1,R.1,X.1,c0.1,h0.1,by rw [k,uX l s w A F K O T Z e0 j0];rfl,u0,C0⟩
theorem FV {q:Type}: ∀{l:List q},l.length=15-> ∃a b c d e f g h i j k m n o p,l=[a,b,c,d,e,f,g,h,i,j,k,m,n,o,p]
 | [a,b,c,d,e,f,g,h,i,j,k,m,n,o,p],_=>⟨a,b,c,d,e,f,g,h,i,j,k,m,n,o,p,rfl⟩
theorem po {d:DataW H} {n} (a:iH d n):n<=Rows.uptoBulk d:=by
 rcases a with ⟨rfl,rfl⟩ | ⟨b,c,rfl,rfl⟩
 ·exact zL
 have:=lf b;simp only [Rows.uptoBulk];omega
end
end Go.Proofs.YtecpbcmpncgokaaGreat
namespace Go.Proofs.YtecpbcmpncgokaaGreat
theorem mx:(an.info? 9).map (fun i=>(i.zero,i.size,i.bytes))=some (some (.string ⟨#[]⟩),1,16):=qkR
theorem yi (a b):pc (a++b)=pc a++pc b:=by simp [pc]
theorem yj (l): ∀u∈pc l,u.oneCell'=true:=by
 intro u a;obtain ⟨b,_,rfl⟩:=e9.1 a;rfl
theorem yk (l k):(pc l).drop k=pc (l.drop k):=by simp [pc]
theorem qE (l k):(pc l).take k=pc (l.take k):=by simp [pc]
theorem yl (w):(sizeOf (an.elem 38)).run an w= .ok 1 w:=qkR
section
variable {w:World} {B:Nat} {A:OA} {l:List BA} {c k:Nat}
theorem Kz (d:Int) (h:d=(k:Nat)) (i:Rd w B 1 A l.length (pc l)) (e:k<=l) (j:l<=c) (o:c<=maxLen):
  ∃(m:List BA) (A':OA) (c':Nat),Hid (m=l.drop k)/\m+k<=l/\l.length<=m+k/\Rd w B 1 A' m.length (pc m)/\c'+k=c/\au A'=au A/\Hid (∀a base,Seg a base 9 1 A l c (pc l)->Seg a base 9 1 A' m.length c' (pc m))/\
   ∀w':World,(Instr.sliceAt 38 (.slice A l c) (some (.int .i64 d)) none none).run an w'= .ok (.slice A' m.length c') w':=by
 subst h;have f:=i.cut (lo:=k) (hi:=l.length) (cap:=c) e (lR _) j;have g:(l.drop k).take (l-k)=l.drop k:=i9 (by rw [b8];exact lR _);rw [s9,s9,yk,qE,g] at f;have b:(l.drop k).length=l-k:=b8;refine ⟨l.drop k,_,c-k,rfl,qO,qO,by rw [b];exact f,qO,?_,?_,fun w'=> ?_⟩
 ·split
  ·rfl
  exact jZ A k
 ·intro a base n;have:=n.cut (lo:=k) (hi:=l.length) e (lR _);rw [s9,s9,yk,qE,g] at this;rw [b];exact this
 rw [run_sliceAt_slice _ _ _ _ _ _ qkR,run_slice_l _ _ _ _ _ qkR _ _ qO qO,yl,b];simp [sliced,Result.andThen]
theorem KA (a:Int) (d:a=(k:Nat)) (e:Rd w B 1 A l.length (pc l)) (f:k<=l) (g:l<=c) (j:c<=maxLen):
  ∃m:List BA,Hid (m=l.take k)/\m.length<=k/\k<=m.length/\Rd w B 1 A m.length (pc m)/\
   ∀w':World,(Instr.sliceAt 38 (.slice A l c) none (some (.int .i64 a)) none).run an w'= .ok (.slice A m.length c) w':=by
 subst d;have b:(l.take k).length=k:=by rw [b9];omega
 have h:=e.cut (lo:=0) (hi:=k) (cap:=c) (zL) f g;simp only [s9,qE,y8,Nat.sub_zero] at h;refine ⟨l.take k,rfl,qO,qO,?_,fun w'=> ?_⟩
 ·rw [b];split at h
  ·exact h
  have i:A.map (·.add 0)=A:=by cases A with | none=>rfl | some n=>simp [Addr.add]
  rw [i] at h;exact h
 rw [run_sliceAt_slice _ _ _ _ _ _ qkR,run_slice_h _ _ _ _ _ qkR _ _ qO qO,yl,b];exact z194
end
theorem KB (x y):Op.bytesLess x y=decide (x<y):=z53
theorem ym (a b):Op.bytesLess a.toList b.toList=sLt a b:=by
 rw [t8,t8,KB];rfl
theorem yn {B w w'} (a:Below B w w') (n):Below B w (w'.drewN n):=⟨a.os,a.tape,a.output,a.size,a.block⟩
def KC (ys:List BA) (x:BA) (wr:World) (p:Value) (wq:World):Prop:=
 ∃a b:Nat,p= .int .i64 a/\a<=cD ys x/\Hid (wq=wr.drewN b)
def KD (l:List BA) (w:World) (q i:Value) (wr:World):Prop:=
 ∃(a:Nat) (ys:List BA) (b:OA) (c:Nat),q= .slice b ys c/\i= .int .i64 a/\a<=l/\Hid (ys=du (l.take a))/\ys=a/\wr.ownsRow w 9 1 (.slice b ys c) ys (pc ys)/\Below w w wr
theorem wU (A l c w) (N:Rd w w.heap.size 1 A l.length (pc l)) (R0:l.length<=549755813888):
  Calls an 60 #[.slice A l c] w fun d0 w'=> ∃(ys:List BA) (A':OA) (c':Nat),d0= .returned (.slice A' ys.length c')/\Hid (ys=du l)/\w'.ownsRow w 9 1 (.slice A' ys.length c') ys.length (pc ys)/\Below w w w':=by
 go_in;go_wp2_with fail;go_loopw [3,4] (fun q i wr=>KD l w q i wr) (fun _ i _=>l-(intOf i).toNat)
 case atStart=>exact ⟨0,[],none,0,rfl,rfl,zL,rfl,rfl,j9 _ _ _ _,bR _ _⟩
 case round=>
  obtain ⟨d,ys,z,B,rfl,rfl,S0,C,s,O,u⟩:=hrel;have e0:=u.size;have P:=qI s;have T0:ys.length<=549755813888:=qO;clear s;have U0:=qiJ (d+1);by_cases D:d<l
  ·have V0:=ltI d l.length;have W0:=zeI d;obtain ⟨b,E⟩: ∃b,l[d]?=some b:=⟨l[d],gE D⟩;have f0:Hid (l.take (d+1)=l.take d++[b]):=qI (by rw [t7,E];rfl);have g0:=qI E;clear E;obtain ⟨h0,i0⟩:=gX wr;subst i0;go_wp2_with fail;go_loopw [5] (fun p j0=>KC ys b h0 p j0) (fun p _=>ys+1-(intOf p).toNat)
   case atStart=>exact ⟨0,0,rfl,zL,rfl⟩
   case round=>
    obtain ⟨a,q,rfl,X0,o⟩:=hrel;have Y0:=yo ys b;have Z0:=qiJ (a+1);have Q:Rd wr w 1 A l (pc l):=by rw [o];exact (N.belowW u (lR _)).drewN q
    have F:wr.ownsRow w 9 1 (.slice z ys B) ys (pc ys):=by rw [o];exact O
    have t:=d8 F;obtain ⟨v,G,rfl,a1,R⟩:=Q.at_ qO;have S:wr.cell? ⟨v,G+d,none⟩=some (.string b):=R d _ (by rw [eQ D];have h:=g0.out;rw [gE D] at h;injection h with h;rw [h]);clear R Q N;have x:=(dz F);by_cases k0:a<cD ys b
    ·have j:a<ys:=qO;have l0:=ltI a ys.length;have m0:=zeI a;obtain ⟨k,m,rfl,b1,y⟩:=t.at_ qO;obtain ⟨r,H,s⟩:=KE k0;have n0:wr.cell? ⟨k,m+a,none⟩=some (.string r):=y a _ (by rw [eQ j];rw [gE j] at H;injection H with h;rw [h]);have o0:Op.bytesLess r.toList b.toList=true:=by rw [ym];exact s
     clear y H s;go_wp2_with fail;go_quiet (fail);go_wp2_with fail;exact ⟨⟨a+1,q+nq,by go_num,qO,by unfold Hid;rw [o,o8]⟩,by simp [intOf];omega⟩
    have I:a=cD ys b:=qO;obtain ⟨e,T,p0,q0,U,c1⟩:=KA (w:=wr) (k:=a) (a:Int) rfl t qO x.1 x.2;obtain ⟨f,r0,s0,V,t0,u0,W,v0,_,_,d1⟩:=Kz (w:=wr) (k:=a) (a:Int) rfl t qO x.1 x.2;have w0:Hid (e++[b]++f=du (l.take (d+1))):=by
     unfold Hid;rw [f0,KF,<-C,T,V,I];unfold cC;simp
    have e1:e.length<=549755813888:=qO;have f1:f.length<=549755813888:=qO;have J:w.heap.size<=wr:=by rw [o];exact e0
    have X:Below w w wr:=by rw [o];exact yn u q
    have x0:Hid (e.length+1+f=d+1):=by unfold Hid;have:=P.out;omega
    have y0:(∃r k m,z=some ⟨k,m,none⟩/\decide ((a:Int)<ys)=true/\decide (a<ys)=true/\(a:Int)<ys/\wr.cell? ⟨k,m+a,none⟩=some (.string r)/\Op.bytesLess r.toList b.toList=false)\/(decide ((a:Int)<ys)=false/\decide (a<ys)=false):=by
     by_cases j:a<ys
     ·obtain ⟨k,m,z0,_,y⟩:=t.at_ qO;refine .inl ⟨ys[a],k,m,z0,dT qO,dT j,qO,y a _ (eQ j),?_⟩;rw [ym];refine KG (l:=ys) ?_;rw [<-I];exact gE j
     exact .inr ⟨qF qO,qF j⟩
    clear T V p0 q0 t0 u0 t v0 I P;rcases y0 with ⟨r,k,m,rfl,A0,B0,l0,n0,o0⟩ | ⟨A0,B0⟩
    all_goals
     have m0:=zeI a;go_wp2_with fail;go_quiet (fail);obtain ⟨g,n⟩:=gX (wr.drewN nq);have C0:g.cell? ⟨v,G+d,none⟩=some (.string b):=by rw [n];exact S
     have K:=U.drewN nq;rw [<-n] at K;have Y:Rd g wr 1 r0 f (pc f):=by rw [n];exact W.drewN nq
     have Z:wr.heap.size=g:=by rw [n];rfl
     rw [Z] at K Y J;have D0:Below w w g:=by rw [n];exact yn X nq
     try rw [<-n]
     clear n Z U W S X F o;go_wp2_with (at_builtin;first
      | (refine eF rfl (.tmp 30) (.tmp 33) 38 9 _ 16 rfl q9 mx rfl g.heap.size eL 0 [] rfl (j9 _ _ _ _) g _ e B (pc e) rfl K (yj _) (by unfold maxLen;omega) qO (lR _) ?_;intro g1 h1 a0 b0 z2 i1 E0 z5;simp only [x9,List.nil_append] at b0 E0;have j1:=(z2.cell (p:=⟨v,G+d,none⟩) (by show v<_;omega)).trans C0;have F0:=NX a0 9 (.string b);have G0:=z2.size)
      | (refine eF rfl (.tmp 35) (.tmp 40) 38 9 _ 16 rfl q9 mx rfl g.heap.size _ e (pc e) rfl (b0.alloc _) (a0+1) _ 1 1 [.string b] rfl F0 (by simp [Value.oneCell']) (by unfold maxLen;omega) qO (by simp;omega) ?_;intro k1 l1 m1 H0 I0 n1 o1 p1;have L:=(z2.alloc G0 (.cells #[b] 9)).trans I0;have J0:=Y.below L;have K0:=L.size)
      | (refine eF rfl (.tmp 42) (.tmp 45) 38 9 _ 16 rfl q9 mx rfl g.heap.size _ (e.length+1) (pc e++[Value.string b]) rfl H0 g _ f s0 (pc f) rfl J0 (yj _) (by unfold maxLen;omega) qO K0 ?_;intro L0 M0 q1 N0 O0 r1 s1 t1;have P0:=L.trans O0))
     have M:(e++[b]++f).length=e+1+f:=by simp;omega
     have Q0:=x0.out;refine ⟨⟨d+1,e++[b]++f,L0,M0,by rw [M],by go_num,qO,w0,by rw [M,Q0],?_,D0.trans (P0.mono J)⟩,by simp [intOf];omega⟩;rw [M,yi,yi];exact N0.base J
  have c0:l.take d=l:=i9 qO;rw [c0] at C;clear c0;go_wp2_with fail;go_ret;exact ⟨ys,z,B,rfl,C,O,u⟩
def eX (l:List BA) (i:Int) (raw:BA):BA:=if 0<i/\0<l.length then (l[(i%(l.length:Int)).toNat]?).getD raw else raw
theorem yz (l i raw):eX l i raw=raw\/eX l i raw∈l:=by
 unfold eX;split
 ·cases a:l[(i%(l:Int)).toNat]? with
  | none=>exact .inl rfl
  | some b=>exact .inr (g8 a)
 exact .inl rfl
theorem yA (A l c i raw w B) (f:Rd w B 1 A l.length (sc l)) (v:l.length<=kab):
  Calls an 73 #[.slice A l c,.int .i64 i,.string raw] w fun r w'=>r= .returned (.string (eX l i raw))/\w'=w:=by
 obtain ⟨g,d⟩:=gX (eX l i raw);rw [<-d];by_cases m:0<i
 ·by_cases e:0<l.length
  ·have s:=ltI 0 l.length;obtain ⟨a,j⟩: ∃a:Nat,(a:Int)=i%(l:Int):=⟨(i%(l:Int)).toNat,by have:=Int.emod_nonneg i (b:=(l.length:Int)) qO;omega⟩;have n:a<l.length:=by have:=Int.emod_lt_of_pos i (b:=(l.length:Int)) qO;omega
   have x:i.tmod (l.length:Int)=(a:Int):=by rw [q8 qO];exact j.symm
   have y:IntKind.i64.wrap a=(a:Int):=qJ qO;have z:=ltI a l.length;have C:=zeI a;have o:g=l[a]:=by
    rw [d];unfold eX;rw [if_pos ⟨m,e⟩,<-j,Int.toNat_natCast,gE n];rfl
   obtain ⟨t,u,rfl,_,q⟩:=f.at_ e;have D:w.cell? ⟨t,u+a,none⟩=some (.string g):=q _ _ (by rw [sc,m7,gE n,o];rfl);clear j q d e o f;exact z38
  have s: ¬(0:Int)<(l:Int):=qO;have k:Hid (g=raw):=by unfold Hid;rw [d];exact if_neg (fun h=>e h.2)
  clear d e f;go_in;go_wp2_with fail;go_ret;rw [k];exact ⟨rfl,rfl⟩
 have k:Hid (g=raw):=by unfold Hid;rw [d];exact if_neg (fun h=>m h.1)
 clear d f;go_in;go_wp2_with fail;go_ret;rw [k];exact ⟨rfl,rfl⟩
structure Op10 where
 what:Int
 i:Int
 n:Int
 o:ObA
 id:BA
 A:OA
 l:List Int
 c:Nat
def Op10.cells (x:Op10):List Value:=.int .i64 x.what:: .int .i64 x.i:: .int .i64 x.n::(x.o.cells++[.string x.id,.slice x.A x.l x.c])
def fK (l:List Int):List Value:=l.map (.int .i64)
def mR (k:List BA) (x:Op10):List BA:=(x.l.take 40).map fun a=>eX k a x.id
def LF (q:List BA) (n d:Nat) (e:List Value) (w:World) (v i:Value) (wr:World):Prop:=
 ∃(a:Nat) (b:OA) (c:Nat),v= .slice b a c/\i= .int .i64 a/\a<=n/\a<=40/\wr.ownsRow w 9 1 (.slice b a c) a (sc (q.take a))/\Below w w wr/\Blk wr d 43 e
section
variable {w:World}
theorem KP (Ak k ck x) (k0:Rd w w 1 Ak k.length (sc k)) (l0:k.length<=kab) (b0:Rd w w 1 x.A x.l.length (fK x.l)) (m0:x.l.length<=140737488351232):
  Calls an 76 #[.slice Ak k ck,.agg x.cells.toArray] w fun c0 w'=> ∃(ys:List BA) (A:OA) (c:Nat),Hid (ys=mR k x)/\c0= .returned (.slice A ys.length c)/\w'.ownsRow w 9 1 (.slice A ys.length c) ys.length (sc ys)/\Below w w w':=by
 obtain ⟨f,g,j,⟨m,n,o,r,s,t,u,v,y,z,B,C,D,E,F,G⟩,d,H,b,e⟩:=x;simp only at b0 m0;obtain ⟨q,S⟩:=gX (mR k ⟨f,g,j,⟨m,n,o,r,s,t,u,v,y,z,B,C,D,E,F,G⟩,d,H,b,e⟩);have L:Hid (q=(b.take 40).map fun a=>eX k a d):=S;rw [<-S];clear S;change Calls an 76 #[.slice Ak k ck,.agg #[f,g,j,m,.slice n o r,.slice s t u,v,.slice y z B,C,D,E,F,G,d,.slice H b e]] w _;have I:=o9 w 43 [f,g,j,m,.slice n o r,.slice s t u,v,.slice y z B,C,D,E,F,G,d,.slice H b e];have T:=bAl w (.cells #[f,g,j,m,.slice n o r,.slice s t u,v,.slice y z B,C,D,E,F,G,d,.slice H b e] 43);obtain ⟨n0,P⟩:=gX (w.alloc (.cells #[f,g,j,m,.slice n o r,.slice s t u,v,.slice y z B,C,D,E,F,G,d,.slice H b e] 43));have U:Blk n0 w 43 [f,g,j,m,.slice n o r,.slice s t u,v,.slice y z B,C,D,E,F,G,d,.slice H b e]:=by rw [P];exact I
 rw [<-P] at T;clear I;go_in;go_upto_region 1 with (fail);rw [<-P];obtain ⟨V,d0⟩:=gX w.heap.size;rw [<-d0] at U ⊢;clear P d0;go_wp2_with fail;go_loopw [5,6] (fun o0 i wr=>LF q b V [.int .i64 f,.int .i64 g,.int .i64 j,.int .i64 m,.slice n o r,.slice s t u,.string v,.slice y z B,.string C,.string D,.string E,.int .i64 F,.string G,.string d,.slice H b e] w o0 i wr) (fun _ i _=>b-(intOf i).toNat)
 case atStart=>exact ⟨0,none,0,rfl,rfl,zL,zL,j9 _ _ _ _,T,U⟩
 case round=>
  clear T U;obtain ⟨a,A5,c5,rfl,rfl,K0,L0,ho,hb,I⟩:=hrel;have M0:=hb.size;have N0:=qiJ (a+1);have p0:=I.c 13;have q0:=I.c 14;by_cases r0:a<b
  ·have s0:=dtX ((a:Int)<b);have O0:=ltI a b.length;have P0:=zeI a;by_cases e0:a<40
   ·have t0:(a:Int)<40:=qO;obtain ⟨J,W⟩: ∃J,b[a]?=some J:=⟨b[a],gE r0⟩;obtain ⟨K,M,u0,v0,f0⟩:=((b0.belowW hb (lR _))).at_ qO;subst u0;have g0:=f0 _ _ (by rw [fK,m7,W];rfl);obtain ⟨N,X⟩:=gY (eX k J d);have w0:Hid (q.take (a+1)=q.take a++[N]):=by
     unfold Hid;rw [t7,L,m7,w7,if_pos e0,W,<-X];rfl
    have Y:=yA Ak k ck J d wr.drew w (k0.belowW hb (lR _)).drew l0;rw [X] at Y;have x0:=qI Y;have Q:Below wr wr (wr.drew.alloc (.cells #[N] 9)):=((bR _ _).drew).alloc (lR _) _;have h0:=az ho Q;have R:=I.below Q I.lt;have y0:=NX wr.drew 9 (.string N);have z0:=R.c 13;have A0:=R.c 14;have i0:(wr.drew.alloc (.cells #[N] 9)).cell? ⟨K,M+a,none⟩=some (.int .i64 J):=(Q.cell (p:=⟨K,M+a,none⟩) (by show K<_;omega)).trans g0;clear W f0 X Y;go_wp2_with fail;go_region_held3 (fun Z=>Z.cell? ⟨V,13,none⟩=some (.string d)/\Z.cell? ⟨V,14,none⟩=some (.slice (some ⟨K,M,none⟩) b e)/\Z.cell? ⟨K,M+a,none⟩=some (.int .i64 J)) (first | exact ⟨p0,q0,g0⟩ | exact ⟨z0,A0,i0⟩ | exact ⟨B0,C0,D0⟩ | go_keep)
     ((first
      | (go_at_call 73;(with_reducible refine x0.out.mono ?_);rintro c0 Q0 ⟨rfl,E0⟩;obtain rfl:=E0.symm)
      | (refine gB (by rfl) (.tmp 18) (.tmp 28) 38 9 eS 16 (by rfl) q9 ib rfl w.heap.size _ a (sc (q.take a)) (by rfl) h0 _ _ 1 1 [.string N] (by rfl) y0 (by intro R0 F0;obtain rfl:=i7.1 F0;rfl) (by unfold maxLen;omega) qO (by simp;omega) ?_;intro G0 H0 S0 I0 j0 J0 _ _;have a0:=R.grown J0 (own_ne h0 R (by decide)).symm;have B0:=a0.c 13;have C0:=a0.c 14;have D0:=((j0.cell (p:=⟨K,M+a,none⟩) v0).trans i0))))
    go_wp2_with fail;refine ⟨⟨a+1,G0,H0,rfl,by go_num,qO,qO,?_,(hb.next Q).trans j0,a0⟩,by simp [intOf];omega⟩;rw [w0,iX];exact I0
   have T0:=dfX ((a:Int)<40);have t0: ¬(a:Int)<40:=qO;have O:q.take a=q:=i9 (by rw [L,g7,b9];omega);have HQ:Hid (q=a):=qI (by rw [L,g7,b9];omega);rw [O] at ho;clear O e0;exact z134
  have s0:=dfX ((a:Int)<b);have O:q.take a=q:=i9 (by rw [L,g7,b9];omega);have HQ:Hid (q=a):=qI (by rw [L,g7,b9];omega);rw [O] at ho;clear O;exact z134
end
