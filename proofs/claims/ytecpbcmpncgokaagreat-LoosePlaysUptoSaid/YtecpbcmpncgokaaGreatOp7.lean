/- How an argument of type api.Object reads: ten cells, its bytes, entries and parents as lists, and what the form's reach says of their lengths. Conditions: none. Objects as they lie in memory, one behind the other: of ten cells each. Conditions: none. How an argument of objects reads; what the form's reach says of them. Conditions: none. The commands of a script of the law LoosePlays as they lie in memory, and how an argument of them reads. Conditions: none. -/
import Derived.Test.YtecpbcmpncgokaaGreatFrame
import Derived.Test.YtecpbcmpncgokaaGreatObjA
import Derived.Deep.Slices
import Derived.Deep.Fields
import Derived.ChangeSame
import Derived.Lib.SmallJoins
import Derived.SliceStrings
import Derived.Test.YtecpbcmpncgokaaGreatShort
set_option linter.unusedVariables false
namespace Go.Proofs.YtecpbcmpncgokaaGreat
open Go.Joins Go.ChangeShapes Go.WideShapes Go.RowKit Go.Deep Go.Dol
section
variable {H:Type} {enc:TypeId×Value→H} {P:Program} {w:World} {base:Nat} {spare:Nat→Bool} {held:Bool}
theorem Z2A {t e:TypeId} {fs:Array Field} {fuel:Nat} {cs:List Value} {x:DataW H×List MemPlace} (ht:P.underlying t=some (.slice e)) (he:P.underlying e=some (.struct fs))
  (hone:oneCellFields P fs=true) (hC:P.cellsOf e=fs.size) (h:DataW.trod enc P w base spare held fuel t cs=some x):
  (cs=[.slice none 0 0]∧x=(.nil,[]))∨
  ∃(a:Addr) (len cap m:Nat) (D:Nat→DataW H) (Pl:Nat→List MemPlace),cs=[.slice (some a) len cap]∧base≤a.block∧len≤cap∧cap≤maxLen∧m=(if spare a.block then cap else len)∧
   x=(.slice ((List.range len).map D) ((List.range (m-len)).map fun j=>D (len+j)),MemPlace.row a (m*fs.size)++(List.range m).flatMap Pl)∧
   ∀i,i<m→ ∃(ys:List (DataW H×List MemPlace)) (n:Nat),D i= .agg (ys.map (·.1))∧Pl i=ys.flatMap (·.2)∧ys.length=fs.size∧
    ∀(j:Nat) (f:Field),fs[j]?=some f→ ∃(v:Value) (y:DataW H×List MemPlace),w.cell? (a.add (i*fs.size+j))=some v∧ys[j]?=some y∧DataW.trod enc P w base spare held n f.type [v]=some y:=by
 rcases open_slice ht h with h0 | ⟨a,len,cap,m,n,D,Pl,hcs,hb,hl,hm,hmm,hx,hi⟩
 ·exact .inl h0
 ·refine .inr ⟨a,len,cap,m,D,Pl,hcs,hb,hl,hm,hmm,by rw [hC] at hx;exact hx,fun i him=> ?_⟩
  obtain ⟨cs',hc,ht'⟩:=hi i him;rw [hC] at hc;obtain ⟨ys,n',hn',hy,hlen,hyl,hf⟩:=DataW.trod_struct he ht';obtain ⟨_,hcl,hat⟩:=World.cells?_some hc;simp only [Prod.mk.injEq] at hy;refine ⟨ys,n',hy.1,hy.2,hyl,fun j f hj=> ?_⟩;obtain ⟨ho,hk⟩:=hone_of hone j f hj;have hjl:j<fs.size:=(Array.getElem?_eq_some_iff.1 hj).1;have hcell:=hat j hjl;have hv:cs'[j]?=some (cs'[j]'(by omega)):=gE (by omega);have h1:=hf j f hj;rw [ho,hk] at h1;have hone':(cs'.drop j).take 1=[cs'[j]'(by omega)]:=by
   rw [List.drop_eq_getElem_cons (by omega)]
   rfl
  rw [hone'] at h1;have hys:ys[j]?=some (ys[j]'(by omega)):=gE (by omega);refine ⟨_,_,?_,hys,h1.trans hys⟩;rw [←Go.Deep.add_add,hcell,hv]
end
section
variable {H:Type} {enc:TypeId×Value→H} {W:World}
theorem Z2B {a:Addr} {n size:Nat} {xs:List Value} (hs:0<size) (hl:xs.length=n*size) (h: ∀j u,xs[j]?=some u→W.cell? (a.add j)=some u):Rd W W.heap.size size (some a) n xs:=by
 refine ⟨hl,fun hn=> ?_⟩;have hp:0<xs.length:=by rw [hl];exact Nat.mul_pos hn hs
 have h0:=h 0 _ (gE hp);obtain ⟨b,off,spot⟩:=a;have hspot:spot=none:=by simpa [Addr.add] using World.cell?_spot h0
 subst hspot;have hc: ∀j u,xs[j]?=some u→W.cell? ⟨b,off+j,none⟩=some u:=fun j u hu=>by rw [←Go.WideShapes.add_plain];exact h j u hu
 exact ⟨b,off,rfl,World.block_lt_of_cell? W _ (hc 0 _ (gE hp)),hc⟩
theorem Z6U {α:Type} {p:Nat→α→Prop}: ∀n,(∀i,i<n→ ∃e,p i e)→ ∃l:List α,l.length=n∧ ∀i e,l[i]?=some e→p i e
 | 0,_=>⟨[],rfl,fun i e h=>by simp at h⟩
 | n+1,h=>by
  obtain ⟨l,hl,hp⟩:=Z6U n fun i hi=>h i (by omega);obtain ⟨e,he⟩:=h n (by omega);refine ⟨l++[e],by simp [hl],fun i u hu=> ?_⟩
  by_cases hi:i<l.length
  ·rw [List.getElem?_append_left hi] at hu
   exact hp i u hu
  ·rw [List.getElem?_append_right (by omega)] at hu
   have h1:=(List.getElem?_eq_some_iff.1 hu).1;simp only [List.length_singleton] at h1;have h2:i=n:=by omega
   subst h2;rw [hl,Nat.sub_self] at hu;simp only [List.getElem?_cons_zero,Option.some.injEq] at hu;rw [←hu];exact he
theorem Zfm {fuel:Nat} {v:Value} {x:DataW H×List MemPlace} (h:DataW.trod enc Tryz.prog W 0 (fun _=>true) true fuel 36 [v]=some x):
  ∃(A:OA) (l:LU) (cap:Nat),v= .slice A l.length cap∧Rd W W.heap.size 1 A l.length (bc l):=by
 rcases open_ints Tryz.underlying36 Tryz.underlying5 (by kernel_rfl) h with ⟨hcs,hx⟩ | ⟨a,len,cap,zs,hcs,_⟩
 ·obtain rfl:v= .slice none 0 0:=by simpa using hcs
  exact ⟨none,[],0,rfl,Rd.nil⟩
 ·obtain rfl:v= .slice (some a) len cap:=by simpa using hcs
  obtain ⟨l,hl,hr,_⟩:=Z7f (d:=x.1) (ps:=x.2) ⟨fuel,h⟩;subst hl;exact ⟨some a,l,cap,rfl,hr⟩
theorem Zfn {fuel:Nat} {v:Value} {x:DataW H×List MemPlace} (h:DataW.trod enc Tryz.prog W 0 (fun _=>true) true fuel 38 [v]=some x):
  ∃(A:OA) (l:List BA) (cap:Nat),v= .slice A l.length cap∧Rd W W.heap.size 1 A l.length (pc l)∧(∀p∈l,p.size≤maxLen)∧(x.1= .nil∧l.length=0∨ ∃es sp,x.1= .slice es sp∧es.length=l.length):=by
 rcases open_strings Tryz.underlying38 Tryz.underlying9 (by kernel_rfl) h with ⟨hcs,hx⟩ | ⟨a,len,cap,ss,hcs,_,hl,hm,hz,hx,hcell,hsz⟩
 ·obtain rfl:v= .slice none 0 0:=by simpa using hcs
  exact ⟨none,[],0,rfl,Rd.nil,fun p hp=>by (cases hp),.inl ⟨by rw [hx],rfl⟩⟩
 ·obtain rfl:v= .slice (some a) len cap:=by simpa using hcs
  have hsl:ss.length=cap:=by simpa using hz
  have hll:(ss.take len).length=len:=by rw [List.length_take];omega
  refine ⟨some a,ss.take len,cap,by rw [hll],?_,fun p hp=>hsz p (List.mem_of_mem_take hp),.inr ⟨_,_,by rw [hx],by simp [strs]⟩⟩;refine Z2B (by omega) (by rw [Z8L];omega) fun j u hu=> ?_;have hj:=(List.getElem?_eq_some_iff.1 hu).1;rw [Z8L,hll] at hj;rw [Z2K (by omega)] at hu;rw [hcell j (by omega),←hu,List.getElem_take,List.getD,gE (by omega)]
  rfl
theorem Zg6 {fuel:Nat} {v:Value} {x:DataW H×List MemPlace} (h:DataW.trod enc Tryz.prog W 0 (fun _=>true) true fuel 37 [v]=some x):
  ∃(A:OA) (l:List Ent) (cap:Nat),v= .slice A l.length cap∧Rd W W.heap.size 3 A l.length (ec l)∧(x.1= .nil∧l.length=0∨ ∃es sp,x.1= .slice es sp∧es.length=l.length)∧Hid (∀e∈l,e.name.size≤maxLen):=by
 rcases Z2A Tryz.underlying37 Tryz.underlying177 (by kernel_rfl) (by kernel_rfl) h with ⟨hcs,hx⟩ | ⟨a,len,cap,m,D,Pl,hcs,_,hl,hm,hmm,hx,hf⟩
 ·obtain rfl:v= .slice none 0 0:=by simpa using hcs
  exact ⟨none,[],0,rfl,Rd.nil,.inl ⟨by rw [hx],rfl⟩,qI fun p hp=>by cases hp⟩
 ·obtain rfl:v= .slice (some a) len cap:=by simpa using hcs
  obtain ⟨l,hll,hle⟩:=Z6U (p:=fun i (e:Ent)=>W.cell? (a.add (i*3+0))=some (.string e.name)∧W.cell? (a.add (i*3+1))=some (.bool e.dir)∧W.cell? (a.add (i*3+2))=some (.string e.id)∧e.name.size≤maxLen) len (fun i hi=>by
   obtain ⟨ys,n,_,_,_,hg⟩:=hf i (by simp at hmm;omega);obtain ⟨u0,z0,a0,_,t0⟩:=hg 0 _ rfl;obtain ⟨u1,z1,a1,_,t1⟩:=hg 1 _ rfl;obtain ⟨u2,z2,a2,_,t2⟩:=hg 2 _ rfl;obtain ⟨s0,e0,_,z0'⟩:=DataW.trod_string Tryz.underlying9 t0;obtain ⟨b1,e1,_⟩:=DataW.trod_bool Tryz.underlying4 t1;obtain ⟨s2,e2,_,_⟩:=DataW.trod_string Tryz.underlying9 t2;obtain rfl:u0= .string s0:=by simpa using e0
   obtain rfl:u1= .bool b1:=by simpa using e1
   obtain rfl:u2= .string s2:=by simpa using e2
   exact ⟨⟨s0,b1,s2⟩,a0,a1,a2,z0'⟩)
  refine ⟨some a,l,cap,by rw [hll],?_,.inr ⟨_,_,by rw [hx],by simp [hll]⟩,qI fun e he=> ?_⟩
  rotate_left
  ·obtain ⟨i,hi⟩:=List.getElem?_of_mem he
   exact (hle i e hi).2.2.2
  refine Z2B (by omega) (by rw [Z8M]) fun j u hu=> ?_;have hj:=(List.getElem?_eq_some_iff.1 hu).1;rw [Z8M] at hj;have hk:j/3<l.length:=by omega
  obtain ⟨g0,g1,g2⟩:=Z2L hk;obtain ⟨c0,c1,c2,_⟩:=hle (j/3) _ (gE hk);have h3:j%3=0∨j%3=1∨j%3=2:=by omega
  rcases h3 with h3 | h3 | h3
  ·rw [show j=j/3*3 by omega] at hu ⊢
   rw [g0] at hu;rw [←hu];exact c0
  ·rw [show j=j/3*3+1 by omega] at hu ⊢
   rw [g1] at hu;rw [←hu];exact c1
  ·rw [show j=j/3*3+2 by omega] at hu ⊢
   rw [g2] at hu;rw [←hu];exact c2
end
end Go.Proofs.YtecpbcmpncgokaaGreat
set_option linter.unusedVariables false
namespace Go.Dol
open Go.RowKit
structure ObA where
 k:Int
 Ad:OA
 d:LU
 cd:Nat
 Ae:OA
 en:List Ent
 ce:Nat
 tr:BA
 Ap:OA
 pa:List BA
 cp:Nat
 ta:BA
 na:BA
 wh:BA
 st:Int
 te:BA
def ObA.cells (x:ObA):List Value:=[.int .i64 x.k,.slice x.Ad x.d.length x.cd,.slice x.Ae x.en.length x.ce,.string x.tr,.slice x.Ap x.pa.length x.cp,.string x.ta,.string x.na,.string x.wh,.int .i64 x.st,.string x.te]
end Go.Dol
set_option linter.unusedVariables false
namespace Go.Proofs.YtecpbcmpncgokaaGreat
open Go.Joins Go.ChangeShapes Go.WideShapes Go.RowKit Go.Deep Go.Dol
section
variable {H:Type} {enc:TypeId×Value→H} {W:World}
def ZaP (d:DataW H) (n:Nat):Prop:=d= .nil∧n=0∨ ∃es sp,d= .slice es sp∧es.length=n
def Ze3 (x:ObA) (dd:DataW H):Prop:=∃ d0 d1 d2 d3 d4 d5 d6 d7 d8 d9:DataW H,dd= .agg [d0,d1,d2,d3,d4,d5,d6,d7,d8,d9]∧ZaP d2 x.en.length∧ZaP d4 x.pa.length
theorem Ze4 {α:Type}: ∀{ys:List α} {z0 z1 z2 z3 z4 z5 z6 z7 z8 z9:α},ys.length=10→ys[0]?=some z0→ys[1]?=some z1→ys[2]?=some z2→ys[3]?=some z3→ys[4]?=some z4→ys[5]?=some z5→ys[6]?=some z6→ys[7]?=some z7→ys[8]?=some z8→ys[9]?=some z9→ys=[z0,z1,z2,z3,z4,z5,z6,z7,z8,z9]
 | [_,_,_,_,_,_,_,_,_,_],_,_,_,_,_,_,_,_,_,_,_,h0,h1,h2,h3,h4,h5,h6,h7,h8,h9=>by
  simp only [List.getElem?_cons_zero,List.getElem?_cons_succ,Option.some.injEq] at h0 h1 h2 h3 h4 h5 h6 h7 h8 h9;rw [h0,h1,h2,h3,h4,h5,h6,h7,h8,h9]
end
end Go.Proofs.YtecpbcmpncgokaaGreat
set_option linter.unusedVariables false
namespace Go.Proofs.YtecpbcmpncgokaaGreat
open Go.Joins Go.ChangeShapes Go.WideShapes Go.RowKit Go.Deep Go.Dol
structure Op7 where
 what:Int
 i:Int
 o:ObA
 A:OA
 raw:LU
 c:Nat
 id:BA
 n:Int
def Op7.cells (x:Op7):List Value:=.int .i64 x.what:: .int .i64 x.i::(x.o.cells++[.slice x.A x.raw.length x.c,.string x.id,.int .i64 x.n])
def o15 (l:List Op7):List Value:=l.flatMap Op7.cells
theorem Z7t (l:List Op7):(o15 l).length=l.length*15:=by
 induction l with
 | nil=>rfl
 | cons x r ih=>
  show (x.cells++o15 r).length=_
  rw [List.length_append,ih,List.length_cons];show 15+_=_
  omega
theorem Ze5 {l:List Op7} {k:Nat} {x:Op7} (h:l[k]?=some x) (j:Nat) (hj:j<15):(o15 l)[k*15+j]?=x.cells[j]?:=by
 induction l generalizing k with
 | nil=>cases h
 | cons y r ih=>
  cases k with
  | zero=>
   have:y=x:=by simpa using h
   subst this;show (y.cells++o15 r)[_]?=_
   rw [List.getElem?_append_left (by show _<15;omega)]
   congr 1
   omega
  | succ k=>
   have h':r[k]?=some x:=by simpa using h
   rw [←ih h'];show (y.cells++o15 r)[_]?=_
   rw [List.getElem?_append_right (by show 15≤_;omega)]
   congr 1
   show (k+1)*15+j-15=_
   omega
def ObRd (W:World) (B:Nat) (x:ObA):Prop:=Rd W B 1 x.Ad x.d.length (bc x.d)∧Rd W B 3 x.Ae x.en.length (ec x.en)∧Rd W B 1 x.Ap x.pa.length (pc x.pa)∧Hid ((∀e∈x.en,e.name.size≤maxLen)∧ ∀p∈x.pa,p.size≤maxLen)
def OpRd (W:World) (B:Nat) (x:Op7):Prop:=ObRd W B x.o∧(Far W B x.A x.raw∧x.raw.length≤x.c∧x.c≤maxLen)∧x.id.size≤maxLen∧(Lit.int .i64 x.what).wf=true∧(Lit.int .i64 x.i).wf=true∧(Lit.int .i64 x.n).wf=true
section
variable {H:Type} {enc:TypeId×Value→H} {P:Program} {W:World} {base:Nat} {spare:Nat→Bool} {held:Bool}
theorem ZbX {e:TypeId} {fs:Array Field} {fuel:Nat} {cs:List Value} {x:DataW H×List MemPlace} (he:P.underlying e=some (.struct fs)) (hone:oneCellFields P fs=true) (hC:P.cellsOf e=fs.size) (h:DataW.trod enc P W base spare held fuel e cs=some x):
  ∃(ys:List (DataW H×List MemPlace)) (n:Nat),x.1= .agg (ys.map (·.1))∧ys.length=fs.size∧cs.length=fs.size∧
   ∀(j:Nat) (f:Field),fs[j]?=some f→ ∃(v:Value) (y:DataW H×List MemPlace),cs[j]?=some v∧ys[j]?=some y∧DataW.trod enc P W base spare held n f.type [v]=some y:=by
 obtain ⟨ys,n',hn',hy,hlen,hyl,hf⟩:=DataW.trod_struct he h;rw [hC] at hlen;refine ⟨ys,n',by rw [hy],hyl,hlen,fun j f hj=> ?_⟩;obtain ⟨ho,hk⟩:=hone_of hone j f hj;have hjl:j<fs.size:=(Array.getElem?_eq_some_iff.1 hj).1;have hv:cs[j]?=some (cs[j]'(by omega)):=gE (by omega);have h1:=hf j f hj;rw [ho,hk] at h1;have hone':(cs.drop j).take 1=[cs[j]'(by omega)]:=by
  rw [List.drop_eq_getElem_cons (by omega)]
  rfl
 rw [hone'] at h1;have hys:ys[j]?=some (ys[j]'(by omega)):=gE (by omega);exact ⟨_,_,hv,hys,h1.trans hys⟩
end
section
variable {H:Type} {enc:TypeId×Value→H} {W:World}
theorem Ze6 {fuel:Nat} {cs:List Value} {z:DataW H×List MemPlace} (h:DataW.trod enc Tryz.prog W 0 (fun _=>true) true fuel 40 cs=some z): ∃x:ObA,cs=x.cells∧ObRd W W.heap.size x∧Ze3 x z.1:=by
 obtain ⟨ys,n,hz,hyl,hcl,hgg⟩:=ZbX Tryz.underlying40 (by kernel_rfl) (by kernel_rfl) h;obtain ⟨u0,z0,a0,y0,t0⟩:=hgg 0 _ rfl;obtain ⟨u1,z1,a1,y1,t1⟩:=hgg 1 _ rfl;obtain ⟨u2,z2,a2,y2,t2⟩:=hgg 2 _ rfl;obtain ⟨u3,z3,a3,y3,t3⟩:=hgg 3 _ rfl;obtain ⟨u4,z4,a4,y4,t4⟩:=hgg 4 _ rfl;obtain ⟨u5,z5,a5,y5,t5⟩:=hgg 5 _ rfl;obtain ⟨u6,z6,a6,y6,t6⟩:=hgg 6 _ rfl;obtain ⟨u7,z7,a7,y7,t7⟩:=hgg 7 _ rfl;obtain ⟨u8,z8,a8,y8,t8⟩:=hgg 8 _ rfl;obtain ⟨u9,z9,a9,y9,t9⟩:=hgg 9 _ rfl;obtain ⟨k,e0,_,wf0⟩:=DataW.trod_int Tryz.underlying3 t0;obtain rfl:u0= .int .i64 k:=by simpa using e0
 obtain ⟨Ad,l,cd,rfl,hd⟩:=Zfm t1;obtain ⟨Ae,en,ce,rfl,he,hel,hns⟩:=Zg6 t2;obtain ⟨tr,e3,_,_⟩:=DataW.trod_string Tryz.underlying9 t3;obtain rfl:u3= .string tr:=by simpa using e3
 obtain ⟨Ap,pa,cp,rfl,hp,hsz,hpl⟩:=Zfn t4;obtain ⟨ta,e5,_,_⟩:=DataW.trod_string Tryz.underlying9 t5;obtain rfl:u5= .string ta:=by simpa using e5
 obtain ⟨na,e6,_,_⟩:=DataW.trod_string Tryz.underlying9 t6;obtain rfl:u6= .string na:=by simpa using e6
 obtain ⟨wh,e7,_,_⟩:=DataW.trod_string Tryz.underlying9 t7;obtain rfl:u7= .string wh:=by simpa using e7
 obtain ⟨st,e8,_,wf8⟩:=DataW.trod_int Tryz.underlying3 t8;obtain rfl:u8= .int .i64 st:=by simpa using e8
 obtain ⟨te,e9,_,_⟩:=DataW.trod_string Tryz.underlying9 t9;obtain rfl:u9= .string te:=by simpa using e9
 exact ⟨⟨k,Ad,l,cd,Ae,en,ce,tr,Ap,pa,cp,ta,na,wh,st,te⟩,Ze4 hcl a0 a1 a2 a3 a4 a5 a6 a7 a8 a9,⟨hd,he,hp,qI ⟨hns,hsz⟩⟩,z0.1,z1.1,z2.1,z3.1,z4.1,z5.1,z6.1,z7.1,z8.1,z9.1,by rw [hz,Ze4 hyl y0 y1 y2 y3 y4 y5 y6 y7 y8 y9];rfl,hel,hpl⟩
def Z5y (x:Op7) (dd:DataW H):Prop:=∃ d0 d1 d2 d3 d5:DataW H,dd= .agg [d0,d1,d2,d3,.lit (.string x.id.data.toList),d5]∧Ze3 x.o d2∧ZaP d3 x.raw.length
theorem Zg7 {α:Type}: ∀{l:List α},l.length=15→ ∃c0 c1 c2 c3 c4 c5 c6 c7 c8 c9 c10 c11 c12 c13 c14,l=[c0,c1,c2,c3,c4,c5,c6,c7,c8,c9,c10,c11,c12,c13,c14]
 | [c0,c1,c2,c3,c4,c5,c6,c7,c8,c9,c10,c11,c12,c13,c14],_=>⟨c0,c1,c2,c3,c4,c5,c6,c7,c8,c9,c10,c11,c12,c13,c14,rfl⟩
theorem Zfo {fuel:Nat} {cs:List Value} {z:DataW H×List MemPlace} (h:DataW.trod enc Tryz.prog W 0 (fun _=>true) true fuel 81 cs=some z): ∃x:Op7,cs=x.cells∧OpRd W W.heap.size x∧Z5y x z.1:=by
 obtain ⟨ys,n',hn',hy,hlen,hyl,hf⟩:=DataW.trod_struct Tryz.underlying81 h;rw [show Tryz.prog.cellsOf 81=15 from by kernel_rfl] at hlen;obtain ⟨c0,c1,c2,c3,c4,c5,c6,c7,c8,c9,c10,c11,c12,c13,c14,rfl⟩:=Zg7 hlen;have k1:Tryz.prog.cellsOf 3=1:=by kernel_rfl
 have k2:Tryz.prog.cellsOf 40=10:=by kernel_rfl
 have k3:Tryz.prog.cellsOf 36=1:=by kernel_rfl
 have k4:Tryz.prog.cellsOf 9=1:=by kernel_rfl
 have t0:DataW.trod enc Tryz.prog W 0 (fun _=>true) true n' 3 (([c0,c1,c2,c3,c4,c5,c6,c7,c8,c9,c10,c11,c12,c13,c14].drop 0).take (Tryz.prog.cellsOf 3))=ys[0]?:=hf 0 _ rfl;rw [k1] at t0;change DataW.trod enc Tryz.prog W 0 (fun _=>true) true n' 3 [c0]=_ at t0;have t1:DataW.trod enc Tryz.prog W 0 (fun _=>true) true n' 3 (([c0,c1,c2,c3,c4,c5,c6,c7,c8,c9,c10,c11,c12,c13,c14].drop 1).take (Tryz.prog.cellsOf 3))=ys[1]?:=hf 1 _ rfl;rw [k1] at t1;change DataW.trod enc Tryz.prog W 0 (fun _=>true) true n' 3 [c1]=_ at t1;have t2:DataW.trod enc Tryz.prog W 0 (fun _=>true) true n' 40 (([c0,c1,c2,c3,c4,c5,c6,c7,c8,c9,c10,c11,c12,c13,c14].drop 2).take (Tryz.prog.cellsOf 40))=ys[2]?:=hf 2 _ rfl;rw [k2] at t2;change DataW.trod enc Tryz.prog W 0 (fun _=>true) true n' 40 [c2,c3,c4,c5,c6,c7,c8,c9,c10,c11]=_ at t2;have t3:DataW.trod enc Tryz.prog W 0 (fun _=>true) true n' 36 (([c0,c1,c2,c3,c4,c5,c6,c7,c8,c9,c10,c11,c12,c13,c14].drop 12).take (Tryz.prog.cellsOf 36))=ys[3]?:=hf 3 _ rfl;rw [k3] at t3;change DataW.trod enc Tryz.prog W 0 (fun _=>true) true n' 36 [c12]=_ at t3;have t4:DataW.trod enc Tryz.prog W 0 (fun _=>true) true n' 9 (([c0,c1,c2,c3,c4,c5,c6,c7,c8,c9,c10,c11,c12,c13,c14].drop 13).take (Tryz.prog.cellsOf 9))=ys[4]?:=hf 4 _ rfl;rw [k4] at t4;change DataW.trod enc Tryz.prog W 0 (fun _=>true) true n' 9 [c13]=_ at t4;have t5:DataW.trod enc Tryz.prog W 0 (fun _=>true) true n' 3 (([c0,c1,c2,c3,c4,c5,c6,c7,c8,c9,c10,c11,c12,c13,c14].drop 14).take (Tryz.prog.cellsOf 3))=ys[5]?:=hf 5 _ rfl;rw [k1] at t5;change DataW.trod enc Tryz.prog W 0 (fun _=>true) true n' 3 [c14]=_ at t5;have hyl:ys.length=6:=hyl;obtain ⟨z0,z1,z2,z3,z4,z5,rfl⟩: ∃z0 z1 z2 z3 z4 z5,ys=[z0,z1,z2,z3,z4,z5]:=by
  match ys,hyl with
  | [z0,z1,z2,z3,z4,z5],_=>exact ⟨z0,z1,z2,z3,z4,z5,rfl⟩
 change _=some z0 at t0;change _=some z1 at t1;change _=some z2 at t2;change _=some z3 at t3;change _=some z4 at t4;change _=some z5 at t5;obtain ⟨wh,e0,_,wf0⟩:=DataW.trod_int Tryz.underlying3 t0;obtain rfl:c0= .int .i64 wh:=by simpa using e0
 obtain ⟨iv,e1,_,wf1⟩:=DataW.trod_int Tryz.underlying3 t1;obtain rfl:c1= .int .i64 iv:=by simpa using e1
 obtain ⟨x,hx,hxr,hxp⟩:=Ze6 t2;obtain ⟨id,e4,e4',w4⟩:=DataW.trod_string Tryz.underlying9 t4;obtain rfl:c13= .string id:=by simpa using e4
 obtain ⟨nv,e5,_,wf5⟩:=DataW.trod_int Tryz.underlying3 t5;obtain rfl:c14= .int .i64 nv:=by simpa using e5
 have hz4:z4.1= .lit (.string id.data.toList):=by rw [e4']
 have key: ∀(A:OA) (ln cp:Nat),c12= .slice A ln cp→ ∃x:Op7,[.int .i64 wh,.int .i64 iv,c2,c3,c4,c5,c6,c7,c8,c9,c10,c11,c12,.string id,.int .i64 nv]=x.cells∧OpRd W W.heap.size x∧Z5y x z.1:=by
  intro A ln cp hu;subst hu;obtain ⟨b,hb,hr,hc,hcm,hd⟩:=Z7f (d:=z3.1) (ps:=z3.2) ⟨n',t3⟩;subst hb;refine ⟨⟨wh,iv,x,A,b,cp,id,nv⟩,?_,⟨hxr,⟨Far.of_rd hr (lR _),hc,hcm⟩,w4,wf0,wf1,wf5⟩,z0.1,z1.1,z2.1,z3.1,z5.1,?_,hxp,hd⟩
  ·show _=Value.int .i64 wh:: .int .i64 iv::(x.cells++[.slice A b.length cp,.string id,.int .i64 nv])
   rw [←hx]
   rfl
  ·rw [hy]
   simp only [List.map_cons,List.map_nil,hz4]
 rcases open_ints Tryz.underlying36 Tryz.underlying5 (by kernel_rfl) t3 with ⟨hcs,_⟩ | ⟨a,l1,cc1,zs,hcs,_⟩
 ·exact key none 0 0 (by simpa using hcs)
 ·exact key (some a) l1 cc1 (by simpa using hcs)
set_option maxRecDepth 100000 in
theorem Zg8 {d:DataW H} {ps:List MemPlace} (A:OA) (len cap:Nat) (h:DataW.Trod enc Tryz.prog W 0 (fun _=>true) true 79 (.slice A len cap) d ps):
  ∃l:List Op7,l.length=len∧Rd W W.heap.size 15 A len (o15 l)∧(∀x∈l,OpRd W W.heap.size x)∧ZaP d len∧(∀x∈l,∃es sp dd,d= .slice es sp∧dd∈es∧Z5y x dd):=by
 obtain ⟨fuel,hf⟩:=h;have hC:Tryz.prog.cellsOf 81=15:=by kernel_rfl
 rcases open_slice Tryz.underlying79 hf with ⟨hcs,hx⟩ | ⟨a,len',cap',m,n,D,Pl,hcs,_,hl,hm,hmm,hx,hg⟩
 ·simp [Value.cells] at hcs
  obtain ⟨rfl,rfl,rfl⟩:=hcs;exact ⟨[],rfl,Rd.nil,fun x hx=>(List.not_mem_nil hx).elim,.inl ⟨(Prod.mk.inj hx).1,rfl⟩,fun x hx=>(List.not_mem_nil hx).elim⟩
 ·simp [Value.cells] at hcs
  obtain ⟨rfl,rfl,rfl⟩:=hcs
  obtain ⟨l,hll,hle⟩:=Z6U (p:=fun i (x:Op7)=>(∀j,j<15→W.cell? ((a.add (i*15)).add j)=x.cells[j]?)∧OpRd W W.heap.size x∧Z5y x (D i)) len (fun i hi=>by
   obtain ⟨cs',hc,ht⟩:=hg i (by simp at hmm;omega);rw [hC] at hc;obtain ⟨_,_,hat⟩:=World.cells?_some hc;obtain ⟨x,rfl,h1,h2⟩:=Zfo ht
   exact ⟨x,hat,h1,h2⟩)
  have hd:d= .slice ((List.range len).map D) ((List.range (m-len)).map fun j=>D (len+j)):=(Prod.mk.inj hx).1
  refine ⟨l,hll,?_,fun x hx=> ?_,.inr ⟨_,_,hd,by simp⟩,fun x hx=>by
   obtain ⟨i,hi⟩:=List.getElem?_of_mem hx;have hil:=(List.getElem?_eq_some_iff.1 hi).1
   exact ⟨_,_,D i,hd,List.mem_map.2 ⟨i,List.mem_range.2 (by omega),rfl⟩,(hle i x hi).2.2⟩⟩
  ·refine Z2B (by omega) (by rw [Z7t,hll]) fun j u hu=> ?_
   have hj:=(List.getElem?_eq_some_iff.1 hu).1;rw [Z7t] at hj;have hk:j/15<l.length:=by omega
   have hget:=gE hk;have h1:=Ze5 hget (j%15) (by omega);have e:j/15*15+j%15=j:=by omega
   rw [e] at h1;have h2:=(hle (j/15) _ hget).1 (j%15) (by omega);rw [Go.Deep.add_add,e] at h2;exact h2.trans (h1.symm.trans hu)
  ·obtain ⟨i,hi⟩:=List.getElem?_of_mem hx
   exact (hle i x hi).2.1
theorem Z54 {d:DataW H} {n:Nat} (h:ZaP d n):n≤Rows.uptoBulk d:=by
 rcases h with ⟨rfl,rfl⟩ | ⟨es,sp,rfl,rfl⟩
 ·exact zL _
 ·have:=Z2y es
  simp only [Rows.uptoBulk];omega
theorem Ze7 {L:List (DataW H)} {d:DataW H} {l:List Op7} (hk:Rows.uptoSmall H L=true) (hm:d∈L) (hp: ∀x∈l,∃es sp dd,d= .slice es sp∧dd∈es∧Z5y x dd):
  ∀x∈l,x.raw.length≤140737488351232∧x.o.en.length≤140737488351232∧x.o.pa.length≤140737488351232∧x.id.size≤1048576:=by
 intro x hx;obtain ⟨es,sp,dd,rfl,hmm,d0,d1,d2,d3,d5,rfl,⟨e0,e1,e2,e3,e4,e5,e6,e7,e8,e9,rfl,hz2,hz4⟩,hz3⟩:=hp x hx;have h1:=Z4V hk;have h2:=Z2T hm;have h3:=Z2T hmm;have b2:=Z54 hz2;have b3:=Z54 hz3;have b4:=Z54 hz4;have e:x.id.data.toList.length=x.id.size:=by rw [Array.length_toList];rfl
 simp only [Rows.uptoBulk,Rows.uptoBulkAll] at h2 h3;omega
end
end Go.Proofs.YtecpbcmpncgokaaGreat
