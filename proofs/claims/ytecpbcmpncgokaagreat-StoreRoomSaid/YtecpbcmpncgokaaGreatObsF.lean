/- How an argument of type api.Object reads: ten cells, its bytes, entries and parents as lists, and what the form's reach says of their lengths. Conditions: none. How an argument of objects reads; what the form's reach says of them. Conditions: none. -/
import Derived.Test.YtecpbcmpncgokaaGreatFrame
import Derived.Test.YtecpbcmpncgokaaGreatObjA
import Derived.Deep.Slices
import Derived.Deep.Fields
import Derived.ChangeSame
import Derived.Lib.SmallJoins
import Derived.SliceStrings
import Derived.Test.YtecpbcmpncgokaaGreatShort
import Derived.Test.YtecpbcmpncgokaaGreatStoTwo
set_option linter.unusedVariables false
namespace Go.Proofs.YtecpbcmpncgokaaGreat
open Go.Joins Go.ChangeShapes Go.WideShapes Go.RowKit Go.Deep Go.Dol
section
variable {H:Type} {enc:TypeId×Value→H} {P:Program} {w:World} {base:Nat} {spare:Nat→Bool} {held:Bool}
theorem Z2y {t e:TypeId} {fs:Array Field} {fuel:Nat} {cs:List Value} {x:DataW H×List MemPlace} (ht:P.underlying t=some (.slice e)) (he:P.underlying e=some (.struct fs))
  (hone:oneCellFields P fs=true) (hC:P.cellsOf e=fs.size) (h:DataW.trod enc P w base spare held fuel t cs=some x):
  (cs=[.slice none 0 0]∧x=(.nil,[]))∨
  ∃(a:Addr) (len cap m:Nat) (D:Nat→DataW H) (Pl:Nat→List MemPlace),cs=[.slice (some a) len cap]∧base≤a.block∧len≤cap∧cap≤maxLen∧m=(if spare a.block then cap else len)∧
   x=(.slice ((List.range len).map D) ((List.range (m-len)).map fun j=>D (len+j)),MemPlace.row a (m*fs.size)++(List.range m).flatMap Pl)∧
   ∀i,i<m→ ∃(ys:List (DataW H×List MemPlace)) (n:Nat),D i= .agg (ys.map (·.1))∧Pl i=ys.flatMap (·.2)∧ys.length=fs.size∧
    ∀(j:Nat) (f:Field),fs[j]?=some f→ ∃(v:Value) (y:DataW H×List MemPlace),w.cell? (a.add (i*fs.size+j))=some v∧ys[j]?=some y∧DataW.trod enc P w base spare held n f.type [v]=some y:=by
 rcases open_slice ht h with h0 | ⟨a,len,cap,m,n,D,Pl,hcs,hb,hl,hm,hmm,hx,hi⟩
 ·exact .inl h0
 ·refine .inr ⟨a,len,cap,m,D,Pl,hcs,hb,hl,hm,hmm,by rw [hC] at hx;exact hx,fun i him=> ?_⟩
  obtain ⟨cs',hc,ht'⟩:=hi i him;rw [hC] at hc;obtain ⟨ys,n',hn',hy,hlen,hyl,hf⟩:=DataW.trod_struct he ht';obtain ⟨_,hcl,hat⟩:=World.cells?_some hc;simp only [Prod.mk.injEq] at hy;refine ⟨ys,n',hy.1,hy.2,hyl,fun j f hj=> ?_⟩;obtain ⟨ho,hk⟩:=hone_of hone j f hj;have hjl:j<fs.size:=(Array.getElem?_eq_some_iff.1 hj).1;have hcell:=hat j hjl;have hv:cs'[j]?=some (cs'[j]'(by omega)):=gE (by omega);have h1:=hf j f hj;rw [ho,hk] at h1;have hone':(cs'.drop j).take 1=[cs'[j]'(by omega)]:=by
   rw [List.drop_eq_getElem_cons (by omega)]
   rfl
  rw [hone'] at h1;have hys:ys[j]?=some (ys[j]'(by omega)):=gE (by omega);refine ⟨_,_,?_,hys,h1.trans hys⟩;rw [←Go.Deep.add_add,hcell,hv]
end
section
variable {H:Type} {enc:TypeId×Value→H} {W:World}
theorem Z3S {a:Addr} {n size:Nat} {xs:List Value} (hs:0<size) (hl:xs.length=n*size) (h: ∀j u,xs[j]?=some u→W.cell? (a.add j)=some u):Rd W W.heap.size size (some a) n xs:=by
 refine ⟨hl,fun hn=> ?_⟩;have hp:0<xs.length:=by rw [hl];exact Nat.mul_pos hn hs
 have h0:=h 0 _ (gE hp);obtain ⟨b,off,spot⟩:=a;have hspot:spot=none:=by simpa [Addr.add] using World.cell?_spot h0
 subst hspot;have hc: ∀j u,xs[j]?=some u→W.cell? ⟨b,off+j,none⟩=some u:=fun j u hu=>by rw [←Go.WideShapes.add_plain];exact h j u hu
 exact ⟨b,off,rfl,World.block_lt_of_cell? W _ (hc 0 _ (gE hp)),hc⟩
theorem ZaE {α:Type} {p:Nat→α→Prop}: ∀n,(∀i,i<n→ ∃e,p i e)→ ∃l:List α,l.length=n∧ ∀i e,l[i]?=some e→p i e
 | 0,_=>⟨[],rfl,fun i e h=>by simp at h⟩
 | n+1,h=>by
  obtain ⟨l,hl,hp⟩:=ZaE n fun i hi=>h i (by omega);obtain ⟨e,he⟩:=h n (by omega);refine ⟨l++[e],by simp [hl],fun i u hu=> ?_⟩
  by_cases hi:i<l.length
  ·rw [List.getElem?_append_left hi] at hu
   exact hp i u hu
  ·rw [List.getElem?_append_right (by omega)] at hu
   have h1:=(List.getElem?_eq_some_iff.1 hu).1;simp only [List.length_singleton] at h1;have h2:i=n:=by omega
   subst h2;rw [hl,Nat.sub_self] at hu;simp only [List.getElem?_cons_zero,Option.some.injEq] at hu;rw [←hu];exact he
theorem Zig {fuel:Nat} {v:Value} {x:DataW H×List MemPlace} (h:DataW.trod enc Tryz.prog W 0 (fun _=>true) true fuel 36 [v]=some x):
  ∃(A:OA) (l:LU) (cap:Nat),v= .slice A l.length cap∧Rd W W.heap.size 1 A l.length (bc l):=by
 rcases open_ints Tryz.underlying36 Tryz.underlying5 (by kernel_rfl) h with ⟨hcs,hx⟩ | ⟨a,len,cap,zs,hcs,_⟩
 ·obtain rfl:v= .slice none 0 0:=by simpa using hcs
  exact ⟨none,[],0,rfl,Rd.nil⟩
 ·obtain rfl:v= .slice (some a) len cap:=by simpa using hcs
  obtain ⟨l,hl,hr,_⟩:=Zgm (d:=x.1) (ps:=x.2) ⟨fuel,h⟩;subst hl;exact ⟨some a,l,cap,rfl,hr⟩
theorem Zih {fuel:Nat} {v:Value} {x:DataW H×List MemPlace} (h:DataW.trod enc Tryz.prog W 0 (fun _=>true) true fuel 38 [v]=some x):
  ∃(A:OA) (l:List BA) (cap:Nat),v= .slice A l.length cap∧Rd W W.heap.size 1 A l.length (pc l)∧(∀p∈l,p.size≤maxLen)∧(x.1= .nil∧l.length=0∨ ∃es sp,x.1= .slice es sp∧es.length=l.length):=by
 rcases open_strings Tryz.underlying38 Tryz.underlying9 (by kernel_rfl) h with ⟨hcs,hx⟩ | ⟨a,len,cap,ss,hcs,_,hl,hm,hz,hx,hcell,hsz⟩
 ·obtain rfl:v= .slice none 0 0:=by simpa using hcs
  exact ⟨none,[],0,rfl,Rd.nil,fun p hp=>by (cases hp),.inl ⟨by rw [hx],rfl⟩⟩
 ·obtain rfl:v= .slice (some a) len cap:=by simpa using hcs
  have hsl:ss.length=cap:=by simpa using hz
  have hll:(ss.take len).length=len:=by rw [List.length_take];omega
  refine ⟨some a,ss.take len,cap,by rw [hll],?_,fun p hp=>hsz p (List.mem_of_mem_take hp),.inr ⟨_,_,by rw [hx],by simp [strs]⟩⟩;refine Z3S (by omega) (by rw [Z9A];omega) fun j u hu=> ?_;have hj:=(List.getElem?_eq_some_iff.1 hu).1;rw [Z9A,hll] at hj;rw [Z7L (by omega)] at hu;rw [hcell j (by omega),←hu,List.getElem_take,List.getD,gE (by omega)]
  rfl
theorem Zjc {fuel:Nat} {v:Value} {x:DataW H×List MemPlace} (h:DataW.trod enc Tryz.prog W 0 (fun _=>true) true fuel 37 [v]=some x):
  ∃(A:OA) (l:List Ent) (cap:Nat),v= .slice A l.length cap∧Rd W W.heap.size 3 A l.length (ec l)∧(x.1= .nil∧l.length=0∨ ∃es sp,x.1= .slice es sp∧es.length=l.length)∧Hid (∀e∈l,e.name.size≤maxLen):=by
 rcases Z2y Tryz.underlying37 Tryz.underlying177 (by kernel_rfl) (by kernel_rfl) h with ⟨hcs,hx⟩ | ⟨a,len,cap,m,D,Pl,hcs,_,hl,hm,hmm,hx,hf⟩
 ·obtain rfl:v= .slice none 0 0:=by simpa using hcs
  exact ⟨none,[],0,rfl,Rd.nil,.inl ⟨by rw [hx],rfl⟩,qI fun p hp=>by cases hp⟩
 ·obtain rfl:v= .slice (some a) len cap:=by simpa using hcs
  obtain ⟨l,hll,hle⟩:=ZaE (p:=fun i (e:Ent)=>W.cell? (a.add (i*3+0))=some (.string e.name)∧W.cell? (a.add (i*3+1))=some (.bool e.dir)∧W.cell? (a.add (i*3+2))=some (.string e.id)∧e.name.size≤maxLen) len (fun i hi=>by
   obtain ⟨ys,n,_,_,_,hg⟩:=hf i (by simp at hmm;omega);obtain ⟨u0,z0,a0,_,t0⟩:=hg 0 _ rfl;obtain ⟨u1,z1,a1,_,t1⟩:=hg 1 _ rfl;obtain ⟨u2,z2,a2,_,t2⟩:=hg 2 _ rfl;obtain ⟨s0,e0,_,z0'⟩:=DataW.trod_string Tryz.underlying9 t0;obtain ⟨b1,e1,_⟩:=DataW.trod_bool Tryz.underlying4 t1;obtain ⟨s2,e2,_,_⟩:=DataW.trod_string Tryz.underlying9 t2;obtain rfl:u0= .string s0:=by simpa using e0
   obtain rfl:u1= .bool b1:=by simpa using e1
   obtain rfl:u2= .string s2:=by simpa using e2
   exact ⟨⟨s0,b1,s2⟩,a0,a1,a2,z0'⟩)
  refine ⟨some a,l,cap,by rw [hll],?_,.inr ⟨_,_,by rw [hx],by simp [hll]⟩,qI fun e he=> ?_⟩
  rotate_left
  ·obtain ⟨i,hi⟩:=List.getElem?_of_mem he
   exact (hle i e hi).2.2.2
  refine Z3S (by omega) (by rw [Z9B]) fun j u hu=> ?_;have hj:=(List.getElem?_eq_some_iff.1 hu).1;rw [Z9B] at hj;have hk:j/3<l.length:=by omega
  obtain ⟨g0,g1,g2⟩:=Z4W hk;obtain ⟨c0,c1,c2,_⟩:=hle (j/3) _ (gE hk);have h3:j%3=0∨j%3=1∨j%3=2:=by omega
  rcases h3 with h3 | h3 | h3
  ·rw [show j=j/3*3 by omega] at hu ⊢
   rw [g0] at hu;rw [←hu];exact c0
  ·rw [show j=j/3*3+1 by omega] at hu ⊢
   rw [g1] at hu;rw [←hu];exact c1
  ·rw [show j=j/3*3+2 by omega] at hu ⊢
   rw [g2] at hu;rw [←hu];exact c2
theorem Z6d {P:Program} {ts:List TypeId} {ds:List (DataW H)} {j n:Nat} {t e:TypeId} {d:DataW H} (h:(DataW.weightsEach P ts ds).all (· ≤reachBytes)=true) (ht:ts[j]?=some t) (hd:ds[j]?=some d) (hu:P.underlying t=some (.slice e))
  (he:0<P.bytesOf e) (hl:d= .nil∧n=0∨ ∃es sp,d= .slice es sp∧es.length=n):n≤140737488351232:=by
 rcases hl with ⟨_,rfl⟩ | ⟨es,sp,rfl,rfl⟩
 ·omega
 ·have h1:=sized_slice h ht hd hu
  have h2:es.length+sp.length≤(es.length+sp.length)*P.bytesOf e:=Nat.le_mul_of_pos_right _ he;have h3:reachBytes=140737488351232:=by decide
  omega
end
end Go.Proofs.YtecpbcmpncgokaaGreat
set_option linter.unusedVariables false
namespace Go.Proofs.YtecpbcmpncgokaaGreat
open Go.Joins Go.ChangeShapes Go.WideShapes Go.RowKit Go.Deep Go.Dol
section
variable {H:Type} {enc:TypeId×Value→H} {W:World}
def ZeB (d:DataW H) (n:Nat):Prop:=d= .nil∧n=0∨ ∃es sp,d= .slice es sp∧es.length=n
def Zdz (x:ObA) (dd:DataW H):Prop:=∃ d0 d1 d2 d3 d4 d5 d6 d7 d8 d9:DataW H,dd= .agg [d0,d1,d2,d3,d4,d5,d6,d7,d8,d9]∧ZeB d2 x.en.length∧ZeB d4 x.pa.length
def ZdA (W:World) (a:Addr) (x:ObA):Prop:=(∀j u,x.cells[j]?=some u→W.cell? (a.add j)=some u)∧Rd W W.heap.size 1 x.Ad x.d.length (bc x.d)∧Rd W W.heap.size 3 x.Ae x.en.length (ec x.en)∧Rd W W.heap.size 1 x.Ap x.pa.length (pc x.pa)∧Hid ((∀e∈x.en,e.name.size≤maxLen)∧ ∀p∈x.pa,p.size≤maxLen)
theorem Zjd {α:Type}: ∀{ys:List α} {z0 z1 z2 z3 z4 z5 z6 z7 z8 z9:α},ys.length=10→ys[0]?=some z0→ys[1]?=some z1→ys[2]?=some z2→ys[3]?=some z3→ys[4]?=some z4→ys[5]?=some z5→ys[6]?=some z6→ys[7]?=some z7→ys[8]?=some z8→ys[9]?=some z9→ys=[z0,z1,z2,z3,z4,z5,z6,z7,z8,z9]
 | [_,_,_,_,_,_,_,_,_,_],_,_,_,_,_,_,_,_,_,_,_,h0,h1,h2,h3,h4,h5,h6,h7,h8,h9=>by
  simp only [List.getElem?_cons_zero,List.getElem?_cons_succ,Option.some.injEq] at h0 h1 h2 h3 h4 h5 h6 h7 h8 h9;rw [h0,h1,h2,h3,h4,h5,h6,h7,h8,h9]
set_option maxRecDepth 100000 in
theorem Zje {d:DataW H} {ps:List MemPlace} (A:OA) (len cap:Nat) (h:DataW.Trod enc Tryz.prog W 0 (fun _=>true) true 72 (.slice A len cap) d ps):
  ∃l:List ObA,l.length=len∧Rd W W.heap.size 10 A len (oc l)∧(∀x∈l,∃a,ZdA W a x)∧ZeB d len∧(∀x∈l,∃es sp dd,d= .slice es sp∧dd∈es∧Zdz x dd):=by
 obtain ⟨fuel,hf⟩:=h;rcases Z2y Tryz.underlying72 Tryz.underlying40 (by kernel_rfl) (by kernel_rfl) hf with ⟨hcs,hx⟩ | ⟨a,len',cap',m,D,Pl,hcs,_,hl,hm,hmm,hx,hg⟩
 ·simp [Value.cells] at hcs
  obtain ⟨rfl,rfl,rfl⟩:=hcs;exact ⟨[],rfl,Rd.nil,fun x hx=>(List.not_mem_nil hx).elim,.inl ⟨(Prod.mk.inj hx).1,rfl⟩,fun x hx=>(List.not_mem_nil hx).elim⟩
 ·simp [Value.cells] at hcs
  obtain ⟨rfl,rfl,rfl⟩:=hcs
  obtain ⟨l,hll,hle⟩:=ZaE (p:=fun i (x:ObA)=>ZdA W (a.add (i*10)) x∧Zdz x (D i)) len (fun i hi=>by
   obtain ⟨ys,n,hD,_,hyl,hgg⟩:=hg i (by simp at hmm;omega);obtain ⟨u0,z0,a0,y0,t0⟩:=hgg 0 _ rfl;obtain ⟨u1,z1,a1,y1,t1⟩:=hgg 1 _ rfl;obtain ⟨u2,z2,a2,y2,t2⟩:=hgg 2 _ rfl;obtain ⟨u3,z3,a3,y3,t3⟩:=hgg 3 _ rfl;obtain ⟨u4,z4,a4,y4,t4⟩:=hgg 4 _ rfl;obtain ⟨u5,z5,a5,y5,t5⟩:=hgg 5 _ rfl;obtain ⟨u6,z6,a6,y6,t6⟩:=hgg 6 _ rfl;obtain ⟨u7,z7,a7,y7,t7⟩:=hgg 7 _ rfl;obtain ⟨u8,z8,a8,y8,t8⟩:=hgg 8 _ rfl;obtain ⟨u9,z9,a9,y9,t9⟩:=hgg 9 _ rfl;obtain ⟨k,e0,_,wf0⟩:=DataW.trod_int Tryz.underlying3 t0;obtain rfl:u0= .int .i64 k:=by simpa using e0
   obtain ⟨Ad,l,cd,rfl,hd⟩:=Zig t1;obtain ⟨Ae,en,ce,rfl,he,hel,hns⟩:=Zjc t2;obtain ⟨tr,e3,_,_⟩:=DataW.trod_string Tryz.underlying9 t3;obtain rfl:u3= .string tr:=by simpa using e3
   obtain ⟨Ap,pa,cp,rfl,hp,hsz,hpl⟩:=Zih t4;obtain ⟨ta,e5,_,_⟩:=DataW.trod_string Tryz.underlying9 t5;obtain rfl:u5= .string ta:=by simpa using e5
   obtain ⟨na,e6,_,_⟩:=DataW.trod_string Tryz.underlying9 t6;obtain rfl:u6= .string na:=by simpa using e6
   obtain ⟨wh,e7,_,_⟩:=DataW.trod_string Tryz.underlying9 t7;obtain rfl:u7= .string wh:=by simpa using e7
   obtain ⟨st,e8,_,wf8⟩:=DataW.trod_int Tryz.underlying3 t8;obtain rfl:u8= .int .i64 st:=by simpa using e8
   obtain ⟨te,e9,_,_⟩:=DataW.trod_string Tryz.underlying9 t9;obtain rfl:u9= .string te:=by simpa using e9
   refine ⟨⟨k,Ad,l,cd,Ae,en,ce,tr,Ap,pa,cp,ta,na,wh,st,te⟩,⟨fun j u hu=> ?_,hd,he,hp,qI ⟨hns,hsz⟩⟩,⟨z0.1,z1.1,z2.1,z3.1,z4.1,z5.1,z6.1,z7.1,z8.1,z9.1,?_,hel,hpl⟩⟩
   ·rw [Go.Deep.add_add]
    have hj:=(List.getElem?_eq_some_iff.1 hu).1;have hj':j<10:=hj
    match j,hj',hu with
    | 0,_,hu=>obtain rfl:=Option.some.inj hu;exact a0
    | 1,_,hu=>obtain rfl:=Option.some.inj hu;exact a1
    | 2,_,hu=>obtain rfl:=Option.some.inj hu;exact a2
    | 3,_,hu=>obtain rfl:=Option.some.inj hu;exact a3
    | 4,_,hu=>obtain rfl:=Option.some.inj hu;exact a4
    | 5,_,hu=>obtain rfl:=Option.some.inj hu;exact a5
    | 6,_,hu=>obtain rfl:=Option.some.inj hu;exact a6
    | 7,_,hu=>obtain rfl:=Option.some.inj hu;exact a7
    | 8,_,hu=>obtain rfl:=Option.some.inj hu;exact a8
    | 9,_,hu=>obtain rfl:=Option.some.inj hu;exact a9
    | n+10,h,_=>omega
   ·rw [hD,Zjd hyl y0 y1 y2 y3 y4 y5 y6 y7 y8 y9]
    rfl)
  have hd:d= .slice ((List.range len).map D) ((List.range (m-len)).map fun j=>D (len+j)):=(Prod.mk.inj hx).1
  refine ⟨l,hll,?_,fun x hx=> ?_,.inr ⟨_,_,hd,by simp⟩,fun x hx=>by
   obtain ⟨i,hi⟩:=List.getElem?_of_mem hx;have hil:=(List.getElem?_eq_some_iff.1 hi).1
   exact ⟨_,_,D i,hd,List.mem_map.2 ⟨i,List.mem_range.2 (by omega),rfl⟩,(hle i x hi).2⟩⟩
  ·refine Z3S (by omega) (by rw [Z9I,hll]) fun j u hu=> ?_
   have hj:=(List.getElem?_eq_some_iff.1 hu).1;rw [Z9I] at hj;have hk:j/10<l.length:=by omega
   have hget:=gE hk;have h1:=Z1U hget (j%10) (by omega);have e:j/10*10+j%10=j:=by omega
   rw [e] at h1;have h2:=(hle (j/10) _ hget).1.1 (j%10) u (by rw [←h1];exact hu);rw [Go.Deep.add_add,e] at h2;exact h2
  ·obtain ⟨i,hi⟩:=List.getElem?_of_mem hx
   exact ⟨_,(hle i x hi).1⟩
theorem Z4L {P:Program} {e:TypeId}: ∀{l:List (DataW H)} {d:DataW H},d∈l→ ∀n∈d.weights P e,n∈DataW.weightsAll P e l
 | [],_,hd,_,_=>(List.not_mem_nil hd).elim
 | x::r,d,hd,n,hn=>by
  simp only [DataW.weightsAll,List.mem_append];rcases List.mem_cons.1 hd with rfl | h
  ·exact .inl hn
  ·exact .inr (Z4L h n hn)
theorem Zfs {ts:List TypeId} {ds:List (DataW H)} {j:Nat} {d:DataW H} {len:Nat} {l:List ObA} (h:(DataW.weightsEach Tryz.prog ts ds).all (· ≤reachBytes)=true) (ht:ts[j]?=some 72) (hd:ds[j]?=some d)
  (hl:ZeB d len) (ho: ∀x∈l,∃a,ZdA W a x) (hp: ∀x∈l,∃es sp dd,d= .slice es sp∧dd∈es∧Zdz x dd):len≤140737488351232∧Obs W W.heap.size l:=by
 refine ⟨Z6d h ht hd Tryz.underlying72 (by rw [show 0<Tryz.prog.bytesOf 40↔True from by simp only [iff_true];exact of_decide_eq_true (by kernel_rfl)];trivial) hl,fun x hx=> ?_⟩;obtain ⟨a,_,h1,h2,h3,h4⟩:=ho x hx;obtain ⟨es,sp,dd,rfl,hm,d0,d1,d2,d3,d4,d5,d6,d7,d8,d9,rfl,hz2,hz4⟩:=hp x hx;have hall:(DataW.weightsEach Tryz.prog (((Tryz.prog.underlying 40).bind fun u=>match u with | .struct fs=>some (fs.toList.map (·.type)) | _=>none).getD []) [d0,d1,d2,d3,d4,d5,d6,d7,d8,d9]).all (· ≤reachBytes)=true:=by
  rw [List.all_eq_true];intro n hn;refine List.all_eq_true.1 h n (DataW.weights_mem_each ht hd n ?_);simp only [DataW.weights,Tryz.underlying72,List.mem_cons,List.mem_append];refine .inr (.inl (Z4L hm n ?_));simpa [DataW.weights,Tryz.underlying40] using hn
 rw [Tryz.underlying40] at hall;refine ⟨h1,h2,h3,?_,?_,h4⟩
 ·exact lT (Z6d (j:=2) hall rfl rfl Tryz.underlying37 (by rw [show Tryz.prog.bytesOf 177=40 from by kernel_rfl];omega) hz2) (by omega)
 ·exact lT (Z6d (j:=4) hall rfl rfl Tryz.underlying38 (by rw [show Tryz.prog.bytesOf 9=16 from by kernel_rfl];omega) hz4) (by omega)
end
end Go.Proofs.YtecpbcmpncgokaaGreat
