/- How an argument of type api.Object reads: ten cells, its bytes, entries and parents as lists, and what the form's reach says of their lengths. Conditions: none. -/
import Derived.Test.YtnaakfnbmeimaaaGreatFrame
import Derived.Test.YtnaakfnbmeimaaaGreatObjA
import Derived.Deep.Slices
import Derived.Deep.Fields
import Derived.ChangeSame
import Derived.Lib.SmallJoins
import Derived.SliceStrings
set_option linter.unusedVariables false
namespace Go.Proofs.YtnaakfnbmeimaaaGreat
open Go.Joins Go.ChangeShapes Go.WideShapes Go.RowKit Go.Deep Go.Dol
section
variable {H : Type} {enc : TypeId × Value → H} {P : Program} {w : World} {base : Nat} {spare : Nat → Bool} {held : Bool}
theorem open_slice_fields {t e : TypeId} {fs : Array Field} {fuel : Nat} {cs : List Value} {x : DataW H × List MemPlace} (ht : P.underlying t = some (.slice e)) (he : P.underlying e = some (.struct fs))
  (hone : oneCellFields P fs = true) (hC : P.cellsOf e = fs.size) (h : DataW.trod enc P w base spare held fuel t cs = some x) :
  (cs = [.slice none 0 0] ∧ x = (.nil,[])) ∨
  ∃ (a : Addr) (len cap m : Nat) (D : Nat → DataW H) (Pl : Nat → List MemPlace),cs = [.slice (some a) len cap] ∧ base ≤ a.block ∧ len ≤ cap ∧ cap ≤ maxLen ∧ m = (if spare a.block then cap else len) ∧
   x = (.slice ((List.range len).map D) ((List.range (m - len)).map fun j => D (len + j)),MemPlace.row a (m * fs.size) ++ (List.range m).flatMap Pl) ∧
   ∀ i,i < m → ∃ (ys : List (DataW H × List MemPlace)) (n : Nat),D i = .agg (ys.map (·.1)) ∧ Pl i = ys.flatMap (·.2) ∧ ys.length = fs.size ∧
    ∀ (j : Nat) (f : Field),fs[j]? = some f → ∃ (v : Value) (y : DataW H × List MemPlace),w.cell? (a.add (i * fs.size + j)) = some v ∧ ys[j]? = some y ∧ DataW.trod enc P w base spare held n f.type [v] = some y:=by
 rcases open_slice ht h with h0 | ⟨a,len,cap,m,n,D,Pl,hcs,hb,hl,hm,hmm,hx,hi⟩
 ·exact .inl h0
 ·refine .inr ⟨a,len,cap,m,D,Pl,hcs,hb,hl,hm,hmm,by rw [hC] at hx; exact hx,fun i him => ?_⟩
  obtain ⟨cs',hc,ht'⟩:=hi i him
  rw [hC] at hc
  obtain ⟨ys,n',hn',hy,hlen,hyl,hf⟩:=DataW.trod_struct he ht'
  obtain ⟨_,hcl,hat⟩:=World.cells?_some hc
  simp only [Prod.mk.injEq] at hy
  refine ⟨ys,n',hy.1,hy.2,hyl,fun j f hj => ?_⟩
  obtain ⟨ho,hk⟩:=hone_of hone j f hj
  have hjl : j < fs.size:=(Array.getElem?_eq_some_iff.1 hj).1
  have hcell:=hat j hjl
  have hv : cs'[j]? = some (cs'[j]'(by omega)):=List.getElem?_eq_getElem (by omega)
  have h1:=hf j f hj
  rw [ho,hk] at h1
  have hone' : (cs'.drop j).take 1 = [cs'[j]'(by omega)]:=by
   rw [List.drop_eq_getElem_cons (by omega)]
   rfl
  rw [hone'] at h1
  have hys : ys[j]? = some (ys[j]'(by omega)):=List.getElem?_eq_getElem (by omega)
  refine ⟨_,_,?_,hys,h1.trans hys⟩
  rw [← Go.Deep.add_add,hcell,hv]
end
section
variable {H : Type} {enc : TypeId × Value → H} {W : World}
theorem rd_of_cells {a : Addr} {n size : Nat} {xs : List Value} (hs : 0 < size) (hl : xs.length = n * size) (h : ∀ j u,xs[j]? = some u → W.cell? (a.add j) = some u) : Rd W W.heap.size size (some a) n xs:=by
 refine ⟨hl,fun hn => ?_⟩
 have hp : 0 < xs.length:=by rw [hl]; exact Nat.mul_pos hn hs
 have h0:=h 0 _ (List.getElem?_eq_getElem hp)
 obtain ⟨b,off,spot⟩:=a
 have hspot : spot = none:=by simpa [Addr.add] using World.cell?_spot h0
 subst hspot
 have hc : ∀ j u,xs[j]? = some u → W.cell? ⟨b,off + j,none⟩ = some u:=fun j u hu => by rw [← Go.WideShapes.add_plain]; exact h j u hu
 exact ⟨b,off,rfl,World.block_lt_of_cell? W _ (hc 0 _ (List.getElem?_eq_getElem hp)),hc⟩
theorem list_of {α : Type} {p : Nat → α → Prop} : ∀ n,(∀ i,i < n → ∃ e,p i e) → ∃ l : List α,l.length = n ∧ ∀ i e,l[i]? = some e → p i e
 | 0,_ => ⟨[],rfl,fun i e h => by simp at h⟩
 | n + 1,h => by
  obtain ⟨l,hl,hp⟩:=list_of n fun i hi => h i (by omega)
  obtain ⟨e,he⟩:=h n (by omega)
  refine ⟨l ++ [e],by simp [hl],fun i u hu => ?_⟩
  by_cases hi : i < l.length
  ·rw [List.getElem?_append_left hi] at hu
   exact hp i u hu
  ·rw [List.getElem?_append_right (by omega)] at hu
   have h1:=(List.getElem?_eq_some_iff.1 hu).1
   simp only [List.length_singleton] at h1
   have h2 : i = n:=by omega
   subst h2
   rw [hl,Nat.sub_self] at hu
   simp only [List.getElem?_cons_zero,Option.some.injEq] at hu
   rw [← hu]
   exact he
theorem bytes_f {fuel : Nat} {v : Value} {x : DataW H × List MemPlace} (h : DataW.trod enc Tryz.prog W 0 (fun _ => true) true fuel 25 [v] = some x) :
  ∃ (A : Option Addr) (l : List UInt8) (cap : Nat),v = .slice A l.length cap ∧ Rd W W.heap.size 1 A l.length (bc l):=by
 rcases open_ints Tryz.underlying25 Tryz.underlying5 (by kernel_rfl) h with ⟨hcs,hx⟩ | ⟨a,len,cap,zs,hcs,_⟩
 ·obtain rfl : v = .slice none 0 0:=by simpa using hcs
  exact ⟨none,[],0,rfl,Rd.nil⟩
 ·obtain rfl : v = .slice (some a) len cap:=by simpa using hcs
  obtain ⟨l,hl,hr,_⟩:=bytes_in (d:=x.1) (ps:=x.2) ⟨fuel,h⟩
  subst hl
  exact ⟨some a,l,cap,rfl,hr⟩
theorem texts_f {fuel : Nat} {v : Value} {x : DataW H × List MemPlace} (h : DataW.trod enc Tryz.prog W 0 (fun _ => true) true fuel 45 [v] = some x) :
  ∃ (A : Option Addr) (l : List ByteArray) (cap : Nat),v = .slice A l.length cap ∧ Rd W W.heap.size 1 A l.length (pc l) ∧ (∀ p ∈ l,p.size ≤ maxLen) ∧ (x.1 = .nil ∧ l.length = 0 ∨ ∃ es sp,x.1 = .slice es sp ∧ es.length = l.length):=by
 rcases open_strings Tryz.underlying45 Tryz.underlying9 (by kernel_rfl) h with ⟨hcs,hx⟩ | ⟨a,len,cap,ss,hcs,_,hl,hm,hz,hx,hcell,hsz⟩
 ·obtain rfl : v = .slice none 0 0:=by simpa using hcs
  exact ⟨none,[],0,rfl,Rd.nil,fun p hp => by (cases hp),.inl ⟨by rw [hx],rfl⟩⟩
 ·obtain rfl : v = .slice (some a) len cap:=by simpa using hcs
  have hsl : ss.length = cap:=by simpa using hz
  have hll : (ss.take len).length = len:=by rw [List.length_take]; omega
  refine ⟨some a,ss.take len,cap,by rw [hll],?_,fun p hp => hsz p (List.mem_of_mem_take hp),.inr ⟨_,_,by rw [hx],by simp [strs]⟩⟩
  refine rd_of_cells (by omega) (by rw [pc_length]; omega) fun j u hu => ?_
  have hj:=(List.getElem?_eq_some_iff.1 hu).1
  rw [pc_length,hll] at hj
  rw [pc_get (by omega)] at hu
  rw [hcell j (by omega),← hu,List.getElem_take,List.getD,List.getElem?_eq_getElem (by omega)]
  rfl
theorem ents_f {fuel : Nat} {v : Value} {x : DataW H × List MemPlace} (h : DataW.trod enc Tryz.prog W 0 (fun _ => true) true fuel 70 [v] = some x) :
  ∃ (A : Option Addr) (l : List Ent) (cap : Nat),v = .slice A l.length cap ∧ Rd W W.heap.size 3 A l.length (ec l) ∧ (x.1 = .nil ∧ l.length = 0 ∨ ∃ es sp,x.1 = .slice es sp ∧ es.length = l.length) ∧ Hid (∀ e ∈ l,e.name.size ≤ maxLen):=by
 rcases open_slice_fields Tryz.underlying70 Tryz.underlying124 (by kernel_rfl) (by kernel_rfl) h with ⟨hcs,hx⟩ | ⟨a,len,cap,m,D,Pl,hcs,_,hl,hm,hmm,hx,hf⟩
 ·obtain rfl : v = .slice none 0 0:=by simpa using hcs
  exact ⟨none,[],0,rfl,Rd.nil,.inl ⟨by rw [hx],rfl⟩,Lib.hid fun p hp => by cases hp⟩
 ·obtain rfl : v = .slice (some a) len cap:=by simpa using hcs
  obtain ⟨l,hll,hle⟩:=list_of (p:=fun i (e : Ent) => W.cell? (a.add (i * 3 + 0)) = some (.string e.name) ∧ W.cell? (a.add (i * 3 + 1)) = some (.bool e.dir) ∧ W.cell? (a.add (i * 3 + 2)) = some (.string e.id) ∧ e.name.size ≤ maxLen) len (fun i hi => by
   obtain ⟨ys,n,_,_,_,hg⟩:=hf i (by simp at hmm; omega)
   obtain ⟨u0,z0,a0,_,t0⟩:=hg 0 _ rfl
   obtain ⟨u1,z1,a1,_,t1⟩:=hg 1 _ rfl
   obtain ⟨u2,z2,a2,_,t2⟩:=hg 2 _ rfl
   obtain ⟨s0,e0,_,z0'⟩:=DataW.trod_string Tryz.underlying9 t0
   obtain ⟨b1,e1,_⟩:=DataW.trod_bool Tryz.underlying4 t1
   obtain ⟨s2,e2,_,_⟩:=DataW.trod_string Tryz.underlying9 t2
   obtain rfl : u0 = .string s0:=by simpa using e0
   obtain rfl : u1 = .bool b1:=by simpa using e1
   obtain rfl : u2 = .string s2:=by simpa using e2
   exact ⟨⟨s0,b1,s2⟩,a0,a1,a2,z0'⟩)
  refine ⟨some a,l,cap,by rw [hll],?_,.inr ⟨_,_,by rw [hx],by simp [hll]⟩,Lib.hid fun e he => ?_⟩
  rotate_left
  ·obtain ⟨i,hi⟩:=List.getElem?_of_mem he
   exact (hle i e hi).2.2.2
  refine rd_of_cells (by omega) (by rw [ec_length]) fun j u hu => ?_
  have hj:=(List.getElem?_eq_some_iff.1 hu).1
  rw [ec_length] at hj
  have hk : j / 3 < l.length:=by omega
  obtain ⟨g0,g1,g2⟩:=ec_get hk
  obtain ⟨c0,c1,c2,_⟩:=hle (j / 3) _ (List.getElem?_eq_getElem hk)
  have h3 : j % 3 = 0 ∨ j % 3 = 1 ∨ j % 3 = 2:=by omega
  rcases h3 with h3 | h3 | h3
  ·rw [show j = j / 3 * 3 by omega] at hu ⊢
   rw [g0] at hu
   rw [← hu]
   exact c0
  ·rw [show j = j / 3 * 3 + 1 by omega] at hu ⊢
   rw [g1] at hu
   rw [← hu]
   exact c1
  ·rw [show j = j / 3 * 3 + 2 by omega] at hu ⊢
   rw [g2] at hu
   rw [← hu]
   exact c2
theorem len_small {P : Program} {ts : List TypeId} {ds : List (DataW H)} {j n : Nat} {t e : TypeId} {d : DataW H} (h : (DataW.weightsEach P ts ds).all (· ≤ reachBytes) = true) (ht : ts[j]? = some t) (hd : ds[j]? = some d) (hu : P.underlying t = some (.slice e))
  (he : 0 < P.bytesOf e) (hl : d = .nil ∧ n = 0 ∨ ∃ es sp,d = .slice es sp ∧ es.length = n) : n ≤ 140737488351232:=by
 rcases hl with ⟨_,rfl⟩ | ⟨es,sp,rfl,rfl⟩
 ·omega
 ·have h1:=sized_slice h ht hd hu
  have h2 : es.length + sp.length ≤ (es.length + sp.length) * P.bytesOf e:=Nat.le_mul_of_pos_right _ he
  have h3 : reachBytes = 140737488351232:=by decide
  omega
end
end Go.Proofs.YtnaakfnbmeimaaaGreat
