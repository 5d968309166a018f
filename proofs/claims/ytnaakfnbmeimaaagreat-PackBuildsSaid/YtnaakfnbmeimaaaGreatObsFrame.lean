/- How an argument of objects reads, and one of rows of bytes; what the form's reach says of them. Conditions: none. -/
import Derived.Test.YtnaakfnbmeimaaaGreatObjFrame
import Derived.Test.YtnaakfnbmeimaaaGreatRaws
set_option linter.unusedVariables false
namespace Go.Proofs.YtnaakfnbmeimaaaGreat
open Go.Joins Go.ChangeShapes Go.WideShapes Go.RowKit Go.Deep Go.Dol
section
variable {H : Type} {enc : TypeId × Value → H} {W : World}
def LenOf (d : DataW H) (n : Nat) : Prop:=d = .nil ∧ n = 0 ∨ ∃ es sp,d = .slice es sp ∧ es.length = n
def ObPart (x : ObA) (dd : DataW H) : Prop:=∃ d0 d1 d2 d3 d4 d5 d6 d7 d8 d9 : DataW H,dd = .agg [d0,d1,d2,d3,d4,d5,d6,d7,d8,d9] ∧ LenOf d2 x.en.length ∧ LenOf d4 x.pa.length
def ObHere (W : World) (a : Addr) (x : ObA) : Prop:=(∀ j u,x.cells[j]? = some u → W.cell? (a.add j) = some u) ∧ Rd W W.heap.size 1 x.Ad x.d.length (bc x.d) ∧ Rd W W.heap.size 3 x.Ae x.en.length (ec x.en) ∧ Rd W W.heap.size 1 x.Ap x.pa.length (pc x.pa) ∧ Hid (∀ e ∈ x.en,e.name.size ≤ maxLen)
theorem list10 {α : Type} : ∀ {ys : List α} {z0 z1 z2 z3 z4 z5 z6 z7 z8 z9 : α},ys.length = 10 → ys[0]? = some z0 → ys[1]? = some z1 → ys[2]? = some z2 → ys[3]? = some z3 → ys[4]? = some z4 → ys[5]? = some z5 → ys[6]? = some z6 → ys[7]? = some z7 → ys[8]? = some z8 → ys[9]? = some z9 → ys = [z0,z1,z2,z3,z4,z5,z6,z7,z8,z9]
 | [_,_,_,_,_,_,_,_,_,_],_,_,_,_,_,_,_,_,_,_,_,h0,h1,h2,h3,h4,h5,h6,h7,h8,h9 => by
  simp only [List.getElem?_cons_zero,List.getElem?_cons_succ,Option.some.injEq] at h0 h1 h2 h3 h4 h5 h6 h7 h8 h9
  rw [h0,h1,h2,h3,h4,h5,h6,h7,h8,h9]
set_option maxRecDepth 100000 in
theorem obs_in {d : DataW H} {ps : List MemPlace} (A : Option Addr) (len cap : Nat) (h : DataW.Trod enc Tryz.prog W 0 (fun _ => true) true 22 (.slice A len cap) d ps) :
  ∃ l : List ObA,l.length = len ∧ Rd W W.heap.size 10 A len (oc l) ∧ (∀ x ∈ l,∃ a,ObHere W a x) ∧ LenOf d len ∧ (∀ x ∈ l,∃ es sp dd,d = .slice es sp ∧ dd ∈ es ∧ ObPart x dd):=by
 obtain ⟨fuel,hf⟩:=h
 rcases open_slice_fields Tryz.underlying22 Tryz.underlying72 (by kernel_rfl) (by kernel_rfl) hf with ⟨hcs,hx⟩ | ⟨a,len',cap',m,D,Pl,hcs,_,hl,hm,hmm,hx,hg⟩
 ·simp [Value.cells] at hcs
  obtain ⟨rfl,rfl,rfl⟩:=hcs
  exact ⟨[],rfl,Rd.nil,fun x hx => (List.not_mem_nil hx).elim,.inl ⟨(Prod.mk.inj hx).1,rfl⟩,fun x hx => (List.not_mem_nil hx).elim⟩
 ·simp [Value.cells] at hcs
  obtain ⟨rfl,rfl,rfl⟩:=hcs
  obtain ⟨l,hll,hle⟩:=list_of (p:=fun i (x : ObA) => ObHere W (a.add (i * 10)) x ∧ ObPart x (D i)) len (fun i hi => by
   obtain ⟨ys,n,hD,_,hyl,hgg⟩:=hg i (by simp at hmm; omega)
   obtain ⟨u0,z0,a0,y0,t0⟩:=hgg 0 _ rfl
   obtain ⟨u1,z1,a1,y1,t1⟩:=hgg 1 _ rfl
   obtain ⟨u2,z2,a2,y2,t2⟩:=hgg 2 _ rfl
   obtain ⟨u3,z3,a3,y3,t3⟩:=hgg 3 _ rfl
   obtain ⟨u4,z4,a4,y4,t4⟩:=hgg 4 _ rfl
   obtain ⟨u5,z5,a5,y5,t5⟩:=hgg 5 _ rfl
   obtain ⟨u6,z6,a6,y6,t6⟩:=hgg 6 _ rfl
   obtain ⟨u7,z7,a7,y7,t7⟩:=hgg 7 _ rfl
   obtain ⟨u8,z8,a8,y8,t8⟩:=hgg 8 _ rfl
   obtain ⟨u9,z9,a9,y9,t9⟩:=hgg 9 _ rfl
   obtain ⟨k,e0,_,wf0⟩:=DataW.trod_int Tryz.underlying3 t0
   obtain rfl : u0 = .int .i64 k:=by simpa using e0
   obtain ⟨Ad,l,cd,rfl,hd⟩:=bytes_f t1
   obtain ⟨Ae,en,ce,rfl,he,hel,hns⟩:=ents_f t2
   obtain ⟨tr,e3,_,_⟩:=DataW.trod_string Tryz.underlying9 t3
   obtain rfl : u3 = .string tr:=by simpa using e3
   obtain ⟨Ap,pa,cp,rfl,hp,hsz,hpl⟩:=texts_f t4
   obtain ⟨ta,e5,_,_⟩:=DataW.trod_string Tryz.underlying9 t5
   obtain rfl : u5 = .string ta:=by simpa using e5
   obtain ⟨na,e6,_,_⟩:=DataW.trod_string Tryz.underlying9 t6
   obtain rfl : u6 = .string na:=by simpa using e6
   obtain ⟨wh,e7,_,_⟩:=DataW.trod_string Tryz.underlying9 t7
   obtain rfl : u7 = .string wh:=by simpa using e7
   obtain ⟨st,e8,_,wf8⟩:=DataW.trod_int Tryz.underlying3 t8
   obtain rfl : u8 = .int .i64 st:=by simpa using e8
   obtain ⟨te,e9,_,_⟩:=DataW.trod_string Tryz.underlying9 t9
   obtain rfl : u9 = .string te:=by simpa using e9
   refine ⟨⟨k,Ad,l,cd,Ae,en,ce,tr,Ap,pa,cp,ta,na,wh,st,te⟩,⟨fun j u hu => ?_,hd,he,hp,hns⟩,⟨z0.1,z1.1,z2.1,z3.1,z4.1,z5.1,z6.1,z7.1,z8.1,z9.1,?_,hel,hpl⟩⟩
   ·rw [Go.Deep.add_add]
    have hj:=(List.getElem?_eq_some_iff.1 hu).1
    have hj' : j < 10:=hj
    match j,hj',hu with
    | 0,_,hu => obtain rfl:=Option.some.inj hu; exact a0
    | 1,_,hu => obtain rfl:=Option.some.inj hu; exact a1
    | 2,_,hu => obtain rfl:=Option.some.inj hu; exact a2
    | 3,_,hu => obtain rfl:=Option.some.inj hu; exact a3
    | 4,_,hu => obtain rfl:=Option.some.inj hu; exact a4
    | 5,_,hu => obtain rfl:=Option.some.inj hu; exact a5
    | 6,_,hu => obtain rfl:=Option.some.inj hu; exact a6
    | 7,_,hu => obtain rfl:=Option.some.inj hu; exact a7
    | 8,_,hu => obtain rfl:=Option.some.inj hu; exact a8
    | 9,_,hu => obtain rfl:=Option.some.inj hu; exact a9
    | n + 10,h,_ => omega
   ·rw [hD,list10 hyl y0 y1 y2 y3 y4 y5 y6 y7 y8 y9]
    rfl)
  have hd : d = .slice ((List.range len).map D) ((List.range (m - len)).map fun j => D (len + j)):=(Prod.mk.inj hx).1
  refine ⟨l,hll,?_,fun x hx => ?_,.inr ⟨_,_,hd,by simp⟩,fun x hx => by
   obtain ⟨i,hi⟩:=List.getElem?_of_mem hx
   have hil:=(List.getElem?_eq_some_iff.1 hi).1
   exact ⟨_,_,D i,hd,List.mem_map.2 ⟨i,List.mem_range.2 (by omega),rfl⟩,(hle i x hi).2⟩⟩
  ·refine rd_of_cells (by omega) (by rw [oc_length,hll]) fun j u hu => ?_
   have hj:=(List.getElem?_eq_some_iff.1 hu).1
   rw [oc_length] at hj
   have hk : j / 10 < l.length:=by omega
   have hget:=List.getElem?_eq_getElem hk
   have h1:=oc_get hget (j % 10) (by omega)
   have e : j / 10 * 10 + j % 10 = j:=by omega
   rw [e] at h1
   have h2:=(hle (j / 10) _ hget).1.1 (j % 10) u (by rw [← h1]; exact hu)
   rw [Go.Deep.add_add,e] at h2
   exact h2
  ·obtain ⟨i,hi⟩:=List.getElem?_of_mem hx
   exact ⟨_,(hle i x hi).1⟩
theorem weightsAll_in {P : Program} {e : TypeId} : ∀ {l : List (DataW H)} {d : DataW H},d ∈ l → ∀ n ∈ d.weights P e,n ∈ DataW.weightsAll P e l
 | [],_,hd,_,_ => (List.not_mem_nil hd).elim
 | x :: r,d,hd,n,hn => by
  simp only [DataW.weightsAll,List.mem_append]
  rcases List.mem_cons.1 hd with rfl | h
  ·exact .inl hn
  ·exact .inr (weightsAll_in h n hn)
theorem reach_obs {ts : List TypeId} {ds : List (DataW H)} {j : Nat} {d : DataW H} {len : Nat} {l : List ObA} (h : (DataW.weightsEach Tryz.prog ts ds).all (· ≤ reachBytes) = true) (ht : ts[j]? = some 22) (hd : ds[j]? = some d)
  (hl : LenOf d len) (ho : ∀ x ∈ l,∃ a,ObHere W a x) (hp : ∀ x ∈ l,∃ es sp dd,d = .slice es sp ∧ dd ∈ es ∧ ObPart x dd) : len ≤ 140737488351232 ∧ Obs W W.heap.size l:=by
 refine ⟨len_small h ht hd Tryz.underlying22 (by rw [show 0 < Tryz.prog.bytesOf 72 ↔ True from by simp only [iff_true]; exact of_decide_eq_true (by kernel_rfl)]; trivial) hl,fun x hx => ?_⟩
 obtain ⟨a,_,h1,h2,h3,h4⟩:=ho x hx
 obtain ⟨es,sp,dd,rfl,hm,d0,d1,d2,d3,d4,d5,d6,d7,d8,d9,rfl,hz2,hz4⟩:=hp x hx
 have hall : (DataW.weightsEach Tryz.prog (((Tryz.prog.underlying 72).bind fun u => match u with | .struct fs => some (fs.toList.map (·.type)) | _ => none).getD []) [d0,d1,d2,d3,d4,d5,d6,d7,d8,d9]).all (· ≤ reachBytes) = true:=by
  rw [List.all_eq_true]
  intro n hn
  refine List.all_eq_true.1 h n (DataW.weights_mem_each ht hd n ?_)
  simp only [DataW.weights,Tryz.underlying22,List.mem_cons,List.mem_append]
  refine .inr (.inl (weightsAll_in hm n ?_))
  simpa [DataW.weights,Tryz.underlying72] using hn
 rw [Tryz.underlying72] at hall
 refine ⟨h1,h2,h3,?_,?_,h4⟩
 ·exact Nat.le_trans (len_small (j:=2) hall rfl rfl Tryz.underlying70 (by rw [show Tryz.prog.bytesOf 124 = 40 from by kernel_rfl]; omega) hz2) (by omega)
 ·exact Nat.le_trans (len_small (j:=4) hall rfl rfl Tryz.underlying45 (by rw [show Tryz.prog.bytesOf 9 = 16 from by kernel_rfl]; omega) hz4) (by omega)
theorem reach_rwb {ts : List TypeId} {ds : List (DataW H)} {j : Nat} {d : DataW H} {len : Nat} (h : (DataW.weightsEach Tryz.prog ts ds).all (· ≤ reachBytes) = true) (ht : ts[j]? = some 23) (hd : ds[j]? = some d) (hl : LenOf d len) : len ≤ 140737488351232 :=
 len_small h ht hd Tryz.underlying23 (by rw [show Tryz.prog.bytesOf 25 = 24 from by kernel_rfl]; omega) hl
end
end Go.Proofs.YtnaakfnbmeimaaaGreat
