/- How an argument of rows of bytes reads, and what the form's reach says of each row. Conditions: none. -/
import Derived.Test.YtnaakfnbmeimaaaGreatObsFrame
set_option linter.unusedVariables false
namespace Go.Proofs.YtnaakfnbmeimaaaGreat
open Go.Joins Go.ChangeShapes Go.WideShapes Go.RowKit Go.Deep Go.Dol
section
variable {H : Type} {enc : TypeId × Value → H} {W : World}
theorem rwb_in2 {d : DataW H} {ps : List MemPlace} (A : Option Addr) (len cap : Nat) (h : DataW.Trod enc Tryz.prog W 0 (fun _ => true) true 23 (.slice A len cap) d ps) :
  ∃ l : List RowB,l.length = len ∧ Rd W W.heap.size 1 A len (rc l) ∧ Rws W W.heap.size l ∧ LenOf d len ∧ (∀ x ∈ l,∃ es sp dd,d = .slice es sp ∧ dd ∈ es ∧ LenOf dd x.l.length):=by
 obtain ⟨fuel,hf⟩:=h
 rcases open_slice Tryz.underlying23 hf with ⟨hcs,hx⟩ | ⟨a,len',cap',m,n,D,Pl,hcs,_,hl,hm,hmm,hx,hg⟩
 ·simp [Value.cells] at hcs
  obtain ⟨rfl,rfl,rfl⟩:=hcs
  exact ⟨[],rfl,Rd.nil,Rws.nil,.inl ⟨(Prod.mk.inj hx).1,rfl⟩,fun x hx => (List.not_mem_nil hx).elim⟩
 ·simp [Value.cells] at hcs
  obtain ⟨rfl,rfl,rfl⟩:=hcs
  have hC : Tryz.prog.cellsOf 25 = 1:=by kernel_rfl
  obtain ⟨l,hll,hle⟩:=list_of (p:=fun i (x : RowB) => W.cell? (a.add i) = some (.slice x.A x.l.length x.c) ∧ Rd W W.heap.size 1 x.A x.l.length (bc x.l) ∧ x.l.length ≤ x.c ∧ x.c ≤ maxLen ∧ LenOf (D i) x.l.length) len (fun i hi => by
   obtain ⟨cs',hc,ht'⟩:=hg i (by simp at hmm; omega)
   rw [hC,Nat.mul_one] at hc
   obtain ⟨_,hcl,hat⟩:=World.cells?_some hc
   match cs',hcl with
   | [v],_ =>
    have h0 : W.cell? (a.add i) = some v:=by simpa [Go.Deep.add_add] using hat 0 (by omega)
    have key : ∀ (A : Option Addr) (ln cp : Nat),v = .slice A ln cp → ∃ x : RowB,W.cell? (a.add i) = some (.slice x.A x.l.length x.c) ∧ Rd W W.heap.size 1 x.A x.l.length (bc x.l) ∧ x.l.length ≤ x.c ∧ x.c ≤ maxLen ∧ LenOf (D i) x.l.length:=by
     intro A ln cp hu
     subst hu
     obtain ⟨b,hb,hr,hc,hcm,hd⟩:=bytes_in (d:=D i) (ps:=Pl i) ⟨n,ht'⟩
     subst hb
     exact ⟨⟨b,A,cp⟩,h0,hr,hc,hcm,hd⟩
    rcases open_ints Tryz.underlying25 Tryz.underlying5 (by kernel_rfl) ht' with ⟨hcs,_⟩ | ⟨x,l1,c1,zs,hcs,_⟩
    ·exact key none 0 0 (by simpa using hcs)
    ·exact key (some x) l1 c1 (by simpa using hcs))
  have hd : d = .slice ((List.range len).map D) ((List.range (m - len)).map fun j => D (len + j)):=(Prod.mk.inj hx).1
  refine ⟨l,hll,?_,fun x hx => ?_,.inr ⟨_,_,hd,by simp⟩,fun x hx => by
   obtain ⟨i,hi⟩:=List.getElem?_of_mem hx
   have hil:=(List.getElem?_eq_some_iff.1 hi).1
   exact ⟨_,_,D i,hd,List.mem_map.2 ⟨i,List.mem_range.2 (by omega),rfl⟩,(hle i x hi).2.2.2.2⟩⟩
  ·refine rd_of_cells (by omega) (by rw [rc_length,hll,Nat.mul_one]) fun j u hu => ?_
   have hj:=(List.getElem?_eq_some_iff.1 hu).1
   rw [rc_length] at hj
   have h1:=(hle j _ (List.getElem?_eq_getElem hj)).1
   rw [rc_get (List.getElem?_eq_getElem hj)] at hu
   rw [← hu]
   exact h1
  ·obtain ⟨i,hi⟩:=List.getElem?_of_mem hx
   exact ⟨(hle i x hi).2.1,(hle i x hi).2.2.1,(hle i x hi).2.2.2.1⟩
theorem reach_rwb2 {ts : List TypeId} {ds : List (DataW H)} {j : Nat} {d : DataW H} {l : List RowB} (h : (DataW.weightsEach Tryz.prog ts ds).all (· ≤ reachBytes) = true) (ht : ts[j]? = some 23) (hd : ds[j]? = some d)
  (hp : ∀ x ∈ l,∃ es sp dd,d = .slice es sp ∧ dd ∈ es ∧ LenOf dd x.l.length) : ∀ x ∈ l,x.l.length ≤ 140737488351232:=fun x hx => by
 obtain ⟨es,sp,dd,rfl,hm,hl⟩:=hp x hx
 have hall : (DataW.weightsEach Tryz.prog [25] [dd]).all (· ≤ reachBytes) = true:=by
  rw [List.all_eq_true]
  intro n hn
  refine List.all_eq_true.1 h n (DataW.weights_mem_each ht hd n ?_)
  simp only [DataW.weights,Tryz.underlying23,List.mem_cons,List.mem_append]
  refine .inr (.inl (weightsAll_in hm n ?_))
  simpa [DataW.weightsEach] using hn
 exact len_small (j:=0) hall rfl rfl Tryz.underlying25 (by rw [show Tryz.prog.bytesOf 5 = 1 from by kernel_rfl]; omega) hl
end
end Go.Proofs.YtnaakfnbmeimaaaGreat
