/- A region that draws its order of evaluation, with a condition on the world that may hang on which operations have come up: what is loaded ahead of a store may be taken first, though the store turns it. Conditions: none beyond what each law names. -/
import Derived.Deep.RegionHeld
import Derived.Test.YtecpbcmpncgokaaGreatShort
namespace Go.Dol
open Go
section
variable {P:Program} {ops:Array Oper} {Q:Exit→Act→World→Prop} {md:Region.Mode} {T:Array Bool→World→Prop}
def Z1a (P:Program) (md:Region.Mode) (ops:Array Oper) (Q:Exit→Act→World→Prop) (T:Array Bool→World→Prop):Nat→Array Bool→Act→World→Prop
 | 0,listed,a,w=>Region.ready md ops listed=[]∧Q .normal a w
 | fuel+1,listed,a,w=>
  (Region.ready md ops listed=[]→Q .normal a w)∧
  ∀i∈Region.ready md ops listed,wpOp P ops Q i (fun a' w'=>T (listed.setIfInBounds i true) w'∧Z1a P md ops Q T fuel (listed.setIfInBounds i true) a' w') a w
theorem Z8c: ∀(fuel:Nat) (listed:Array Bool) (a:Act) (w:World),Z1a P md ops Q T fuel listed a w→wpAny P md ops Q fuel listed a w
 | 0,_,_,_,h=>h
 | fuel+1,_,_,_,h=>⟨h.1,fun i hi=>wpOp_mono (fun a' w' h'=>Z8c fuel _ a' w' h'.2) (h.2 i hi)⟩
def behind (md:Region.Mode) (ops:Array Oper) (i:Nat) (ks:List Nat):Bool:=
 ks.all fun k=>match ops[k]? with | none=>false | some o=>o.after.any fun e=>Region.binds md e&&(e.on==i||ks.contains e.on)
def Unl (ks:List Nat) (L:Array Bool):Prop:=∀ k∈ks,L.getD k true=false
theorem Z6j {L:Array Bool} {k:Nat} (h1:L.getD k true=false) (h2:L.getD k false=true):False:=by
 rcases Nat.lt_or_ge k L.size with h | h
 ·simp [h] at h1 h2
  rw [h1] at h2;cases h2
 ·simp [Array.getElem?_eq_none h] at h1
theorem Unl.step {i j:Nat} {ks:List Nat} {L:Array Bool} (hks:behind md ops i ks=true) (h:Unl ks L) (hi:L.getD i true=false) (hj:j∈Region.ready md ops L):Unl ks (L.setIfInBounds j true):=fun k hk=>by
 by_cases e:j=k
 ·subst e
  obtain ⟨_,o,ho,hall⟩:=mem_ready.1 hj;have h1:=List.all_eq_true.1 hks j hk;rw [ho] at h1;obtain ⟨e,he,hb⟩:=Array.any_eq_true'.1 h1;simp only [Bool.and_eq_true,Bool.or_eq_true,beq_iff_eq,List.contains_iff_mem] at hb;have h2:=hall e he hb.1;rcases hb.2 with h3 | h3
  ·rw [h3] at h2
   exact (Z6j hi h2).elim
  ·exact (Z6j (h _ h3) h2).elim
 ·rw [getD_set_ne true e]
  exact h k hk
theorem ZaM {i:Nat} {oi:Oper} {v:Value} (hi:ops[i]?=some oi) (hsel: ∀(j:Nat) (o:Oper) cs b,ops[j]?=some o→o.op≠ .select cs b)
  (hQ: ∀c a w,Q (.panic c) (a.put oi.dst v) w→Q (.panic c) a w) (ks:List Nat) (hks:behind md ops i ks=true) (hT: ∀L w,T (L.setIfInBounds i true) w↔T L w):
  ∀(fuel:Nat) (listed:Array Bool) (a:Act) (w:World),
   (∀j oj,ops[j]?=some oj→j≠i→listed.getD j true=false→(∀e∈oj.after,Region.binds md e=true→e.on≠i)→oi.apart ops oj=true)→
   i∈Region.ready md ops listed→Unl ks listed→YieldsIf P ops (fun w=> ∃L,Unl ks L∧T L w) oi v a→T listed w→
   Z1a P md ops Q T fuel (listed.setIfInBounds i true) (a.put oi.dst v) w→Z1a P md ops Q T (fuel+1) listed a w:=by
 intro fuel
 induction fuel with
 | zero=>
  intro listed a w _ hr hu hy hS H;refine ⟨fun h=>(by rw [h] at hr;cases hr),fun j hj=> ?_⟩
  by_cases hji:j=i
  ·subst hji
   exact hy.wpOp hi ⟨_,hu,hS⟩ ⟨(hT _ _).2 hS,H⟩
  ·have:=ready_mono hj hji
   rw [H.1] at this;cases this
 | succ fuel ih=>
  intro listed a w hfree hr hu hy hS H;refine ⟨fun h=>(by rw [h] at hr;cases hr),fun j hj=> ?_⟩
  by_cases hji:j=i
  ·subst hji
   exact hy.wpOp hi ⟨_,hu,hS⟩ ⟨(hT _ _).2 hS,H⟩
  ·have h1:=H.2 j (ready_mono hj hji)
   obtain ⟨hjun,oj,hoj,hall⟩:=mem_ready.1 hj;have h0:=(mem_ready.1 hr).1;have hnot: ∀e∈oj.after,Region.binds md e=true→e.on≠i:=fun e he hb heq=>by
    have h1:=hall e he hb;rw [heq] at h1;exact Z6j h0 h1
   have h2:=wpOp_putIf hoj (hfree j oj hoj hji hjun hnot) (fun cs b=>hsel i oi cs b hi) (fun cs b=>hsel j oj cs b hoj) hQ hy h1;have hfree': ∀k ok,ops[k]?=some ok→k≠i→(listed.setIfInBounds j true).getD k true=false→
     (∀e∈ok.after,Region.binds md e=true→e.on≠i)→oi.apart ops ok=true:=fun k ok hk hki hun hno=>by
    refine hfree k ok hk hki ?_ hno
    by_cases hjk:j=k
    ·subst hjk
     exact hjun
    ·rw [getD_set_ne true hjk] at hun
     exact hun
   refine wpOp_mono (fun a' w' h3=> ?_) h2;obtain ⟨h4,h5,h6⟩:=h3;rw [Array.setIfInBounds_comm _ _ (Ne.symm hji)] at h5 h6;have h7:=(hT _ _).1 h5;exact ⟨h7,ih (listed.setIfInBounds j true) a' w' hfree' (ready_mono hr (Ne.symm hji)) (hu.step hks h0 hj) h4 h7 h6⟩
theorem Z6H {i:Nat} {oi:Oper} {v:Value} {fuel:Nat} {listed:Array Bool} {a:Act} {w:World} (ks:List Nat) (hi:ops[i]?=some oi)
  (hs:Region.noSelect ops=true) (hf:Region.free md ops listed i=true) (hr:(Region.ready md ops listed).contains i=true) (hks:behind md ops i ks=true) (hu:ks.all (fun k=> !listed.getD k true)=true)
  (hQ: ∀c a w,Q (.panic c) (a.put oi.dst v) w→Q (.panic c) a w) (hT: ∀L w,T (L.setIfInBounds i true) w↔T L w) (hy:YieldsIf P ops (fun w=> ∃L,Unl ks L∧T L w) oi v a) (hS:T listed w)
  (h:Z1a P md ops Q T fuel (listed.setIfInBounds i true) (a.put oi.dst v) w):Z1a P md ops Q T (fuel+1) listed a w:=
 ZaM hi (Region.noSelect_spec hs) hQ ks hks hT fuel listed a w (Region.free_spec hi hf) (by simpa using hr) (fun k hk=>by simpa using List.all_eq_true.1 hu k hk) hy hS h
def Till (S:World→Prop) (k:Nat) (L:Array Bool) (w:World):Prop:=L.getD k true=false→S w
theorem Zcy {S:World→Prop} {k i:Nat} (h:i≠k) (L:Array Bool) (w:World):Till S k (L.setIfInBounds i true) w↔Till S k L w:=by
 unfold Till;rw [getD_set_ne true h]
theorem Z9T {S:World→Prop} {k:Nat} {i:Nat} {oi:Oper} {v:Value} {fuel:Nat} {listed:Array Bool} {a:Act} {w:World} (ks:List Nat) (hi:ops[i]?=some oi)
  (hs:Region.noSelect ops=true) (hf:Region.free md ops listed i=true) (hr:(Region.ready md ops listed).contains i=true) (hks:behind md ops i ks=true) (hu:ks.all (fun k=> !listed.getD k true)=true) (hk:k∈ks) (hik:i≠k)
  (hQ: ∀c a w,Q (.panic c) (a.put oi.dst v) w→Q (.panic c) a w) (hy:YieldsIf P ops S oi v a) (hS:Till S k listed w)
  (h:Z1a P md ops Q (Till S k) fuel (listed.setIfInBounds i true) (a.put oi.dst v) w):Z1a P md ops Q (Till S k) (fuel+1) listed a w:=
 Z6H ks hi hs hf hr hks hu hQ (Zcy hik) (hy.imp (fun ⟨h1,h2⟩=>⟨h1,fun w ⟨_,h3,h4⟩=>h2 w (h4 (h3 k hk))⟩) id) hS h
theorem Zy {S:World→Prop} {k:Nat} {i:Nat} {oi:Oper} {v:Value} {fuel:Nat} {listed:Array Bool} {a:Act} {w:World} (hi:ops[i]?=some oi)
  (hs:Region.noSelect ops=true) (hf:Region.free md ops listed i=true) (hr:(Region.ready md ops listed).contains i=true) (hik:i≠k)
  (hQ: ∀c a w,Q (.panic c) (a.put oi.dst v) w→Q (.panic c) a w) (hy:YieldsIf P ops (fun _=>True) oi v a) (hS:Till S k listed w)
  (h:Z1a P md ops Q (Till S k) fuel (listed.setIfInBounds i true) (a.put oi.dst v) w):Z1a P md ops Q (Till S k) (fuel+1) listed a w:=
 Z6H [] hi hs hf hr rfl rfl hQ (Zcy hik) (hy.imp (fun ⟨h1,h2⟩=>⟨h1,fun w _=>h2 w trivial⟩) id) hS h
def AllReadyT (P:Program) (md:Region.Mode) (ops:Array Oper) (Q:Exit→Act→World→Prop) (T:Array Bool→World→Prop) (fuel:Nat) (listed:Array Bool) (a:Act) (w:World) (rs:List Nat):Prop:=
 ∀i∈rs,wpOp P ops Q i (fun a' w'=>T (listed.setIfInBounds i true) w'∧Z1a P md ops Q T fuel (listed.setIfInBounds i true) a' w') a w
theorem AllReadyT.nil {fuel:Nat} {listed:Array Bool} {a:Act} {w:World}:AllReadyT P md ops Q T fuel listed a w []:=fun _ h=>by cases h
theorem AllReadyT.cons {fuel:Nat} {listed:Array Bool} {a:Act} {w:World} {i:Nat} {o:Oper} {rs:List Nat} (ho:ops[i]?=some o)
  (h: ∀K':Act→World→Prop,Shut (∀a w,T (listed.setIfInBounds i true) w→(T (listed.setIfInBounds i true) w→Z1a P md ops Q T fuel (listed.setIfInBounds i true) a w)→K' a w)→if Region.wanted o (yielded ops a.tmps)=true then Oper.wp P o a w K' Q else K' (a.put o.dst undef) w)
  (hs:AllReadyT P md ops Q T fuel listed a w rs):AllReadyT P md ops Q T fuel listed a w (i::rs):=fun j hj=>by
 rcases List.mem_cons.1 hj with rfl | hj
 ·exact wpOp_step ho (fun K' hK=>h K' (fun a w hS hW=>hK a w ⟨hS,hW hS⟩))
 ·exact hs j hj
theorem ZA {rs:List Nat} {fuel:Nat} {listed:Array Bool} {a:Act} {w:World} (hr:Region.ready md ops listed=rs) (hne:rs≠[])
  (h:AllReadyT P md ops Q T fuel listed a w rs):Z1a P md ops Q T (fuel+1) listed a w:=⟨fun h0=>absurd (hr▸h0) hne,hr▸h⟩
theorem Z42 {listed:Array Bool} {a:Act} {w:World} (hr:Region.ready md ops listed=[]) (h:Q .normal a w): ∀fuel,Z1a P md ops Q T fuel listed a w
 | 0=>⟨hr,h⟩
 | _+1=>⟨fun _=>h,by rw [hr];simp⟩
theorem Zcz {id:Nat} {a:Act} {w:World} (hm:P.follows .mixedOrders=true) (hS:T (Array.replicate ops.size false) w.drew)
  (h:T (Array.replicate ops.size false) w.drew→Z1a P .any ops Q T ops.size (Array.replicate ops.size false) a w.drew):(Code.region id ops true).wp P Q a w:=
 wp_region_any hm (Z8c _ _ _ _ (h hS))
end
end Go.Dol
