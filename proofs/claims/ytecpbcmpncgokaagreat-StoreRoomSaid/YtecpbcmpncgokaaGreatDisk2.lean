/- What layer 'pack' computes, in plain Lean: how each object is kept behind the one ahead, a pack's bytes, and which pack bytes are. No program is in sight. Conditions: none. A map of the call's own: an entry is taken away; what turns two blocks alone. Conditions: none beyond what each law names. What the layer 'disk' computes, in plain Lean: files in order of their names; what is laid, taken away, renamed; room. No program is in sight. Conditions: none beyond what each lemma names. The layer 'disk': how a disk lies in memory, and what its map of files answers. Conditions: none beyond what each law names. The walks of the layer 'disk', its first part: which names may be. Conditions: lengths below 2^47. -/
import Derived.Test.YtecpbcmpncgokaaGreatSumA
import Derived.Test.YtecpbcmpncgokaaGreatShelfA
import Derived.Test.YtecpbcmpncgokaaGreatObjA
import Derived.Test.YtecpbcmpncgokaaGreatShort
import Derived.Test.YtecpbcmpncgokaaGreatWordsA
import Derived.Laws.Cover1
import Derived.StringKeys
set_option linter.unusedVariables false
namespace Go.Dol
def magicL:LU:=[68,80,75,49]
def Zd (ge:BA→BA→Bool) (raw:LU):Bool:=(decO ge raw).isSome
def Z3y (raw:LU):Nat×LU:=if (Zt raw).length<raw.length then (1,Zt raw) else (0,raw)
def Z3k (prev:LU) (depth:Nat) (raw:LU):Bool:=decide (0<prev.length)&&(decide (prev.head?=raw.head?)&&decide (depth<7))
def Z01 (prev:LU) (depth:Nat) (raw:LU):Nat×LU:=
  if Z3k prev depth raw=true∧(encL prev raw).length<(Z3y raw).2.length then (2,encL prev raw) else Z3y raw
def Z0g (depth kind:Nat):Nat:=if kind=2 then depth+1 else 0
def Z6E (raw:LU) (kb:Nat×LU):LU:=ZC raw++(UInt8.ofNat kb.1::text kb.2)
def Z1v:LU→Nat→List (LU)→LU
  | _,_,[]=>[]
  | prev,d,r::rs=>Z6E r (Z01 prev d r)++Z1v r (Z0g d (Z01 prev d r).1) rs
def Z0L (rs:List (LU)):LU:=magicL++(num rs.length++Z1v [] 0 rs)
def Z6e (ge:BA→BA→Bool) (rs:List (LU)):Prop:=rs.length≤4096∧(∀r∈rs,Zd ge r=true)∧(rs.map ZC).Nodup
instance (ge:BA→BA→Bool) (rs:List (LU)):Decidable (Z6e ge rs):=by unfold Z6e;infer_instance
def ZZ (ge:BA→BA→Bool) (rs:List (LU)):Option (LU):=if Z6e ge rs then some (Z0L rs++ZC (Z0L rs)) else none
structure Pt where
  id:LU
  kind:Nat
  depth:Nat
  size:Nat
  raw:LU
def Z11 (prev:LU) (depth kind:Nat) (b:LU):Option (LU):=
  if kind=0 then some b else if kind=1 then Z2o b 2097152 else if kind=2 then (if 0<prev.length∧depth<7 then Z1T prev b 2097152 else none) else none
def Z1g (ge:BA→BA→Bool) (most:Int) (prev:LU) (depth:Nat) (l:LU):Option (Pt×LU):=
  match l.drop 32 with
  | []=>none
  | k::q=>match ZE q most with
    | none=>none
    | some (t,rest)=>match Z11 prev depth k.toNat t with
      | none=>none
      | some raw=>if ZC raw=l.take 32∧Zd ge raw=true then some (⟨l.take 32,k.toNat,Z0g depth k.toNat,t.length,raw⟩,rest) else none
def ZD (ge:BA→BA→Bool):Nat→LU→Nat→LU→Option (List Pt×LU)
  | 0,_,_,l=>some ([],l)
  | n+1,prev,d,l=>match Z1g ge 1099511627776 prev d l with
    | none=>none
    | some (p,rest)=>match ZD ge n p.raw p.depth rest with
      | none=>none
      | some (ps,r)=>some (p::ps,r)
def Z0M (ge:BA→BA→Bool) (b:LU):Option (List Pt):=
  if b.length<36∨b.take 4≠magicL∨ZC (b.take (b.length-32))≠b.drop (b.length-32) then none else
  match Z3 ((b.take (b.length-32)).drop 4) with
  | none=>none
  | some (n,p)=>if 4096<n then none else
    match ZD ge n [] 0 p with
    | none=>none
    | some (ps,r)=>if r=[]∧(ps.map (·.id)).Nodup then some ps else none
def Z3z:LU→Nat→List (LU)→List Pt
  | _,_,[]=>[]
  | prev,d,r::rs=>⟨ZC r,(Z01 prev d r).1,Z0g d (Z01 prev d r).1,(Z01 prev d r).2.length,r⟩::Z3z r (Z0g d (Z01 prev d r).1) rs
theorem Z51 (raw:LU):(Z3y raw).1=0∧(Z3y raw).2=raw∨(Z3y raw).1=1∧(Z3y raw).2=Zt raw:=by
  unfold Z3y;split
  · exact .inr ⟨rfl,rfl⟩
  · exact .inl ⟨rfl,rfl⟩
theorem Z9M (raw:LU):(Z3y raw).2.length≤raw.length:=by
  unfold Z3y;split
  · simp only;omega
  · exact lR _
theorem Z4w (prev:LU) (d:Nat) (raw:LU):(Z01 prev d raw).2.length≤raw.length:=by
  have:=Z9M raw;unfold Z01;split
  · rename_i h;simp only;omega
  · exact this
theorem Z7W (prev:LU) (d:Nat) (raw:LU):(Z01 prev d raw).1≤2:=by
  unfold Z01;split
  · exact lR 2
  · rcases Z51 raw with h | h<;>rw [h.1]<;>omega
theorem Z7X {prev:LU} {d:Nat} {raw:LU}:Z3k prev d raw=true↔0<prev.length∧prev.head?=raw.head?∧d<7:=by
  unfold Z3k;simp
theorem Zcc {prev:LU} {d:Nat} {raw:LU} (hd:d≤7):Z0g d (Z01 prev d raw).1≤7:=by
  unfold Z0g;split
  · rename_i h
    unfold Z01 at h;split at h
    · rename_i h2;have:=Z7X.1 h2.1;omega
    · rcases Z51 raw with h3 | h3<;>rw [h3.1] at h<;>omega
  · omega
theorem Zfu {prev:LU} {d:Nat} {raw:LU} (hp:prev.length≤2097152) (hr:raw.length≤2097152):Z11 prev d (Z01 prev d raw).1 (Z01 prev d raw).2=some raw:=by
  unfold Z01;split
  · rename_i h
    have h1:=Z7X.1 h.1;unfold Z11;rw [if_neg (by simp),if_neg (by simp),if_pos rfl,if_pos ⟨h1.1,h1.2.2⟩];rw [Zf2 (by unfold Z02;omega) (by unfold Z02;omega),if_pos (by omega)]
  · rcases Z51 raw with h3 | h3
    · rw [h3.1,h3.2];rfl
    · rw [h3.1,h3.2]
      unfold Z11;rw [if_neg (by simp),if_pos rfl,Z88 (by unfold Z02;omega),if_pos (by omega)]
theorem Z7Y (raw:LU) (kb:Nat×LU) (l:LU):(Z6E raw kb++l).take 32=ZC raw∧(Z6E raw kb++l).drop 32=UInt8.ofNat kb.1::(text kb.2++l):=by
  have h:=ZX raw;unfold Z6E;rw [List.append_assoc];constructor
  · rw [←h,List.take_left]
  · rw [←h,List.drop_left,List.cons_append]
theorem ZgQ {ge:BA→BA→Bool} {prev:LU} {d:Nat} {raw:LU} (l:LU) {most:Int} (hp:prev.length≤2097152) (hr:raw.length≤2097152) (ho:Zd ge raw=true) (hm:(Z01 prev d raw).2.length≤most):
    Z1g ge most prev d (Z6E raw (Z01 prev d raw)++l)=some (⟨ZC raw,(Z01 prev d raw).1,Z0g d (Z01 prev d raw).1,(Z01 prev d raw).2.length,raw⟩,l):=by
  have hk:=Z7W prev d raw;have hl:=Z4w prev d raw;have hkn:(UInt8.ofNat (Z01 prev d raw).1).toNat=(Z01 prev d raw).1:=by rw [UInt8.toNat_ofNat'];omega
  unfold Z1g;rw [(Z7Y _ _ _).1,(Z7Y _ _ _).2];simp only;rw [Z2D _ _ _ hm (by unfold Zb;omega)];simp only;rw [hkn,Zfu hp hr];simp only;rw [if_pos ⟨trivial,ho⟩]
theorem Z7Z {ge:BA→BA→Bool} (hs: ∀r,Zd ge r=true→r.length≤2097152): ∀(rs:List (LU)) (prev:LU) (d:Nat),prev.length≤2097152→(∀r∈rs,Zd ge r=true)→
    ZD ge rs.length prev d (Z1v prev d rs)=some (Z3z prev d rs,[])
  | [],_,_,_,_=>rfl
  | r::rs,prev,d,hp,ho=>by
    have h1:=ho r (List.mem_cons_self ..);have h2:=hs r h1;have hl:=Z4w prev d r;rw [List.length_cons,Z1v,ZD,ZgQ (ge:=ge) _ hp h2 h1 (by omega)];simp only;rw [Z7Z hs rs r _ h2 fun q hq=>ho q (List.mem_cons_of_mem _ hq)]
    rfl
theorem Z5B: ∀(rs:List (LU)) (prev:LU) (d:Nat),(Z3z prev d rs).map (·.id)=rs.map ZC
  | [],_,_=>rfl
  | r::rs,prev,d=>by rw [Z3z,List.map_cons,List.map_cons,Z5B rs]
theorem Zcd: ∀(rs:List (LU)) (prev:LU) (d:Nat),(Z3z prev d rs).map (·.raw)=rs
  | [],_,_=>rfl
  | r::rs,prev,d=>by rw [Z3z,List.map_cons,Zcd rs]
theorem Z2F:magicL.length=4:=rfl
theorem Z3V {ge:BA→BA→Bool} (hs: ∀r,Zd ge r=true→r.length≤2097152) {rs:List (LU)} {b:LU} (h:ZZ ge rs=some b):Z0M ge b=some (Z3z [] 0 rs):=by
  unfold ZZ at h;split at h
  · rename_i hok
    obtain ⟨h1,h2,h3⟩:=hok;injection h with h
    have hsl:=ZX (Z0L rs);have hbl:4≤(Z0L rs).length:=by unfold Z0L;rw [List.length_append,Z2F];omega
    have e1:b.length-32=(Z0L rs).length:=by rw [←h,List.length_append,hsl];omega
    have e2:b.take (Z0L rs).length=Z0L rs:=by rw [←h,List.take_left]
    have e3:b.drop (Z0L rs).length=ZC (Z0L rs):=by rw [←h,List.drop_left]
    have e4:b.take 4=magicL:=by
      have:b.take 4=((b.take (Z0L rs).length).take 4):=by rw [List.take_take,Nat.min_eq_left hbl]
      rw [this,e2];unfold Z0L;show List.take magicL.length _=_
      exact List.take_left
    have e5:(Z0L rs).drop 4=num rs.length++Z1v [] 0 rs:=by unfold Z0L;show List.drop magicL.length _=_;exact List.drop_left
    have e6:b.length=(Z0L rs).length+32:=by rw [←h,List.length_append,hsl]
    unfold Z0M;rw [e1,e2,e3,e4,e5,if_neg (by simp;omega),ZI _ _ (by unfold Zb;omega)];simp only;rw [if_neg (by omega),Z7Z hs rs [] 0 (by simp) h2];simp only;rw [if_pos ⟨trivial,by rw [Z5B];exact h3⟩]
  · cases h
theorem Z6f (size:Nat): ∀(f:Nat) (out p r:LU),Z2W size f out p=some r→out.length≤size→p.length≤19*(size-out.length)∧r.length=size
  | f,out,[],r,h,ho=>by
    have h':(if out.length=size then some out else none)=some r:=by cases f<;>exact h
    split at h'
    · rename_i e;injection h' with h';subst h';exact ⟨by simp,e⟩
    · cases h'
  | 0,out,c::q,r,h,ho=>by cases h
  | f+1,out,c::q,r,h,ho=>by
    unfold Z2W at h
    cases ht:Z3 (c::q) with
    | none=>rw [ht] at h;cases h
    | some x=>
      obtain ⟨t,rest⟩:=x;have h9:=Zw ht;have hn:=Z5 8 t (by have:=h9.2;unfold Zb at this;omega);have hlen:(c::q).length=(num t).length+rest.length:=by rw [h9.1,List.length_append]
      rw [ht] at h;simp only at h;split at h
      · split at h
        · rename_i h2
          have:=Z6f size f _ _ _ h (by rw [List.length_append,List.length_take];omega);rw [List.length_append,List.length_take,List.length_drop] at this;omega
        · cases h
      · cases hd:Z3 rest with
        | none=>rw [hd] at h;cases h
        | some y=>
          obtain ⟨d,rest2⟩:=y;have h8:=Zw hd;have hm:=Z5 8 d (by have:=h8.2;unfold Zb at this;omega);have hlen2:rest.length=(num d).length+rest2.length:=by rw [h8.1,List.length_append]
          rw [hd] at h;simp only at h;split at h
          · rename_i h2
            have:=Z6f size f _ _ _ h (by rw [Z25];omega);rw [Z25] at this;omega
          · cases h
theorem Z4x {p r:LU} {most:Int} (h:Z2o p most=some r):p.length≤19*r.length+9∧(r.length:Int)≤most:=by
  unfold Z2o at h
  cases ht:Z3 p with
  | none=>rw [ht] at h;cases h
  | some x=>
    obtain ⟨size,rest⟩:=x;have h9:=Zw ht;have hn:=Z5 8 size (by have:=h9.2;unfold Zb at this;omega);have hlen:p.length=(num size).length+rest.length:=by rw [h9.1,List.length_append]
    rw [ht] at h;simp only at h;split at h
    · rename_i h2
      have:=Z6f size _ [] rest r h (by simp);simp only [List.length_nil] at this;omega
    · cases h
theorem ZdG (base:LU) (size:Nat): ∀(f:Nat) (out p r:LU),dF base size f out p=some r→out.length≤size→p.length≤19*(size-out.length)∧r.length=size
  | f,out,[],r,h,ho=>by
    have h':(if out.length=size then some out else none)=some r:=by cases f<;>exact h
    split at h'
    · rename_i e;injection h' with h';subst h';exact ⟨by simp,e⟩
    · cases h'
  | 0,out,c::q,r,h,ho=>by cases h
  | f+1,out,c::q,r,h,ho=>by
    unfold dF at h
    cases ht:Z3 (c::q) with
    | none=>rw [ht] at h;cases h
    | some x=>
      obtain ⟨t,rest⟩:=x;have h9:=Zw ht;have hn:=Z5 8 t (by have:=h9.2;unfold Zb at this;omega);have hlen:(c::q).length=(num t).length+rest.length:=by rw [h9.1,List.length_append]
      rw [ht] at h;simp only at h;split at h
      · split at h
        · rename_i h2
          have:=ZdG base size f _ _ _ h (by rw [List.length_append,List.length_take];omega);rw [List.length_append,List.length_take,List.length_drop] at this;omega
        · cases h
      · cases hd:Z3 rest with
        | none=>rw [hd] at h;cases h
        | some y=>
          obtain ⟨d,rest2⟩:=y;have h8:=Zw hd;have hm:=Z5 8 d (by have:=h8.2;unfold Zb at this;omega);have hlen2:rest.length=(num d).length+rest2.length:=by rw [h8.1,List.length_append]
          rw [hd] at h;simp only at h;split at h
          · rename_i h2
            have hl:((base.drop d).take (t/2+1)).length=t/2+1:=by rw [List.length_take,List.length_drop];omega
            have:=ZdG base size f _ _ _ h (by rw [List.length_append,hl];omega);rw [List.length_append,hl] at this;omega
          · cases h
theorem Z80 {base p r:LU} {most:Int} (h:Z1T base p most=some r):p.length≤19*r.length+18∧(r.length:Int)≤most:=by
  unfold Z1T at h
  cases ht:Z3 p with
  | none=>rw [ht] at h;cases h
  | some x=>
    obtain ⟨n,q⟩:=x;have h9:=Zw ht;have hn:=Z5 8 n (by have:=h9.2;unfold Zb at this;omega);have hlen:p.length=(num n).length+q.length:=by rw [h9.1,List.length_append]
    rw [ht] at h;simp only at h;split at h
    · cases hd:Z3 q with
      | none=>rw [hd] at h;cases h
      | some y=>
        obtain ⟨size,rest⟩:=y;have h8:=Zw hd;have hm:=Z5 8 size (by have:=h8.2;unfold Zb at this;omega);have hlen2:q.length=(num size).length+rest.length:=by rw [h8.1,List.length_append]
        rw [hd] at h;simp only at h;split at h
        · rename_i h2
          have:=ZdG base size _ [] rest r h (by simp);simp only [List.length_nil] at this;omega
        · cases h
    · cases h
theorem Zfv {ge:BA→BA→Bool} (hs: ∀r,Zd ge r=true→r.length≤2097152) {prev:LU} {d k:Nat} {t raw:LU} (h:Z11 prev d k t=some raw) (ho:Zd ge raw=true):t.length≤1099511627776:=by
  have hr:=hs raw ho;unfold Z11 at h;split at h
  · injection h with h;subst h;omega
  · split at h
    · have:=(Z4x h).1;omega
    · split at h
      · split at h
        · have:=(Z80 h).1;omega
        · cases h
      · cases h
theorem Z1C {q:LU} {m m2:Int} {t rest:LU} (h:ZE q m=some (t,rest)) (hm:(t.length:Int)≤m2):ZE q m2=some (t,rest):=by
  obtain ⟨rfl,_,h3⟩:=Z0c h;exact Z2D t rest m2 hm h3
theorem ZgR {ge:BA→BA→Bool} (hs: ∀r,Zd ge r=true→r.length≤2097152) (prev:LU) (d:Nat) (l:LU):Z1g ge l.length prev d l=Z1g ge 1099511627776 prev d l:=by
  unfold Z1g
  cases hl:l.drop 32 with
  | nil=>rfl
  | cons k q=>
    simp only;have hq:q.length≤l.length:=by
      have:(l.drop 32).length=q.length+1:=by rw [hl];rfl
      rw [List.length_drop] at this;omega
    cases h1:ZE q l.length with
    | some x=>
      obtain ⟨t,rest⟩:=x;simp only
      cases h3:Z11 prev d k.toNat t with
      | none=>
        cases h2:ZE q 1099511627776 with
        | none=>rfl
        | some y=>
          obtain ⟨t2,rest2⟩:=y;obtain ⟨e1,e2,e3⟩:=Z0c h2;have:=Z1C h2 (m2:=l.length) (by have:=congrArg List.length e1;rw [List.length_append] at this;unfold text at this;rw [List.length_append] at this;omega);rw [h1] at this;obtain ⟨rfl,rfl⟩:=Prod.mk.inj (Option.some.inj this);simp only;rw [h3]
      | some raw=>
        by_cases hc:ZC raw=l.take 32∧Zd ge raw=true
        · rw [Z1C h1 (by have:=Zfv hs h3 hc.2;omega)]
          simp only;rw [h3]
        · simp only
          rw [if_neg hc]
          cases h2:ZE q 1099511627776 with
          | none=>rfl
          | some y=>
            obtain ⟨t2,rest2⟩:=y;obtain ⟨e1,e2,e3⟩:=Z0c h2;have:=Z1C h2 (m2:=l.length) (by have:=congrArg List.length e1;rw [List.length_append] at this;unfold text at this;rw [List.length_append] at this;omega);rw [h1] at this;obtain ⟨rfl,rfl⟩:=Prod.mk.inj (Option.some.inj this);simp only;rw [h3];simp only;rw [if_neg hc]
    | none=>
      cases h2:ZE q 1099511627776 with
      | none=>rfl
      | some y=>
        obtain ⟨t2,rest2⟩:=y;obtain ⟨e1,e2,e3⟩:=Z0c h2;have:=Z1C h2 (m2:=l.length) (by have:=congrArg List.length e1;rw [List.length_append] at this;unfold text at this;rw [List.length_append] at this;omega);rw [h1] at this;cases this
end Go.Dol
set_option linter.unusedVariables false
namespace Go.Dol
open Go.RowKit Go.MapKept
open Go.Maps (Keyed)
open Go.ChangeMaps (setBlock heap_setBlock_same heap_setBlock_other modify_eq_set)
def MDel (al:List (Value×Value)) (key:Value) (al':List (Value×Value)):Prop:=
 ((∀p∈al,p.1≠key)∧al'=al)∨ ∃l r v0,al=l++(key,v0)::r∧al'=l++r
section
variable {P:Program} {k e t:TypeId} {w w':World} {B:Nat} {al:List (Value×Value)}
theorem MapL.drop (h:MapL P k w B al) (K:Keyed P k) (ht:P.underlying t=some (.map k e)) {key:Value} {kl:Lit} (hkey:keyOf P k key=some kl) (ty:TypeId):
  ∃al' w',(Builtin.delete_ #[t,k] ty #[.map (some B),key]).run P w= .ok (.tuple #[]) w'∧MapL P k w' B al'∧MDel al key al'∧w.grownBy w' (some B):=by
 obtain ⟨es,clock,hb,hs,hk,rfl⟩:=h;rcases K.find w hkey es.toList hk with ⟨h1,h2⟩ | ⟨j,e0,h1,h2,h3⟩
 ·refine ⟨_,setBlock w B (.map es clock),?_,⟨es,clock,heap_setBlock_same hb _,hs,hk,rfl⟩,.inl ⟨?_,rfl⟩,Z00 hb _⟩
  ·simp [Builtin.delete_,run_underlying ht,MapKept.run_getObj_map hb,K.check w _ hkey,h1,MapKept.run_setObj_map _ hb,Result.andThen,setBlock]
  ·intro p hp
   obtain ⟨x,hx,rfl⟩:=List.mem_map.1 hp;exact h2 x hx
 ·have hjl:j<es.toList.length:=(List.getElem?_eq_some_iff.1 h2).1
  have hjs:j<es.size:=by simpa using hjl
  have hsub:(es.eraseIdxIfInBounds j).toList=es.toList.eraseIdx j:=by
   unfold Array.eraseIdxIfInBounds;rw [dif_pos hjs];simp
  refine ⟨_,setBlock w B (.map (es.eraseIdxIfInBounds j) clock),?_,⟨es.eraseIdxIfInBounds j,clock,heap_setBlock_same hb _,stamped_erase hs j,?_,rfl⟩,.inr ⟨(es.toList.take j).map (fun e=>(e.key,e.val)),(es.toList.drop (j+1)).map (fun e=>(e.key,e.val)),e0.val,?_,?_⟩,Z00 hb _⟩
  ·simp [Builtin.delete_,run_underlying ht,MapKept.run_getObj_map hb,K.check w _ hkey,h1,MapKept.run_setObj_map _ hb,Result.andThen,setBlock]
  ·intro x hx
   rw [hsub] at hx;exact hk x ((List.eraseIdx_sublist _ _).subset hx)
  ·have:=List.take_append_drop j es.toList
   rw [List.drop_eq_getElem_cons hjl,(List.getElem?_eq_some_iff.1 h2).2] at this;rw [←h3]
   conv=>lhs;rw [←this]
   simp
  ·rw [hsub,List.eraseIdx_eq_take_drop_succ]
   simp
end
structure Tw (w w':World) (g m:Nat):Prop where
 os:w'.os=w.os
 tape:w'.tape=w.tape
 output:w'.output=w.output
 size:w.heap.size≤w'.heap.size
 block: ∀i,i<w.heap.size→i≠g→i≠m→w'.heap[i]?=w.heap[i]?
section
variable {w w1 w':World} {g m B:Nat}
theorem Tw.refl (w:World) (g m:Nat):Tw w w g m:=⟨rfl,rfl,rfl,lR _,fun _ _ _ _=>rfl⟩
theorem Tw.step (h:Tw w w1 g m) (h2:Tw w1 w' g m):Tw w w' g m:=
 ⟨h2.os.trans h.os,h2.tape.trans h.tape,h2.output.trans h.output,lT h.size h2.size,fun i hi h3 h4=>(h2.block i (Nat.lt_of_lt_of_le hi h.size) h3 h4).trans (h.block i hi h3 h4)⟩
theorem Tw.grown (h:w.grownBy w' (some g)):Tw w w' g m:=⟨h.os,h.tape,h.output,h.size,fun i hi h1 _=>h.block i hi (fun e=>h1 (by injection e))⟩
theorem Tw.grownM (h:w.grownBy w' (some m)):Tw w w' g m:=⟨h.os,h.tape,h.output,h.size,fun i hi _ h1=>h.block i hi (fun e=>h1 (by injection e))⟩
theorem Tw.below (h:Below w.heap.size w w'):Tw w w' g m:=⟨h.os,h.tape,h.output,h.size,fun i hi _ _=>h.block i hi⟩
theorem Tw.toBelow (h:Tw w w' g m) (hg:B≤g) (hm:B≤m) (hB:B≤w.heap.size):Below B w w':=
 ⟨h.os,h.tape,h.output,h.size,fun k hk=>h.block k (by omega) (by omega) (by omega)⟩
theorem Tw.new {w0:World} (h0:Below w0.heap.size w0 w) (h:Tw w w' g m) (hg:w0.heap.size≤g) (hm:w0.heap.size≤m):Below w0.heap.size w0 w':=h0.trans (h.toBelow hg hm h0.size)
theorem Tw.drew (h:Tw w w' g m):Tw w w'.drew g m:=⟨h.os,h.tape,h.output,h.size,h.block⟩
end
end Go.Dol
set_option linter.unusedVariables false
namespace Go.Dol
open Go.RowKit
abbrev Fil:=BA×LU
def sLt (a b:BA):Bool:=decide (a.data.toList<b.data.toList)
theorem Z3F {a b:BA} (h:a.data.toList=b.data.toList):a=b:=by
 cases a;cases b
 congr 1
 exact Array.toList_inj.1 h
theorem Z7A (a:BA):sLt a a=false:=by
 unfold sLt;exact qF (List.lt_irrefl _)
theorem Z9p {a b c:BA} (h1:sLt a b=true) (h2:sLt b c=true):sLt a c=true:=by
 unfold sLt at*;exact dT (List.lt_trans (of_decide_eq_true h1) (of_decide_eq_true h2))
theorem Zf9 {a b:BA} (h1:sLt a b=false) (hne:a≠b):sLt b a=true:=by
 unfold sLt at*;have h:=of_decide_eq_false h1;refine dT ?_;rcases Decidable.em (b.data.toList<a.data.toList) with hb | hb
 ·exact hb
 ·exact absurd (Z3F (List.le_antisymm (List.not_lt.1 hb) (List.not_lt.1 h))) hne
theorem Zfa {a b:BA} (h1:sLt a b=true):sLt b a=false:=by
 cases h:sLt b a with
 | false=>rfl
 | true=>
  have:=Z9p h1 h;rw [Z7A] at this;cases this
theorem Z5Y {a b:BA} (h1:sLt a b=true):a≠b:=by
 rintro rfl;rw [Z7A] at h1;cases h1
def Z4 (s:BA):Bool:=decide (1≤s.size)&&decide (s.size≤200)&& !s.data.toList.contains 0
def Z1:List Fil→BA→Option (LU)
 | [],_=>none
 | f::r,n=>if sLt f.1 n=true then Z1 r n else if f.1=n then some f.2 else none
def putF:List Fil→BA→LU→List Fil
 | [],n,b=>[(n,b)]
 | f::r,n,b=>if sLt f.1 n=true then f::putF r n b else if f.1=n then (n,b)::r else (n,b)::f::r
def Zr:List Fil→BA→List Fil
 | [],_=>[]
 | f::r,n=>if sLt f.1 n=true then f::Zr r n else if f.1=n then r else f::r
def InOrder (l:List Fil):Prop:=l.Pairwise fun a b=>sLt a.1 b.1=true
def Z1n (f:Fil):Int:=16+f.1.size+f.2.length
def Zg:List Fil→Int
 | []=>0
 | f::r=>Z1n f+Zg r
theorem InOrder.tail {f:Fil} {r:List Fil} (h:InOrder (f::r)):InOrder r:=(List.pairwise_cons.1 h).2
theorem InOrder.head {f:Fil} {r:List Fil} (h:InOrder (f::r)): ∀g∈r,sLt f.1 g.1=true:=(List.pairwise_cons.1 h).1
theorem Z1e {l:List Fil} {n:BA} (h:InOrder l):Z1 l n=none↔ ∀f∈l,f.1≠n:=by
 induction l with
 | nil=>simp [Z1]
 | cons f r ih=>
  unfold Z1;split
  ·rename_i hlt
   rw [ih h.tail];simp only [List.mem_cons,forall_eq_or_imp];exact ⟨fun hr=>⟨Z5Y hlt,hr⟩,fun hr=>hr.2⟩
  ·rename_i hlt
   split
   ·rename_i he
    simp [he]
   ·rename_i he
    simp only [List.mem_cons,forall_eq_or_imp,true_iff];refine ⟨he,fun g hg e=> ?_⟩;have h1:=h.head g hg;rw [e] at h1;exact hlt h1
theorem Zj {l:List Fil} {n:BA} {b:LU} (h:InOrder l):Z1 l n=some b↔(n,b)∈l:=by
 induction l with
 | nil=>simp [Z1]
 | cons f r ih=>
  unfold Z1;split
  ·rename_i hlt
   rw [ih h.tail];simp only [List.mem_cons];refine ⟨.inr,fun hr=> ?_⟩;rcases hr with e | hr
   ·rw [←e] at hlt
    exact absurd rfl (Z5Y hlt)
   ·exact hr
  ·rename_i hlt
   have hno:(n,b)∉r:=fun hm=>hlt (h.head _ hm);split
   ·rename_i he
    simp only [List.mem_cons,hno,or_false,Option.some.injEq];refine ⟨fun e=> ?_,fun e=> ?_⟩
    ·rw [←he,←e]
    ·rw [←e]
   ·rename_i he
    simp only [List.mem_cons,hno,or_false,reduceCtorEq,false_iff];intro e;exact he (by rw [←e])
theorem Z37 {l:List Fil} {n:BA} {b:LU}: ∀f∈putF l n b,f=(n,b)∨f∈l:=by
 induction l with
 | nil=>simp [putF]
 | cons g r ih=>
  intro f hf;unfold putF at hf;split at hf
  ·rcases List.mem_cons.1 hf with e | hr
   ·exact .inr (by rw [e];exact List.mem_cons_self ..)
   ·rcases ih f hr with e | hm
    ·exact .inl e
    ·exact .inr (List.mem_cons_of_mem _ hm)
  ·split at hf
   ·rcases List.mem_cons.1 hf with e | hr
    ·exact .inl e
    ·exact .inr (List.mem_cons_of_mem _ hr)
   ·rcases List.mem_cons.1 hf with e | hr
    ·exact .inl e
    ·exact .inr hr
theorem Z3G {l:List Fil} {n:BA}: ∀f∈Zr l n,f∈l:=by
 induction l with
 | nil=>simp [Zr]
 | cons g r ih=>
  intro f hf;unfold Zr at hf;split at hf
  ·rcases List.mem_cons.1 hf with e | hr
   ·rw [e]
    exact List.mem_cons_self ..
   ·exact List.mem_cons_of_mem _ (ih f hr)
  ·split at hf
   ·exact List.mem_cons_of_mem _ hf
   ·exact hf
theorem Z05 {l:List Fil} {n:BA} {b:LU} (h:InOrder l):InOrder (putF l n b):=by
 induction l with
 | nil=>exact List.pairwise_singleton ..
 | cons f r ih=>
  unfold putF;split
  ·rename_i hlt
   refine List.pairwise_cons.2 ⟨fun g hg=> ?_,ih h.tail⟩;rcases Z37 g hg with e | hm
   ·rw [e]
    exact hlt
   ·exact h.head g hm
  ·rename_i hlt
   split
   ·rename_i he
    refine List.pairwise_cons.2 ⟨fun g hg=> ?_,h.tail⟩;have:=h.head g hg;rw [he] at this;exact this
   ·rename_i he
    have hnf:sLt n f.1=true:=Zf9 (by simpa using hlt) he;refine List.pairwise_cons.2 ⟨fun g hg=> ?_,h⟩;rcases List.mem_cons.1 hg with e | hm
    ·rw [e]
     exact hnf
    ·exact Z9p hnf (h.head g hm)
theorem ZG {l:List Fil} {n:BA} (h:InOrder l):InOrder (Zr l n):=by
 induction l with
 | nil=>exact h
 | cons f r ih=>
  unfold Zr;split
  ·exact List.pairwise_cons.2 ⟨fun g hg=>h.head g (Z3G g hg),ih h.tail⟩
  ·split
   ·exact h.tail
   ·exact h
theorem Z2h (l:List Fil) (n:BA) (b:LU):(putF l n b).Perm ((n,b)::Zr l n):=by
 induction l with
 | nil=>exact .refl _
 | cons f r ih=>
  unfold putF Zr;split
  ·exact (ih.cons f).trans (.swap _ _ _)
  ·split
   ·exact .refl _
   ·exact .refl _
theorem Z1f {l:List Fil} {n:BA} {b:LU} (hb:Z1 l n=some b):l.Perm ((n,b)::Zr l n):=by
 induction l with
 | nil=>cases hb
 | cons f r ih=>
  unfold Z1 at hb;unfold Zr;split at hb
  ·rename_i hlt
   rw [if_pos hlt];exact ((ih hb).cons f).trans (.swap _ _ _)
  ·rename_i hlt
   rw [if_neg hlt];split at hb
   ·rename_i he
    rw [if_pos he];injection hb with hb
    have:f=(n,b):=by rw [←he,←hb]
    rw [this]
   ·cases hb
theorem Z0x {l:List Fil} {n:BA} (hb:Z1 l n=none):Zr l n=l:=by
 induction l with
 | nil=>rfl
 | cons f r ih=>
  unfold Z1 at hb;unfold Zr;split at hb
  ·rename_i hlt
   rw [if_pos hlt,ih hb]
  ·rename_i hlt
   rw [if_neg hlt];split at hb
   ·cases hb
   ·rename_i he
    rw [if_neg he]
theorem Z38 {l m:List Fil} (h:l.Perm m):Zg l=Zg m:=by
 induction h with
 | nil=>rfl
 | cons x _ ih=>simp only [Zg,ih]
 | swap x y l=>simp only [Zg];omega
 | trans _ _ h1 h2=>rw [h1,h2]
theorem Z5q (l m:List Fil):Zg (l++m)=Zg l+Zg m:=by
 induction l with
 | nil=>simp [Zg]
 | cons f r ih=>simp only [List.cons_append,Zg,ih];omega
theorem Z4n (f:Fil):16≤Z1n f:=by unfold Z1n;omega
theorem Z0o (l:List Fil):0≤Zg l:=by
 induction l with
 | nil=>exact Int.le_refl _
 | cons f r ih=>have:=Z4n f;simp only [Zg];omega
theorem Z9q (l:List Fil) (n:BA) (b:LU):Zg (putF l n b)=Z1n (n,b)+Zg (Zr l n):=Z38 (Z2h l n b)
theorem Z4R {l:List Fil} {n:BA} {b:LU} (h:Z1 l n=some b):Zg l=Z1n (n,b)+Zg (Zr l n):=Z38 (Z1f h)
theorem ZL {l:List Fil} {n:BA} {b:LU} (h:InOrder l) (m:BA):Z1 (putF l n b) m=if m=n then some b else Z1 l m:=by
 split
 ·rename_i e
  subst e;exact (Zj (Z05 h)).2 ((Z2h l m b).mem_iff.2 (List.mem_cons_self ..))
 ·rename_i e
  cases hl:Z1 l m with
  | none=>
   refine (Z1e (Z05 h)).2 fun f hf=> ?_;rcases Z37 f hf with e2 | hm
   ·rw [e2]
    exact fun e3=>e e3.symm
   ·exact (Z1e h).1 hl f hm
  | some c=>
   refine (Zj (Z05 h)).2 ((Z2h l n b).mem_iff.2 (List.mem_cons_of_mem _ ?_));have hm:=(Zj h).1 hl
   cases hn:Z1 l n with
   | none=>rwa [Z0x hn]
   | some d=>
    rcases List.mem_cons.1 ((Z1f hn).mem_iff.1 hm) with e2 | hm2
    ·exact absurd (by injection e2) e
    ·exact hm2
theorem Zfb {l:List Fil} {n:BA} (h:InOrder l): ∀f∈Zr l n,f.1≠n:=by
 induction l with
 | nil=>simp [Zr]
 | cons g r ih=>
  intro f hf;unfold Zr at hf;split at hf
  ·rename_i hlt
   rcases List.mem_cons.1 hf with e | hr
   ·rw [e]
    exact Z5Y hlt
   ·exact ih h.tail f hr
  ·rename_i hlt
   split at hf
   ·rename_i he
    have:=h.head f hf;rw [he] at this;exact (Z5Y this).symm
   ·rename_i he
    rcases List.mem_cons.1 hf with e | hr
    ·rw [e]
     exact he
    ·intro e
     have h1:=h.head f hr;rw [e] at h1;exact hlt h1
theorem Z0y {l:List Fil} {n:BA} (h:InOrder l) (m:BA):Z1 (Zr l n) m=if m=n then none else Z1 l m:=by
 split
 ·rename_i e
  subst e;exact (Z1e (ZG h)).2 (Zfb h)
 ·rename_i e
  cases hl:Z1 l m with
  | none=>exact (Z1e (ZG h)).2 fun f hf=>(Z1e h).1 hl f (Z3G f hf)
  | some c=>
   refine (Zj (ZG h)).2 ?_;have hm:=(Zj h).1 hl
   cases hn:Z1 l n with
   | none=>rwa [Z0x hn]
   | some d=>
    rcases List.mem_cons.1 ((Z1f hn).mem_iff.1 hm) with e2 | hm2
    ·exact absurd (by injection e2) e
    ·exact hm2
theorem Zam {l m:List Fil} (hl:InOrder l) (hm:InOrder m) (h:l.Perm m):l=m:=by
 induction l generalizing m with
 | nil=>exact (List.nil_perm.1 h).symm▸rfl
 | cons f r ih=>
  cases m with
  | nil=>exact absurd h.symm (by simp)
  | cons g s=>
   have hfg:f=g:=by
    rcases List.mem_cons.1 (h.mem_iff.1 (List.mem_cons_self ..)) with e | hs
    ·exact e
    ·rcases List.mem_cons.1 (h.mem_iff.2 (List.mem_cons_self (a:=g) (l:=s))) with e | hr
     ·exact e.symm
     ·have h1:=hm.head f hs
      have h2:=hl.head g hr;rw [Zfa h1] at h2;cases h2
   subst hfg;rw [ih hl.tail hm.tail ((List.perm_cons f).1 h)]
structure Dk where
 cap:Int
 l:List Fil
 done:Nat
 left:Int
 dark:Bool
def frD (D:Dk):Int:=IntKind.i64.wrap (D.cap-Zg D.l)
def ZY (D:Dk) (l':List Fil):Int×Dk:=
 if D.left=0 then (5,{ D with dark:=true,left:=-1 })
 else (0,{ D with left:=if 0<D.left then D.left-1 else D.left,done:=D.done+1,l:=l' })
def Z1J (D:Dk) (more:Int) (l':List Fil):Int×Dk:=if 0<more∧frD D<more then (4,D) else ZY D l'
def Z0p (D:Dk) (n:BA) (b:LU):Int:=b.length+(match Z1 D.l n with | none=>16+(n.size:Int) | some _=>0)
def Z39 (D:Dk) (a b:BA):Int:=match Z1 D.l b with | none=>(b.size:Int)-a.size | some _=>0
def appD (D:Dk) (n:BA) (b:LU):Int×Dk:=
 if 64<b.length∨Z4 n=false then (1,D) else if D.dark=true then (5,D) else
  Z1J D (Z0p D n b) (putF D.l n ((Z1 D.l n).getD []++b))
def Z0j (D:Dk) (n:BA):Int:=if Z4 n=false then 1 else if D.dark=true then 5 else if (Z1 D.l n).isSome=true then 0 else 3
def remD (D:Dk) (n:BA):Int×Dk:=if Z0j D n≠0 then (Z0j D n,D) else ZY D (Zr D.l n)
def Z10 (D:Dk) (n:BA):Int×Dk:=if Z0j D n≠0 then (Z0j D n,D) else ZY D D.l
def renD (D:Dk) (a b:BA):Int×Dk:=
 if Z4 a=false∨Z4 b=false then (1,D) else if Z0j D a≠0 then (Z0j D a,D) else
  Z1J D (Z39 D a b) (putF (Zr D.l a) b ((Z1 D.l a).getD []))
def ZF (D:Dk) (n:BA):LU×Int:=if Z4 n=false then ([],1) else match Z1 D.l n with | none=>([],3) | some b=>(b,0)
end Go.Dol
set_option linter.unusedVariables false
namespace Go.Proofs.YtecpbcmpncgokaaGreat
open Go.RowKit Go.Dol
theorem Z4i:Go.Maps.Keyed Tryz.prog 9:=Go.Maps.string_keyed Tryz.underlying9
theorem Z4j (n:BA) (hn:n.size≤maxLen): ∃kl,keyOf Tryz.prog 9 (.string n)=some kl:=⟨_,Go.WideMaps.keyOf_string_mk Tryz.underlying9 hn⟩
theorem Zd9 (w:World):(zeroValue 36).run Tryz.prog w= .ok (.slice none 0 0) w:=by kernel_rfl
def Byt (w:World) (v:Value) (b:LU):Prop:=∃ A c,v= .slice A b.length c∧Far w 0 A b∧b.length≤c∧c≤maxLen
def Fls (w:World) (al:List (Value×Value)) (L:List Fil):Prop:=
 ∃M:List (Fil×Value),al=M.map (fun m=>(Value.string m.1.1,m.2))∧(∀p∈M,Byt w p.2 p.1.2)∧(M.map Prod.fst).Perm L
section
variable {w w':World} {v:Value} {b:LU} {al al':List (Value×Value)} {L:List Fil} {n:BA}
theorem Byt.keep (h:Byt w v b) {row:Option Nat} (hg:w.grownBy w' row) (hr:Other w 0 row):Byt w' v b:=by
 obtain ⟨A,c,h1,h2,h3⟩:=h;exact ⟨A,c,h1,h2.keep hg hr,h3⟩
theorem Byt.below (h:Byt w v b) (hb:Below w.heap.size w w'):Byt w' v b:=by
 obtain ⟨A,c,h1,h2,h3⟩:=h;exact ⟨A,c,h1,h2.below hb,h3⟩
theorem Byt.seg {base:Nat} {A:OA} {c:Nat} (h:Seg w base 5 1 A b.length c (bc b)):Byt w (.slice A b.length c) b:=⟨A,c,rfl,Far.of_seg h,h.2.1,h.2.2.1⟩
theorem Byt.own {base:Nat} (h:w.ownsRow base 5 1 v b.length (bc b)):Byt w v b:=by
 obtain ⟨A,c,rfl,_,_⟩:=Z1S h;exact Byt.seg (Seg.of_own h)
theorem Fls.keep (h:Fls w al L) {row:Option Nat} (hg:w.grownBy w' row) (hr:Other w 0 row):Fls w' al L:=by
 obtain ⟨M,h1,h2,h3⟩:=h;exact ⟨M,h1,fun p hp=>(h2 p hp).keep hg hr,h3⟩
theorem Fls.below (h:Fls w al L) (hb:Below w.heap.size w w'):Fls w' al L:=by
 obtain ⟨M,h1,h2,h3⟩:=h;exact ⟨M,h1,fun p hp=>(h2 p hp).below hb,h3⟩
theorem Fls.nil (w:World):Fls w [] []:=⟨[],rfl,fun _ h=>(List.not_mem_nil h).elim,.refl _⟩
theorem Fls.split {M:List (Fil×Value)} {l r:List (Value×Value)} {v0:Value} (h:M.map (fun m=>(Value.string m.1.1,m.2))=l++(.string n,v0)::r):
  ∃M1 b0 M2,M=M1++((n,b0),v0)::M2∧M1.map (fun m=>(Value.string m.1.1,m.2))=l∧M2.map (fun m=>(Value.string m.1.1,m.2))=r:=by
 obtain ⟨M1,M2,rfl,h1,h2⟩:=List.map_eq_append_iff.1 h;obtain ⟨q,M3,rfl,h3,h4⟩:=List.map_eq_cons_iff.1 h2;obtain ⟨⟨n',b0⟩,v'⟩:=q;simp only [Prod.mk.injEq,Value.string.injEq] at h3;obtain ⟨rfl,rfl⟩:=h3;exact ⟨M1,b0,M3,rfl,h1,h4⟩
theorem Fls.look (h:Fls w al L) (hL:InOrder L) (hm:(Value.string n,v)∈al): ∃b,Z1 L n=some b∧Byt w v b:=by
 obtain ⟨M,rfl,h2,h3⟩:=h;obtain ⟨⟨⟨n',b⟩,v'⟩,hp,he⟩:=List.mem_map.1 hm;simp only [Prod.mk.injEq,Value.string.injEq] at he;obtain ⟨rfl,rfl⟩:=he;exact ⟨b,(Zj hL).2 (h3.mem_iff.1 (List.mem_map.2 ⟨_,hp,rfl⟩)),h2 _ hp⟩
theorem Fls.none (h:Fls w al L) (hL:InOrder L) (hno: ∀p∈al,p.1≠Value.string n):Z1 L n=none:=by
 obtain ⟨M,rfl,h2,h3⟩:=h;refine (Z1e hL).2 fun f hf e=> ?_;obtain ⟨p,hp,rfl⟩:=List.mem_map.1 (h3.mem_iff.2 hf);exact hno _ (List.mem_map.2 ⟨p,hp,rfl⟩) (by rw [←e])
theorem Fls.put (h:Fls w al L) (hL:InOrder L) (hp:MPut al (.string n) v al') (hv:Byt w v b):Fls w al' (putF L n b):=by
 have h0:=h;obtain ⟨M,rfl,h2,h3⟩:=h;rcases hp with ⟨hno,rfl⟩ | ⟨l,r,v0,he,rfl⟩
 ·refine ⟨M++[((n,b),v)],by simp,fun p hp=> ?_,?_⟩
  ·rcases List.mem_append.1 hp with hp | hp
   ·exact h2 p hp
   ·rw [List.mem_singleton.1 hp]
    exact hv
  ·have hn:=h0.none hL hno
   refine .trans ?_ (Z2h L n b).symm;rw [Z0x hn,List.map_append];exact (List.perm_append_comm).trans (h3.cons _)
 ·obtain ⟨M1,b0,M2,rfl,rfl,rfl⟩:=Fls.split he
  refine ⟨M1++((n,b),v)::M2,by simp,fun p hp=> ?_,?_⟩
  ·rcases List.mem_append.1 hp with hp | hp
   ·exact h2 p (List.mem_append.2 (.inl hp))
   ·rcases List.mem_cons.1 hp with rfl | hp
    ·exact hv
    ·exact h2 p (List.mem_append.2 (.inr (List.mem_cons_of_mem _ hp)))
  ·have hb0:Z1 L n=some b0:=(Zj hL).2 (h3.mem_iff.1 (by simp))
   have hd:(((M1++M2).map Prod.fst)).Perm (Zr L n):=by
    refine (List.perm_cons (n,b0)).1 (.trans ?_ (h3.trans (Z1f hb0)));rw [List.map_append,List.map_append,List.map_cons];exact List.perm_middle.symm
   refine .trans ?_ (Z2h L n b).symm;rw [List.map_append,List.map_cons];refine List.perm_middle.trans (.cons _ ?_);rw [←List.map_append];exact hd
theorem Fls.drop (h:Fls w al L) (hL:InOrder L) (hp:MDel al (.string n) al'):Fls w al' (Zr L n):=by
 have h0:=h;obtain ⟨M,rfl,h2,h3⟩:=h;rcases hp with ⟨hno,rfl⟩ | ⟨l,r,v0,he,rfl⟩
 ·rw [Z0x (h0.none hL hno)]
  exact h0
 ·obtain ⟨M1,b0,M2,rfl,rfl,rfl⟩:=Fls.split he
  have hb0:Z1 L n=some b0:=(Zj hL).2 (h3.mem_iff.1 (by simp));refine ⟨M1++M2,by simp,fun p hp=> ?_,?_⟩
  ·rcases List.mem_append.1 hp with hp | hp
   ·exact h2 p (List.mem_append.2 (.inl hp))
   ·exact h2 p (List.mem_append.2 (.inr (List.mem_cons_of_mem _ hp)))
  ·refine (List.perm_cons (n,b0)).1 (.trans ?_ (h3.trans (Z1f hb0)))
   rw [List.map_append,List.map_append,List.map_cons];exact List.perm_middle.symm
end
def opsD (n:Nat):Int:=IntKind.i64.wrap n
def Z5W (cap:Int) (m:Nat) (fr:Int) (done:Nat) (left:Int) (dark:Bool):List Value:=
 [.int .i64 cap,.map (some m),.int .i64 fr,.int .i64 (opsD done),.int .i64 left,.bool dark]
def Dsk (w:World) (g m:Nat) (D:Dk):Prop:=∃ al,Blk w g 145 (Z5W D.cap m (frD D) D.done D.left D.dark)∧MapL Tryz.prog 9 w m al∧Fls w al D.l
theorem Other.map {k:TypeId} {w:World} {m:Nat} {al:List (Value×Value)} (h:MapL Tryz.prog k w m al):Other w 0 (some m):=by
 intro j hj;injection hj with hj
 subst hj;refine ⟨zL _,fun cur fr e=> ?_⟩;obtain ⟨es,clock,hb,_⟩:=h;rw [hb] at e;cases e
section
variable {w w':World} {g m:Nat} {D:Dk}
theorem Dsk.lt (h:Dsk w g m D):g<w.heap.size∧m<w.heap.size:=by
 obtain ⟨al,hB,hM,_⟩:=h;exact ⟨hB.lt,hM.lt⟩
theorem Dsk.below (h:Dsk w g m D) (hb:Below w.heap.size w w'):Dsk w' g m D:=by
 obtain ⟨al,hB,hM,hF⟩:=h;exact ⟨al,hB.below hb hB.lt,hM.belowW hb,hF.below hb⟩
theorem Dsk.drew (h:Dsk w g m D):Dsk w.drew g m D:=h.below ⟨rfl,rfl,rfl,lR _,fun _ _=>rfl⟩
theorem Zbu {al:List (Value×Value)} {L:List Fil} (hM:MapL Tryz.prog 9 w m al) (hF:Fls w al L) (hL:InOrder L) (n:BA) (hn:n.size≤maxLen):
  (Hid (Z1 L n=none)∧(∀W:World,W.heap[m]?=w.heap[m]?→(Instr.lookup 140 (.map (some m)) (.string n) true).run Tryz.prog W= .ok (.tuple #[.slice none 0 0,.bool false]) W)∧
   ∀W:World,W.heap[m]?=w.heap[m]?→(Instr.lookup 140 (.map (some m)) (.string n) false).run Tryz.prog W= .ok (.slice none 0 0) W)∨
  ∃b A c,Hid (Z1 L n=some b)∧Far w 0 A b∧b.length≤c∧c≤maxLen∧(∀W:World,W.heap[m]?=w.heap[m]?→(Instr.lookup 140 (.map (some m)) (.string n) true).run Tryz.prog W= .ok (.tuple #[.slice A b.length c,.bool true]) W)∧
   ∀W:World,W.heap[m]?=w.heap[m]?→(Instr.lookup 140 (.map (some m)) (.string n) false).run Tryz.prog W= .ok (.slice A b.length c) W:=by
 obtain ⟨kl,hkl⟩:=Z4j n hn;have hr:=fun (W:World) (hW:W.heap[m]?=w.heap[m]?) (ok:Bool)=>(hM.keepB hW).look Z4i Tryz.underlying140 (Zd9 _) hkl ok
 by_cases hex: ∃v,(Value.string n,v)∈al
 ·obtain ⟨v,hv⟩:=hex
  obtain ⟨b,hb,A,c,rfl,hf,hc⟩:=hF.look hL hv;have huniq: ∀u,(Value.string n,u)∈al→u= .slice A b.length c:=by
   intro u hu;have hnd:=hM.nodup;obtain ⟨l,r,rfl⟩:=List.append_of_mem hv;rw [List.map_append,List.map_cons,List.nodup_append] at hnd;rcases List.mem_append.1 hu with hu | hu
   ·exact absurd rfl (hnd.2.2 _ (List.mem_map.2 ⟨_,hu,rfl⟩) _ (by simp))
   ·rcases List.mem_cons.1 hu with e | hu
    ·injection e
    ·exact absurd (List.mem_map.2 ⟨_,hu,rfl⟩) (List.nodup_cons.1 hnd.2.1).1
  refine .inr ⟨b,A,c,qI hb,hf,hc.1,hc.2,fun W hW=> ?_,fun W hW=> ?_⟩
  ·rcases hr W hW true with ⟨h1,_⟩ | ⟨u,h1,h2⟩
   ·exact absurd rfl (h1 _ hv)
   ·rw [huniq u h1] at h2
    exact h2
  ·rcases hr W hW false with ⟨h1,_⟩ | ⟨u,h1,h2⟩
   ·exact absurd rfl (h1 _ hv)
   ·rw [huniq u h1] at h2
    exact h2
 ·have hno: ∀p∈al,p.1≠Value.string n:=by
   rintro ⟨k,v⟩ hp e;exact hex ⟨v,by rw [←e];exact hp⟩
  refine .inl ⟨qI (hF.none hL hno),fun W hW=> ?_,fun W hW=> ?_⟩
  ·rcases hr W hW true with ⟨_,h2⟩ | ⟨u,h1,_⟩
   ·exact h2
   ·exact absurd ⟨u,h1⟩ hex
  ·rcases hr W hW false with ⟨_,h2⟩ | ⟨u,h1,_⟩
   ·exact h2
   ·exact absurd ⟨u,h1⟩ hex
theorem Dsk.find (h:Dsk w g m D) (hL:InOrder D.l) (n:BA) (hn:n.size≤maxLen):
  (Hid (Z1 D.l n=none)∧(∀W:World,W.heap[m]?=w.heap[m]?→(Instr.lookup 140 (.map (some m)) (.string n) true).run Tryz.prog W= .ok (.tuple #[.slice none 0 0,.bool false]) W)∧
   ∀W:World,W.heap[m]?=w.heap[m]?→(Instr.lookup 140 (.map (some m)) (.string n) false).run Tryz.prog W= .ok (.slice none 0 0) W)∨
  ∃b A c,Hid (Z1 D.l n=some b)∧Far w 0 A b∧b.length≤c∧c≤maxLen∧(∀W:World,W.heap[m]?=w.heap[m]?→(Instr.lookup 140 (.map (some m)) (.string n) true).run Tryz.prog W= .ok (.tuple #[.slice A b.length c,.bool true]) W)∧
   ∀W:World,W.heap[m]?=w.heap[m]?→(Instr.lookup 140 (.map (some m)) (.string n) false).run Tryz.prog W= .ok (.slice A b.length c) W:=by
 obtain ⟨al,hB,hM,hF⟩:=h;exact Zbu hM hF hL n hn
end
end Go.Proofs.YtecpbcmpncgokaaGreat
set_option maxRecDepth 100000
set_option maxHeartbeats 800000
set_option linter.unusedVariables false
namespace Go.Proofs.YtecpbcmpncgokaaGreat
open Go.RowKit Go.Dol
theorem Z6t (n:BA) (w:World):Calls Tryz.prog 171 #[.string n] w fun e w'=>e= .returned (.bool (!Z4 n))∧w'=w:=by
 obtain ⟨r,hr⟩: ∃r,r= !Z4 n:=⟨_,rfl⟩;rw [←hr]
 by_cases h1:n.size<1
 ·have d1:decide ((n.size:Int)<1)=true:=dT (by omega)
  have HF:Hid (r=true):=by unfold Hid Z4 at *; rw [hr,qF (show ¬1≤n.size by omega)];simp
  clear h1 hr;go_in;go_wp2_with fail;go_ret;rw [HF.out];exact ⟨rfl,rfl⟩
 ·have d1:decide ((n.size:Int)<1)=false:=qF (by omega)
  have e1:decide (1≤n.size)=true:=dT (by omega)
  by_cases h2:200<n.size
  ·have d2:decide ((n.size:Int)>200)=true:=dT (by omega)
   have d2':decide ((200:Int)<(n.size:Int))=true:=dT (by omega);have HF:Hid (r=true):=by unfold Hid Z4 at *; rw [hr,qF (show ¬n.size≤200 by omega)];simp
   clear h1 h2 hr e1;go_in;go_wp2_with fail;go_ret;rw [HF.out];exact ⟨rfl,rfl⟩
  ·have d2:decide ((n.size:Int)>200)=false:=qF (by omega)
   have d2':decide ((200:Int)<(n.size:Int))=false:=qF (by omega);have e2:decide (n.size≤200)=true:=dT (by omega)
   cases h3:n.data.toList.contains 0 with
   | true=>
    have i3:=Z6l h3;obtain ⟨k,hk⟩: ∃k,k=Lib.indexByte n.data.toList 0:=⟨_,rfl⟩;rw [←hk] at i3;have K:=qI hk;have HF:Hid (r=true):=by unfold Hid Z4 at *; rw [hr,h3];simp
    have hk0:decide (k≥0)=true:=dT i3;have hk1:decide (0≤k)=true:=dT i3;clear h1 h2 hr hk h3 i3 e1 e2;go_in;go_wp2_with (go_at_call 172;refine (Z1x n 0 0 rfl _).mono ?_;rintro e w' ⟨rfl,rfl⟩;rw [←K.out]);go_ret;rw [HF.out];exact ⟨rfl,rfl⟩
   | false=>
    have i3:=qI (Z44 h3);have HF:Hid (r=false):=by unfold Hid Z4 at *; rw [hr,h3,e1,e2];rfl
    clear h1 h2 hr h3 e1 e2;go_in;go_wp2_with (go_at_call 172;refine (Z1x n 0 0 rfl _).mono ?_;rintro e w' ⟨rfl,rfl⟩;rw [i3.out]);go_ret;rw [HF.out];exact ⟨rfl,rfl⟩
def sc (ns:List BA):List Value:=ns.map .string
def ZiV (ns:List BA) (w:World) (i:Value) (wr:World):Prop:=∃ k:Nat,i= .int .i64 k∧k≤ns.length∧Hid (∀n∈ns.take k,Z4 n=true)∧wr=w
theorem Z71 (B:Nat) (A:OA) (ns:List BA) (c:Nat) (w:World) (hr:Rd w B 1 A ns.length (sc ns)) (hl:ns.length≤140737488355328):
  Calls Tryz.prog 242 #[.slice A ns.length c,.func (.func 171) #[] #[]] w fun e w'=> ∃r:Int,e= .returned (.int .i64 r)∧Hid (decide (0≤r)= !ns.all Z4)∧w'=w:=by
 go_in;go_wp2_with fail;go_loopw [8] (fun i wr=>ZiV ns w i wr) (fun i _=>ns.length-(intOf i).toNat)
 case atStart=>exact ⟨0,rfl,zL _,qI (by simp),rfl⟩
 case round=>
  obtain ⟨k,rfl,hk,hT,rfl⟩:=hrel
  by_cases hlt:k<ns.length
  ·have hd:decide ((k:Int)<(ns.length:Int))=true:=dT (by omega)
   obtain ⟨b,off,rfl,hb,hcell⟩:=hr.at_ (by omega);obtain ⟨n,hn⟩: ∃n,ns[k]?=some n:=⟨ns[k],gE hlt⟩;have hn1:(sc ns)[k]?=some (.string n):=by simp [sc,hn]
   have k1:=hcell k _ hn1;have HN:=qI hn;clear hn hn1 hcell hr
   cases hB:Z4 n with
   | true=>
    go_wp2_with ((go_at_call 171;refine (Z6t n _).mono ?_;rw [hB];rintro e w' ⟨rfl,rfl⟩));refine ⟨⟨k+1,by go_num,by omega,qI fun m hm=> ?_,rfl⟩,by simp [intOf];omega⟩;rw [List.take_add_one,List.mem_append] at hm;rcases hm with hm | hm
    ·exact hT.out m hm
    ·rw [HN.out] at hm
     rw [List.mem_singleton.1 hm];exact hB
   | false=>
    go_wp2_with ((go_at_call 171;refine (Z6t n _).mono ?_;rw [hB];rintro e w' ⟨rfl,rfl⟩));go_ret;refine ⟨k,rfl,qI ?_,rfl⟩;have h1:ns.all Z4=false:=List.all_eq_false.2 ⟨n,List.mem_of_getElem? HN.out,by rw [hB];decide⟩;rw [h1];exact dT (by omega)
  ·have hd:decide ((k:Int)<(ns.length:Int))=false:=qF (by omega)
   have hk2:k=ns.length:=by omega
   have HK:=qI hk2;clear hk2;go_wp2_with fail;go_ret;refine ⟨-1,rfl,qI ?_,rfl⟩;have h1:ns.all Z4=true:=List.all_eq_true.2 fun n hn=>hT.out n (by rw [HK.out,List.take_length];exact hn);rw [h1]
   decide
theorem Z0J (B:Nat) (A:OA) (ns:List BA) (c:Nat) (w:World) (hr:Rd w B 1 A ns.length (sc ns)) (hl:ns.length≤140737488355328):
  Calls Tryz.prog 101 #[.slice A ns.length c] w fun e w'=>e= .returned (.bool (ns.all Z4))∧w'=w:=by
 have hC:Calls Tryz.prog 170 #[.slice A ns.length c,.func (.func 171) #[] #[]] w fun e w'=>e= .returned (.bool (!ns.all Z4))∧w'=w:=by
  go_in;go_wp2_with ((go_at_call 242;refine (Z71 B A ns c _ hr hl).mono ?_;rintro e w' ⟨r,rfl,hr1,rfl⟩));go_ret;refine ⟨?_,rfl⟩;have:=hr1.out;rw [←this];simp
 generalize ns.all Z4=r at hC ⊢;go_in;go_wp2_with ((go_at_call 170;refine hC.mono ?_;rintro e w' ⟨rfl,rfl⟩));go_ret;simp
end Go.Proofs.YtecpbcmpncgokaaGreat
