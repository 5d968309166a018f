/- Digits there and back, in plain Lean. No program is in sight. Conditions: none. -/
import Derived.Test.YtecpbcmpncgokaaGreatSum10
import Derived.Test.YtecpbcmpncgokaaGreatWordsA
import Derived.Test.YtecpbcmpncgokaaGreatShort
set_option linter.unusedVariables false
namespace Go.Dol
theorem ZbG: ∀i:Fin 256,digV i.val<0∨ ∃j:Fin 16,digV i.val=j.val∧(dig j.val).toNat=i.val:=by decide+kernel
theorem Zag (c:UInt8) (h:0≤digV c.toNat):(digV c.toNat).toNat<16∧dig (digV c.toNat).toNat=c:=by
 rcases ZbG ⟨c.toNat,c.toNat_lt⟩ with h1 | ⟨j,h1,h2⟩
 ·simp only at h1
  omega
 ·simp only at h1 h2
  have:(digV c.toNat).toNat=j.val:=by omega
  rw [this];exact ⟨j.isLt,UInt8.toNat_inj.1 h2⟩
theorem Z4W (c:UInt8) (l:LU):Z1x (c::l)=dig (c.toNat/16)::dig (c.toNat%16)::Z1x l:=rfl
theorem Z4j: ∀l:LU,Zx (Z1x l)=some l
 | []=>rfl
 | c::l=>by
  have h:=c.toNat_lt;have h1:=Z7R (c.toNat/16) (by omega);have h2:=Z7R (c.toNat%16) (by omega);rw [Z4W,Zx,h1,h2,if_neg (by omega),Z4j l];simp only [Option.map_some,Option.some.injEq,List.cons.injEq,and_true];have:16*((c.toNat/16:Nat):Int).toNat+((c.toNat%16:Nat):Int).toNat=c.toNat:=by omega
  rw [this];simp
theorem Z4k: ∀(l q:LU),Zx l=some q→Z1x q=l
 | [],q,h=>by
  rw [Zx] at h;injection h with h
  subst h
  rfl
 | [_],q,h=>by cases h
 | a::b::t,q,h=>by
  rw [Zx] at h;split at h
  ·cases h
  ·rename_i hn
   obtain ⟨z,hz,rfl⟩:=Option.map_eq_some_iff.1 h;have ha:=Zag a (by omega);have hb:=Zag b (by omega);have ih:=Z4k t z hz;rw [Z4W,ih];have e:(UInt8.ofNat (16*(digV a.toNat).toNat+(digV b.toNat).toNat)).toNat=16*(digV a.toNat).toNat+(digV b.toNat).toNat:=by
    rw [UInt8.toNat_ofNat'];omega
   rw [e];have e1:(16*(digV a.toNat).toNat+(digV b.toNat).toNat)/16=(digV a.toNat).toNat:=by omega
   have e2:(16*(digV a.toNat).toNat+(digV b.toNat).toNat)%16=(digV b.toNat).toNat:=by omega
   rw [e1,e2,ha.2,hb.2]
theorem Z8C (k:Nat) (hk:k<16):(48≤(dig k).toNat∧(dig k).toNat≤57)∨(97≤(dig k).toNat∧(dig k).toNat≤102):=by
 have h: ∀i:Fin 16,(48≤(dig i.val).toNat∧(dig i.val).toNat≤57)∨(97≤(dig i.val).toNat∧(dig i.val).toNat≤102):=by decide
 exact h ⟨k,hk⟩
theorem Z6f: ∀(l:LU) (x:UInt8),x∈Z1x l→(48≤x.toNat∧x.toNat≤57)∨(97≤x.toNat∧x.toNat≤102)
 | [],x,h=>by cases h
 | c::l,x,h=>by
  have hc:=c.toNat_lt;rw [Z4W] at h;rcases List.mem_cons.1 h with rfl | h
  ·exact Z8C _ (by omega)
  ·rcases List.mem_cons.1 h with rfl | h
   ·exact Z8C _ (by omega)
   ·exact Z6f l x h
theorem ZcM {a b:LU} (h:Z1x a=Z1x b):a=b:=by
 have h1:=Z4j a;rw [h,Z4j b] at h1;exact (Option.some.inj h1).symm
end Go.Dol
