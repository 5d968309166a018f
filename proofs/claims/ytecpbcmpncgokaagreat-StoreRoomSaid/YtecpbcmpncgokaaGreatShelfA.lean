/- What layer 'delta' computes, in plain Lean: how a target is told by a base, and back. Conditions: lengths below 2^20. The library's contract that the layer 'sum' leans on, at this seat. Conditions: none. Where a byte stands in a text: what the library's answer says. Conditions: none. -/
import Derived.Test.YtecpbcmpncgokaaGreatPressA
import Derived.Test.YtecpbcmpncgokaaGreatCodeA
import Derived.Test.YtecpbcmpncgokaaGreatWordsA
import Derived.Deep.QuietTactic
import Derived.BigQuiet
import Derived.Test.YtecpbcmpncgokaaGreatShort
import Derived.Test.YtecpbcmpncgokaaGreatRows
import Derived.Shelf.Small.Strs
set_option linter.unusedVariables false
namespace Go.Dol
def begins (a b:LU):Nat:=cnt a.length a b
def ends (a b:LU):Nat:=begins a.reverse b.reverse
def Z0d (n k:Nat):LU:=if n=0 then [] else num (2*(n-1)+1)++num k
def Z2Z (base b:LU):Nat→Nat→Option Nat
 | 0,_=>none
 | f+1,k=>if k+16≤base.length then (if (base.drop k).take 16=b.take 16 then some k else Z2Z base b f (k+16)) else none
def Z0C (base b:LU):Option Nat:=if 16≤b.length then Z2Z base b base.length 0 else none
def mid (base m:LU):Nat→Nat→Nat→LU
 | 0,_,frm=>runB (m.drop frm)
 | f+1,i,frm=>
  if i<m.length then
   match Z0C base (m.drop i) with
   | none=>mid base m f (i+1) frm
   | some k=>runB ((m.drop frm).take (i-frm))++(Z0d (begins (base.drop k) (m.drop i)) k++mid base m f (i+begins (base.drop k) (m.drop i)) (i+begins (base.drop k) (m.drop i)))
  else runB (m.drop frm)
def midL (base m:LU):LU:=mid base m m.length 0 0
def encL (base target:LU):LU:=
 num base.length++(num target.length++(Z0d (begins base target) 0++
  (midL base ((target.drop (begins base target)).take (target.length-begins base target-ends (base.drop (begins base target)) (target.drop (begins base target))))++
   Z0d (ends (base.drop (begins base target)) (target.drop (begins base target))) (base.length-ends (base.drop (begins base target)) (target.drop (begins base target))))))
def dF (base:LU) (size:Nat):Nat→LU→LU→Option (LU)
 | _,out,[]=>if out.length=size then some out else none
 | 0,_,_::_=>none
 | f+1,out,c::q=>
  match Z3 (c::q) with
  | none=>none
  | some (t,rest)=>
   if t%2=0 then
    if t/2+1≤size-out.length∧t/2+1≤rest.length then dF base size f (out++rest.take (t/2+1)) (rest.drop (t/2+1)) else none
   else
    match Z3 rest with
    | none=>none
    | some (d,rest2)=>if t/2+1≤size-out.length∧d+(t/2+1)≤base.length then dF base size f (out++(base.drop d).take (t/2+1)) rest2 else none
def dGo (base:LU) (size:Nat) (out p:LU):Option (LU):=dF base size p.length out p
def Z1T (base d:LU) (most:Int):Option (LU):=
 match Z3 d with
 | none=>none
 | some (n,p)=>
  if n=base.length then
   match Z3 p with
   | none=>none
   | some (size,q)=>if (size:Int)≤most then dGo base size [] q else none
  else none
theorem Zeh (base:LU) (size:Nat): ∀(f g:Nat) (out p:LU),p.length≤f→p.length≤g→dF base size f out p=dF base size g out p:=by
 intro f
 induction f with
 | zero=>
  intro g out p hf hg;obtain rfl:p=[]:=nZ (by omega);cases g<;>rfl
 | succ f ih=>
  intro g out p hf hg
  cases p with
  | nil=>cases g<;>rfl
  | cons c q=>
   cases g with
   | zero=>simp at hg
   | succ g=>
    rw [dF,dF]
    cases ht:Z3 (c::q) with
    | none=>rfl
    | some x=>
     obtain ⟨t,rest⟩:=x;have hl:=Zh ht;simp only [List.length_cons] at hl hf hg;simp only;split
     ·split
      ·exact ih g _ _ (by rw [List.length_drop];omega) (by rw [List.length_drop];omega)
      ·rfl
     ·cases ht2:Z3 rest with
      | none=>rfl
      | some y=>
       obtain ⟨d,rest2⟩:=y;have hl2:=Zh ht2;simp only;split
       ·exact ih g _ _ (by omega) (by omega)
       ·rfl
theorem Zae (base:LU) (size:Nat) (out:LU):dGo base size out []=if out.length=size then some out else none:=rfl
theorem Zg9 {base:LU} {size:Nat} {out p:LU} (hp:p≠[]) (h:Z3 p=none):dGo base size out p=none:=by
 cases p with
 | nil=>exact absurd rfl hp
 | cons c q=>unfold dGo;rw [List.length_cons,dF,h]
theorem Zaf {base:LU} {size:Nat} {out p:LU} {t:Nat} {rest:LU} (h:Z3 p=some (t,rest)) (ht:t%2=0):
  dGo base size out p=if t/2+1≤size-out.length∧t/2+1≤rest.length then dGo base size (out++rest.take (t/2+1)) (rest.drop (t/2+1)) else none:=by
 have hl:=Zh h
 cases p with
 | nil=>simp at hl
 | cons c q=>
  unfold dGo;rw [List.length_cons,dF,h];simp only;rw [if_pos ht];split
  ·rw [Zeh]
   ·rw [List.length_drop,List.length_cons] at *; omega
   ·exact lR _
  ·rfl
theorem Z7p {base:LU} {size:Nat} {out p:LU} {t:Nat} {rest:LU} (h:Z3 p=some (t,rest)) (ht:t%2=1) {d:Nat} {rest2:LU} (h2:Z3 rest=some (d,rest2)):
  dGo base size out p=if t/2+1≤size-out.length∧d+(t/2+1)≤base.length then dGo base size (out++(base.drop d).take (t/2+1)) rest2 else none:=by
 have hl:=Zh h;have hl2:=Zh h2
 cases p with
 | nil=>simp at hl
 | cons c q=>
  unfold dGo;rw [List.length_cons,dF,h];simp only;rw [if_neg (by omega),h2];simp only;split
  ·rw [Zeh]
   ·rw [List.length_cons] at *; omega
   ·exact lR _
  ·rfl
theorem Z8I {base:LU} {size:Nat} {out p:LU} {t:Nat} {rest:LU} (h:Z3 p=some (t,rest)) (ht:t%2=1) (h2:Z3 rest=none):dGo base size out p=none:=by
 have hl:=Zh h
 cases p with
 | nil=>simp at hl
 | cons c q=>
  unfold dGo;rw [List.length_cons,dF,h];simp only;rw [if_neg (by omega),h2]
theorem Z1d (a b:LU):begins a b≤a.length∧begins a b≤b.length:=Zh2 _ _ _
theorem Z6s {a b:LU} {j:Nat} (h:j<begins a b):a[j]?=b[j]?:=Zci _ _ _ _ h
theorem Z9h {a b:LU} {n:Nat} (h1:n≤a.length) (h2:n≤b.length) (h: ∀j,j<n→a[j]?=b[j]?):n≤begins a b:=Zh3 _ _ _ _ h1 h1 h2 h
theorem Z3B {a b:LU} {n:Nat} (h:n≤begins a b):a.take n=b.take n:=by
 apply List.ext_getElem?;intro j;rw [List.getElem?_take,List.getElem?_take];split
 ·exact Z6s (by omega)
 ·rfl
theorem Z7q {a b:LU} {n:Nat} (h1:n≤a.length) (h2:n≤b.length) (h:a.take n=b.take n):n≤begins a b:=by
 refine Z9h h1 h2 fun j hj=> ?_;have:=congrArg (fun l=>l[j]?) h;simp only [List.getElem?_take,if_pos hj] at this;exact this
theorem Zag (a b:LU):ends a b≤a.length∧ends a b≤b.length:=by
 have:=Z1d a.reverse b.reverse;simpa [ends] using this
theorem Zf1 (a b:LU):a.drop (a.length-ends a b)=b.drop (b.length-ends a b):=by
 have h:a.reverse.take (ends a b)=b.reverse.take (ends a b):=Z3B (lR _);rw [List.take_reverse,List.take_reverse] at h;exact List.reverse_inj.1 h
theorem Zbm {base b:LU}: ∀(f k k':Nat),Z2Z base b f k=some k'→k'+16≤base.length∧(base.drop k').take 16=b.take 16:=by
 intro f
 induction f with
 | zero=>intro k k' h;cases h
 | succ f ih=>
  intro k k' h;rw [Z2Z] at h;split at h
  ·split at h
   ·injection h with h
    subst h;exact ⟨by assumption,by assumption⟩
   ·exact ih _ _ h
  ·cases h
theorem Z1l {base b:LU} {k:Nat} (h:Z0C base b=some k):k+16≤base.length∧16≤begins (base.drop k) b:=by
 unfold Z0C at h;split at h
 ·have:=Zbm _ _ _ h
  exact ⟨this.1,Z7q (by rw [List.length_drop];omega) (by assumption) this.2⟩
 ·cases h
theorem ZiH {base:LU} {size:Nat} {out x rest:LU} (hx:x.length≤Z02) (hs:x.length≤size-out.length):dGo base size out (runB x++rest)=dGo base size (out++x) rest:=by
 by_cases h0:x=[]
 ·subst h0
  simp [runB]
 ·have hp:0<x.length:=List.length_pos_iff.2 h0
  unfold runB;rw [if_neg h0,List.append_assoc];have ht:=ZI (2*(x.length-1)) (x++rest) (by unfold Zb;unfold Z02 at hx;omega);rw [Zaf ht (by omega),show 2*(x.length-1)/2+1=x.length by omega,if_pos ⟨hs,by rw [List.length_append];omega⟩,List.take_left,List.drop_left]
theorem Zd5 {base:LU} {size n k:Nat} {out rest:LU} (hb:base.length≤Z02) (hs:n≤size-out.length) (hk:k+n≤base.length):dGo base size out (Z0d n k++rest)=dGo base size (out++(base.drop k).take n) rest:=by
 by_cases h0:n=0
 ·subst h0
  simp [Z0d]
 ·unfold Z0d
  rw [if_neg h0,List.append_assoc];have ht:=ZI (2*(n-1)+1) (num k++rest) (by unfold Zb;unfold Z02 at hb;omega);have ht2:=ZI k rest (by unfold Zb;unfold Z02 at hb;omega);rw [Z7p ht (by omega) ht2,show (2*(n-1)+1)/2+1=n by omega,if_pos ⟨hs,hk⟩]
theorem ZjC {base m:LU} {size:Nat} {out rest:LU} (hb:base.length≤Z02) (hm:m.length≤Z02) (hs:out.length+m.length≤size): ∀(f i frm:Nat),m.length-i≤f→frm≤i→i≤m.length→
  dGo base size (out++m.take frm) (mid base m f i frm++rest)=dGo base size (out++m) rest:=by
 have hend: ∀frm,frm≤m.length→dGo base size (out++m.take frm) (runB (m.drop frm)++rest)=dGo base size (out++m) rest:=fun frm hf=>by
  rw [ZiH (by rw [List.length_drop];omega) (by rw [List.length_drop,List.length_append,List.length_take];omega),List.append_assoc,List.take_append_drop]
 intro f
 induction f with
 | zero=>intro i frm h1 h2 h3;rw [mid];exact hend frm (by omega)
 | succ f ih=>
  intro i frm h1 h2 h3;rw [mid];split
  ·cases hk:Z0C base (m.drop i) with
   | none=>exact ih _ _ (by omega) (by omega) (by omega)
   | some k=>
    have hsp:=Z1l hk;have hl:=Z1d (base.drop k) (m.drop i);have htk:=Z3B (a:=base.drop k) (b:=m.drop i) (lR _);rw [List.length_drop,List.length_drop] at hl;simp only [List.append_assoc];obtain ⟨g,hg⟩: ∃g,g=begins (base.drop k) (m.drop i):=⟨_,rfl⟩;rw [←hg] at hl hsp htk ⊢;have e1:out++(m.take frm++(m.drop frm).take (i-frm))=out++m.take i:=by
     congr 1
     rw [←List.take_add]
     congr 1
     omega
    have e2:out++(m.take i++(base.drop k).take g)=out++m.take (i+g):=by
     congr 1
     rw [htk,←List.take_add]
    rw [ZiH (by rw [List.length_take,List.length_drop];omega) (by rw [List.length_take,List.length_drop,List.length_append,List.length_take];omega),List.append_assoc,e1,
     Zd5 hb (by rw [List.length_append,List.length_take];omega) (by omega),List.append_assoc,e2]
    exact ih _ _ (by omega) (lR _) (by omega)
  ·exact hend frm (by omega)
theorem Zf2 {base target:LU} (hb:base.length≤Z02) (ht:target.length≤Z02) (most:Int):Z1T base (encL base target) most=if (target.length:Int)≤most then some target else none:=by
 have hp:=Z1d base target;have hpt:=Z3B (a:=base) (b:=target) (lR _);have he:=Zag (base.drop (begins base target)) (target.drop (begins base target));have hed:=Zf1 (base.drop (begins base target)) (target.drop (begins base target));unfold Z1T encL;rw [ZI _ _ (by unfold Zb;unfold Z02 at hb;omega)];simp only;rw [if_pos trivial,ZI _ _ (by unfold Zb;unfold Z02 at ht;omega)];simp only;obtain ⟨p,hp'⟩: ∃p,p=begins base target:=⟨_,rfl⟩;rw [←hp'] at hp hpt he hed ⊢;obtain ⟨e,he'⟩: ∃e,e=ends (base.drop p) (target.drop p):=⟨_,rfl⟩;rw [←he'] at he hed ⊢;rw [List.length_drop,List.length_drop] at he;rw [List.length_drop,List.length_drop,List.drop_drop,List.drop_drop,show p+(base.length-p-e)=base.length-e by omega,show p+(target.length-p-e)=target.length-e by omega] at hed;have hml:((target.drop p).take (target.length-p-e)).length=target.length-p-e:=by rw [List.length_take,List.length_drop];omega
 have h1:=ZjC (base:=base) (m:=(target.drop p).take (target.length-p-e)) (size:=target.length) (out:=[]++(base.drop 0).take p) (rest:=Z0d e (base.length-e)) hb (by omega)
  (by rw [hml,List.nil_append,List.drop_zero,List.length_take];omega) ((target.drop p).take (target.length-p-e)).length 0 0 (by omega) (lR _) (zL _)
 have h2:=Zd5 (base:=base) (size:=target.length) (n:=e) (k:=base.length-e) (out:=([]++(base.drop 0).take p)++(target.drop p).take (target.length-p-e)) (rest:=[]) hb
  (by rw [List.length_append,hml,List.nil_append,List.drop_zero,List.length_take];omega) (by omega)
 rw [List.take_zero,List.append_nil] at h1;rw [List.append_nil] at h2;have hall:dGo base target.length [] (Z0d p 0++(midL base ((target.drop p).take (target.length-p-e))++Z0d e (base.length-e)))=some target:=by
  rw [Zd5 hb (by simp;omega) (by omega)];unfold midL;rw [h1,h2,Zae];have e3:([]++(base.drop 0).take p)++(target.drop p).take (target.length-p-e)++(base.drop (base.length-e)).take e=target:=by
   have hlast:(base.drop (base.length-e)).take e=target.drop (target.length-e):=by rw [List.take_of_length_le (by rw [List.length_drop];omega),hed]
   rw [hlast,List.nil_append,List.drop_zero,hpt,←List.take_add,show p+(target.length-p-e)=target.length-e by omega,List.take_append_drop]
  rw [e3,if_pos rfl]
 rw [hall]
theorem Z5l {n k:Nat} (hn:n≤16777216) (hk:k<268435456):(Z0d n k).length≤8:=by
 unfold Z0d;split
 ·simp
 ·rw [List.length_append]
  have:=num4 (n:=2*(n-1)+1) (by omega);have:=num4 hk;omega
theorem Z4D {n:Nat} (hn:n≤16777216):(Z0d n 0).length≤5:=by
 unfold Z0d;split
 ·simp
 ·rw [List.length_append]
  have:=num4 (n:=2*(n-1)+1) (by omega);have:=num1 (n:=0) (by omega);omega
theorem Z9i {base m:LU} (hb:base.length≤16777216) (hm:m.length≤16777216): ∀(f i frm:Nat),frm≤i→i≤m.length→(mid base m f i frm).length≤m.length-frm+4:=by
 have hend: ∀frm,frm≤m.length→(runB (m.drop frm)).length≤m.length-frm+4:=fun frm hf=>by
  have:=(Z2p (m.drop frm) (by rw [List.length_drop];omega)).2.2.2;rw [List.length_drop] at this;exact this
 intro f
 induction f with
 | zero=>intro i frm h1 h2;rw [mid];exact hend frm (by omega)
 | succ f ih=>
  intro i frm h1 h2;rw [mid];split
  ·cases hk:Z0C base (m.drop i) with
   | none=>exact ih _ _ (by omega) (by omega)
   | some k=>
    have hsp:=Z1l hk;have hl:=Z1d (base.drop k) (m.drop i);rw [List.length_drop,List.length_drop] at hl;simp only;obtain ⟨g,hg⟩: ∃g,g=begins (base.drop k) (m.drop i):=⟨_,rfl⟩;rw [←hg] at hl hsp ⊢;have h3:=ih (i+g) (i+g) (lR _) (by omega);have h4:=Z5l (n:=g) (k:=k) (by omega) (by omega);have h5:=(Z2p ((m.drop frm).take (i-frm)) (by rw [List.length_take,List.length_drop];omega)).2.2.2;rw [List.length_take,List.length_drop] at h5;rw [List.length_append,List.length_append];omega
  ·exact hend frm (by omega)
theorem Zf3 {base target:LU} (hb:base.length≤16777216) (ht:target.length≤16777216):
  (encL base target).length≤target.length-begins base target-ends (base.drop (begins base target)) (target.drop (begins base target))+25:=by
 have hp:=Z1d base target;have he:=Zag (base.drop (begins base target)) (target.drop (begins base target));unfold encL midL;obtain ⟨p,hp'⟩: ∃p,p=begins base target:=⟨_,rfl⟩;rw [←hp'] at hp he ⊢;obtain ⟨e,he'⟩: ∃e,e=ends (base.drop p) (target.drop p):=⟨_,rfl⟩;rw [←he'] at he ⊢;rw [List.length_drop,List.length_drop] at he;have hml:((target.drop p).take (target.length-p-e)).length=target.length-p-e:=by rw [List.length_take,List.length_drop];omega
 have h1:=Z9i (base:=base) (m:=(target.drop p).take (target.length-p-e)) hb (by omega) ((target.drop p).take (target.length-p-e)).length 0 0 (lR _) (zL _);have h2:=Z4D (n:=p) (by omega);have h3:=Z5l (n:=e) (k:=base.length-e) (by omega) (by omega);have h4:=num4 (n:=base.length) (by omega);have h5:=num4 (n:=target.length) (by omega);simp only [List.length_append];omega
theorem Z3C {a b:LU} {n:Nat} (h1:n≤a.length) (h2:n≤b.length) (h: ∀j,j<n→a[j]?=b[j]?) (hs:n=a.length∨n=b.length∨a[n]?≠b[n]?):begins a b=n:=by
 have h3:=Z9h h1 h2 h;have h4:=Z1d a b;rcases Nat.lt_or_ge n (begins a b) with h5 | h5
 ·rcases hs with hs | hs | hs
  ·omega
  ·omega
  ·exact absurd (Z6s h5) hs
 ·omega
end Go.Dol
namespace Go.Proofs.YtecpbcmpncgokaaGreat
open Go.RowKit Go.Dol
def Zf4 (a b:LU) (w:World) (n:Value) (wr:World):Prop:=
 ∃m q:Nat,n= .int .i64 m∧m≤a.length∧m≤b.length∧Hid (∀j,j<m→a[j]?=b[j]?)∧Hid (wr=w.drewN q)
end Go.Proofs.YtecpbcmpncgokaaGreat
namespace Go.Proofs.YtecpbcmpncgokaaGreat
open Go.RowKit Go.Dol
end Go.Proofs.YtecpbcmpncgokaaGreat
namespace Go.Dol
theorem Zf5 {base b:LU}: ∀(m f k:Nat),base.length≤k+f→k+16*m+16≤base.length→(base.drop (k+16*m)).take 16=b.take 16→(∀m',m'<m→(base.drop (k+16*m')).take 16≠b.take 16)→Z2Z base b f k=some (k+16*m):=by
 intro m
 induction m with
 | zero=>
  intro f k hf h1 h2 _
  cases f with
  | zero=>omega
  | succ f=>rw [Z2Z,if_pos (by omega),if_pos (by simpa using h2)];rfl
 | succ m ih=>
  intro f k hf h1 h2 h3
  cases f with
  | zero=>omega
  | succ f=>
   rw [Z2Z,if_pos (by omega),if_neg (by simpa using h3 0 (by omega)),ih f (k+16) (by omega) (by omega) (by rw [←h2];congr 2;omega) fun m' hm'=> ?_]
   ·congr 1;omega
   ·have:=h3 (m'+1) (by omega)
    rw [show k+16*(m'+1)=k+16+16*m' by omega] at this;exact this
theorem Zbn {base b:LU}: ∀(f k:Nat),(∀m,k+16*m+16≤base.length→(base.drop (k+16*m)).take 16≠b.take 16)→Z2Z base b f k=none:=by
 intro f
 induction f with
 | zero=>intro k _;rfl
 | succ f ih=>
  intro k h;rw [Z2Z];split
  ·rw [if_neg (by simpa using h 0 (by omega))]
   refine ih _ fun m hm=> ?_;have:=h (m+1) (by omega);rw [show k+16*(m+1)=k+16+16*m by omega] at this;exact this
  ·rfl
def kvB (K:LU):Value:=.agg (bc K).toArray
theorem Zi0 {K L:LU} (h:kvB K=kvB L):K=L:=by
 have h1:bc K=bc L:=by
  have h2:(bc K).toArray=(bc L).toArray:=by injection h
  simpa using h2
 refine (List.map_inj_right (fun a b hab=> ?_)).1 h1;injection hab with _ hab
 exact UInt8.toNat_inj.1 (by omega)
def Idx (base:LU) (n:Nat) (al:List (Value×Value)):Prop:=
 (∀p∈al,∃m,m<n∧p=(kvB ((base.drop (16*m)).take 16),.int .i64 ((16*m:Nat):Int))∧ ∀m',m'<m→(base.drop (16*m')).take 16≠(base.drop (16*m)).take 16)∧
 (∀m,m<n→ ∃v,(kvB ((base.drop (16*m)).take 16),v)∈al)
theorem Idx.nil (base:LU):Idx base 0 []:=⟨by simp,fun m h=>by omega⟩
theorem Idx.met {base:LU} {n:Nat} {al:List (Value×Value)} {v:Value} (h:Idx base n al) (hm:(kvB ((base.drop (16*n)).take 16),v)∈al):Idx base (n+1) al:=by
 refine ⟨fun p hp=> ?_,fun m hmn=> ?_⟩
 ·obtain ⟨m,h1,h2⟩:=h.1 p hp
  exact ⟨m,by omega,h2⟩
 ·rcases Nat.lt_or_ge m n with h1 | h1
  ·exact h.2 m h1
  ·obtain rfl:m=n:=by omega
   exact ⟨v,hm⟩
theorem Idx.put {base:LU} {n:Nat} {al al':List (Value×Value)} (h:Idx base n al) (hn: ∀p∈al,p.1≠kvB ((base.drop (16*n)).take 16)) (hp:MPut al (kvB ((base.drop (16*n)).take 16)) (.int .i64 ((16*n:Nat):Int)) al'):Idx base (n+1) al':=by
 rcases hp with ⟨_,rfl⟩ | ⟨l,r,u0,rfl,rfl⟩
 ·refine ⟨fun p hp=> ?_,fun m hmn=> ?_⟩
  ·rcases List.mem_append.1 hp with hp | hp
   ·obtain ⟨m,h1,h2⟩:=h.1 p hp
    exact ⟨m,by omega,h2⟩
   ·refine ⟨n,by omega,by simpa using hp,fun m' hm' e=> ?_⟩
    obtain ⟨v,hv⟩:=h.2 m' hm';exact hn _ hv (by rw [e])
  ·rcases Nat.lt_or_ge m n with h1 | h1
   ·obtain ⟨v,hv⟩:=h.2 m h1
    exact ⟨v,List.mem_append.2 (.inl hv)⟩
   ·obtain rfl:m=n:=by omega
    exact ⟨.int .i64 ((16*m:Nat):Int),List.mem_append.2 (.inr (List.mem_singleton.2 rfl))⟩
 ·exact absurd rfl (hn (kvB ((base.drop (16*n)).take 16),u0) (by simp))
theorem Idx.hit {base b:LU} {n:Nat} {al:List (Value×Value)} {v:Value} (h:Idx base n al) (hn:16*n≤base.length) (hb:16≤b.length) (hv:(kvB (b.take 16),v)∈al): ∃k:Nat,v= .int .i64 (k:Nat)∧Z0C base b=some k:=by
 obtain ⟨m,h1,h2,h3⟩:=h.1 _ hv;injection h2 with h2 h4
 have e:=Zi0 h2;refine ⟨16*m,h4,?_⟩;unfold Z0C;rw [if_pos hb];have:=Zf5 (base:=base) (b:=b) m base.length 0 (by omega) (by omega) (by rw [Nat.zero_add,e]) fun m' hm'=>by rw [Nat.zero_add,e];exact h3 m' hm'
 rw [this,Nat.zero_add]
theorem Idx.miss {base b:LU} {n:Nat} {al:List (Value×Value)} (h:Idx base n al) (hn:base.length<16*n+16) (hv: ∀p∈al,p.1≠kvB (b.take 16)):Z0C base b=none:=by
 unfold Z0C;split
 ·refine Zbn _ _ fun m hm e=> ?_
  rw [Nat.zero_add] at hm e;obtain ⟨v,hv'⟩:=h.2 m (by omega);exact hv _ hv' (by rw [←e])
 ·rfl
end Go.Dol
namespace Go.Proofs.YtecpbcmpncgokaaGreat
open Go.RowKit Go.Dol
end Go.Proofs.YtecpbcmpncgokaaGreat
namespace Go.Dol
open Go.RowKit
theorem Zga (base m:LU): ∀(f g i frm:Nat),m.length-i≤f→m.length-i≤g→mid base m f i frm=mid base m g i frm:=by
 intro f
 induction f with
 | zero=>
  intro g i frm h1 h2
  cases g with
  | zero=>rfl
  | succ g=>rw [mid,mid,if_neg (by omega)]
 | succ f ih=>
  intro g i frm h1 h2
  cases g with
  | zero=>rw [mid,mid,if_neg (by omega)]
  | succ g=>
   rw [mid,mid];split
   ·cases hk:Z0C base (m.drop i) with
    | none=>exact ih g _ _ (by omega) (by omega)
    | some k=>
     have hsp:=Z1l hk;simp only;rw [ih g _ _ (by omega) (by omega)]
   ·rfl
def midG (base m:LU) (i frm:Nat):LU:=mid base m (m.length-i) i frm
theorem Zei (base m:LU):midL base m=midG base m 0 0:=rfl
theorem Zbo {base m:LU} {i frm:Nat} (h:m.length≤i):midG base m i frm=runB (m.drop frm):=by
 unfold midG;rw [show m.length-i=0 by omega]
 rfl
theorem Z9j {base m:LU} {i frm:Nat} (h:i<m.length) (hk:Z0C base (m.drop i)=none):midG base m i frm=midG base m (i+1) frm:=by
 unfold midG;rw [show m.length-i=(m.length-(i+1))+1 by omega,mid,if_pos h,hk]
theorem Zf6 {base m:LU} {i frm k:Nat} (h:i<m.length) (hk:Z0C base (m.drop i)=some k):
  midG base m i frm=runB ((m.drop frm).take (i-frm))++(Z0d (begins (base.drop k) (m.drop i)) k++midG base m (i+begins (base.drop k) (m.drop i)) (i+begins (base.drop k) (m.drop i))):=by
 have hsp:=Z1l hk;unfold midG;rw [show m.length-i=(m.length-(i+1))+1 by omega,mid,if_pos h,hk];simp only;rw [Zga base m _ (m.length-(i+begins (base.drop k) (m.drop i))) _ _ (by omega) (lR _)]
theorem Zd6 {base m:LU}: ∀(d i frm:Nat),m.length-i≤d→m.length<i+16→midG base m i frm=runB (m.drop frm):=by
 intro d
 induction d with
 | zero=>intro i frm h1 h2;exact Zbo (by omega)
 | succ d ih=>
  intro i frm h1 h2;rcases Nat.lt_or_ge i m.length with h | h
  ·rw [Z9j h (by unfold Z0C;rw [if_neg (by rw [List.length_drop];omega)])]
   exact ih _ _ (by omega) (by omega)
  ·exact Zbo h
theorem Zf7 (base target:LU) {p e:Nat} (hp:p=begins base target) (he:e=ends (base.drop p) (target.drop p)):
  encL base target=num base.length++(num target.length++(Z0d p 0++(midG base ((target.drop p).take (target.length-p-e)) 0 0++Z0d e (base.length-e)))):=by
 subst hp;subst he
 rfl
section
variable {P:Program} {w:World} {B:Nat} {A:OA} {l:LU} {c:Nat} {t e:TypeId}
end
end Go.Dol
namespace Go.Proofs.YtecpbcmpncgokaaGreat
open Go.RowKit Go.Dol
theorem Z7r {k:Nat} (h:k≤4611686018427387903):Zm (k:Int)=k:=by unfold Zm;omega
theorem _root_.Go.Dol.Rd.aliveD {w w':World} {A:OA} {n:Nat} {xs:List Value} {size:Nat} (h:Rd w w.heap.size size A n xs) (hb:Below w.heap.size w w'):Rd w' w'.heap.size size A n xs:=(h.below hb).more hb.size
end Go.Proofs.YtecpbcmpncgokaaGreat
namespace Go.Proofs.YtecpbcmpncgokaaGreat
open Go.RowKit
def ZcF:Go.Shelf.Ren:=⟨fun | 137=>172 | 217=>243 | 266=>270 | n=>n,fun | 9=>9 | 5=>5 | 3=>3 | n=>n,fun | n=>n⟩
theorem Zit:Go.Proofs.Lays.n137 Tryz.prog ZcF:={
 mixed:=by kernel_rfl
 f137:=Tryz.func172.trans (congrArg some (by kernel_rfl))
 f217:=Tryz.func243.trans (congrArg some (by kernel_rfl))
 f266:=Tryz.func270.trans (congrArg some (by kernel_rfl))
 t3:=Tryz.underlying3
 a3:=Tryz.isAgg3
 z3:=Tryz.sizeOf3
 v3:=Tryz.zeroValue3
 t5:=Tryz.underlying5
 a5:=Tryz.isAgg5
 z5:=Tryz.sizeOf5
 v5:=Tryz.zeroValue5
 t9:=Tryz.underlying9
 a9:=Tryz.isAgg9
 z9:=Tryz.sizeOf9
 v9:=Tryz.zeroValue9 }
theorem Z3A (s:BA) (c:Int) (w:World):
  Calls Tryz.prog 172 #[.string s,.int .u8 c] w fun e w'=>e= .returned (.int .i64 (Lib.indexByte s.data.toList c.toNat.toUInt8))∧w'=w:=Any.strings_IndexByte Zit s c w
end Go.Proofs.YtecpbcmpncgokaaGreat
namespace Go.Dol
theorem Z6l {l:LU} {c:UInt8} (h:l.contains c=true):0≤Lib.indexByte l c:=by
 have h1:=Lib.indexByte_ge l c;rcases (show Lib.indexByte l c<0∨0≤Lib.indexByte l c by omega) with h2 | h2
 ·have h3:Lib.indexByte l c= -1:=by omega
  have h4:=Lib.indexByte_none h3;rw [List.contains_iff_mem] at h;obtain ⟨i,hi,e⟩:=List.getElem_of_mem h;exact absurd (by rw [gE hi,e]) (h4 i)
 ·exact h2
theorem Z44 {l:LU} {c:UInt8} (h:l.contains c=false):Lib.indexByte l c= -1:=by
 have h1:=Lib.indexByte_ge l c;rcases (show Lib.indexByte l c<0∨0≤Lib.indexByte l c by omega) with h2 | h2
 ·omega
 ·obtain ⟨k,hk⟩: ∃k:Nat,Lib.indexByte l c=k:=⟨(Lib.indexByte l c).toNat,by omega⟩
  have h3:=(Lib.indexByte_some hk).1;have h4:c∈l:=by
   obtain ⟨hi,e⟩:=List.getElem?_eq_some_iff.1 h3;rw [←e];exact List.getElem_mem hi
  rw [←List.contains_iff_mem,h] at h4;cases h4
end Go.Dol
namespace Go.Proofs.YtecpbcmpncgokaaGreat
open Go.RowKit Go.Dol
theorem Z1x (s:BA) (k:Int) (c:UInt8) (hc:k.toNat.toUInt8=c) (w:World):Calls Tryz.prog 172 #[.string s,.int .u8 k] w fun e w'=>e= .returned (.int .i64 (Lib.indexByte s.data.toList c))∧w'=w:=by
 subst hc;exact Z3A s k w
end Go.Proofs.YtecpbcmpncgokaaGreat
