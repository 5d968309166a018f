/- What the layer 'press' computes, in plain Lean: copies of what stood ahead, and bytes again. Conditions: lengths below 2^47, the bound below 2^46. -/
import Derived.Test.YtecpbcmpncgokaaGreatCodeA
import Derived.Test.YtecpbcmpncgokaaGreatWordsA
import Derived.Deep.QuietTactic
import Derived.BigQuiet
import Derived.StillTailTactics
import Derived.Deep.RegionHeld3
import Derived.Deep.RegionLaw
import Derived.Deep.DrawnRows
import Derived.Deep.LoopGhost
import Derived.Test.YtecpbcmpncgokaaGreatShort
set_option maxRecDepth 100000
set_option maxHeartbeats 8000000
set_option linter.unusedVariables false
namespace Go.Dol
def cnt:Nat→LU→LU→Nat
 | f+1,x::xs,y::ys=>if x=y then cnt f xs ys+1 else 0
 | _,_,_=>0
def ZV (b:LU) (k i:Nat):Nat:=cnt 259 (b.drop k) (b.drop i)
theorem Zga (f:Nat): ∀xs ys:LU,cnt f xs ys≤f∧cnt f xs ys≤ys.length:=by
 induction f with
 | zero=>intro xs ys;simp [cnt]
 | succ f ih=>
  intro xs ys
  cases xs with
  | nil=>simp [cnt]
  | cons x xs=>
   cases ys with
   | nil=>simp [cnt]
   | cons y ys=>
    have:=ih xs ys;rw [cnt];split
    ·simp only [List.length_cons];omega
    ·omega
theorem Zea (f:Nat): ∀(xs ys:LU) (j:Nat),j<cnt f xs ys→xs[j]?=ys[j]?:=by
 induction f with
 | zero=>intro xs ys j h;simp [cnt] at h
 | succ f ih=>
  intro xs ys j h
  cases xs with
  | nil=>simp [cnt] at h
  | cons x xs=>
   cases ys with
   | nil=>simp [cnt] at h
   | cons y ys=>
    rw [cnt] at h;split at h
    ·rename_i e
     cases j with
     | zero=>simp [e]
     | succ j=>simpa using ih xs ys j (by omega)
    ·omega
theorem Zgb (f:Nat): ∀(xs ys:LU) (n:Nat),n≤f→n≤xs.length→n≤ys.length→(∀j,j<n→xs[j]?=ys[j]?)→n≤cnt f xs ys:=by
 induction f with
 | zero=>intro xs ys n h _ _ _;omega
 | succ f ih=>
  intro xs ys n h1 h2 h3 h4
  cases n with
  | zero=>omega
  | succ n=>
   cases xs with
   | nil=>simp at h2
   | cons x xs=>
    cases ys with
    | nil=>simp at h3
    | cons y ys=>
     have e:x=y:=by simpa using h4 0 (by omega)
     rw [cnt,if_pos e];have:=ih xs ys n (by omega) (by simpa using h2) (by simpa using h3) (fun j hj=>by simpa using h4 (j+1) (by omega));omega
theorem Z5A (b:LU) (k i:Nat):ZV b k i≤259∧ZV b k i≤b.length-i:=by
 have:=Zga 259 (b.drop k) (b.drop i);rwa [List.length_drop] at this
theorem Z55 {b:LU} {k i j:Nat} (h:j<ZV b k i):b[k+j]?=b[i+j]?:=by
 have:=Zea 259 (b.drop k) (b.drop i) j h;rwa [List.getElem?_drop,List.getElem?_drop] at this
theorem ZaR {b:LU} {k i n:Nat} (hk:k≤i) (h1:n≤259) (h2:i+n≤b.length) (h: ∀j,j<n→b[k+j]?=b[i+j]?):n≤ZV b k i:=
 Zgb 259 _ _ n h1 (by rw [List.length_drop];omega) (by rw [List.length_drop];omega) fun j hj=>by
  rw [List.getElem?_drop,List.getElem?_drop];exact h j hj
theorem Z1G {b:LU} {k i n:Nat} (hk:k≤i) (h1:n≤259) (h2:i+n≤b.length) (h: ∀j,j<n→b[k+j]?=b[i+j]?) (hs:n=259∨i+n=b.length∨b[k+n]?≠b[i+n]?):ZV b k i=n:=by
 have hge:=ZaR hk h1 h2 h;have hle:=Z5A b k i;rcases Nat.lt_or_ge n (ZV b k i) with hlt | hlt
 ·rcases hs with hs | hs | hs
  ·omega
  ·omega
  ·exact absurd (Z55 hlt) hs
 ·omega
def Z0l (b:LU) (i:Nat):Nat→Nat×Nat
 | 0=>(0,0)
 | d+1=>if (Z0l b i d).1<ZV b (i-(d+1)) i then (ZV b (i-(d+1)) i,d+1) else Z0l b i d
def Zj (b:LU) (i:Nat):Nat×Nat:=Z0l b i (min 4096 i)
theorem Z2s (b:LU) (i:Nat): ∀d,(Z0l b i d).2≤d∧(Z0l b i d).1≤259∧(Z0l b i d).1≤b.length-i∧(0<(Z0l b i d).1→0<(Z0l b i d).2∧ZV b (i-(Z0l b i d).2) i=(Z0l b i d).1)
 | 0=>by simp [Z0l]
 | d+1=>by
  have ih:=Z2s b i d;have ha:=Z5A b (i-(d+1)) i;rw [Z0l];split
  ·exact ⟨lR _,ha.1,ha.2,fun _=>⟨by omega,rfl⟩⟩
  ·exact ⟨by omega,ih.2.1,ih.2.2.1,ih.2.2.2⟩
theorem Z7u {b:LU} {i d:Nat} (h:(Z0l b i d).1=259): ∀m,Z0l b i (d+m)=Z0l b i d
 | 0=>rfl
 | m+1=>by
  have ha:=Z5A b (i-(d+m+1)) i;rw [show d+(m+1)=(d+m)+1 from rfl,Z0l,Z7u h m,if_neg (by omega)]
def lngD (b:LU) (i d:Nat):Nat×Nat:=if 4≤(Z0l b i d).1 then Z0l b i d else (0,0)
theorem Zd1 (b:LU) (i:Nat):lngD b i 0=(0,0):=by simp [lngD,Z0l]
theorem Zd2 {b:LU} {i d:Nat} (h:ZV b (i-(d+1)) i<4):lngD b i (d+1)=lngD b i d:=by
 unfold lngD;rw [Z0l];split
 ·rw [if_neg (by simp only;omega),if_neg (by omega)]
 ·rfl
theorem Zd3 {b:LU} {i d:Nat} (h:4≤ZV b (i-(d+1)) i):lngD b i (d+1)=if (lngD b i d).1<ZV b (i-(d+1)) i then (ZV b (i-(d+1)) i,d+1) else lngD b i d:=by
 unfold lngD;rw [Z0l]
 by_cases h4:4≤(Z0l b i d).1
 ·rw [if_pos h4]
  by_cases hlt:(Z0l b i d).1<ZV b (i-(d+1)) i
  ·rw [if_pos hlt,if_pos (by simp only;omega)]
  ·rw [if_neg hlt,if_pos h4]
 ·rw [if_neg h4,if_pos (show (Z0l b i d).1<_ by omega),if_pos (show (0:Nat)<_ by omega)]
  rw [if_pos (by simp only;omega)]
theorem Zd4 {b:LU} {i d m:Nat} (h:(lngD b i d).1=259):lngD b i (d+m)=lngD b i d:=by
 unfold lngD at h ⊢;split at h
 ·rw [Z7u h]
 ·simp at h
theorem Z7v {b:LU} {i d:Nat}: ∀m,(∀e,d<e→e≤d+m→ZV b (i-e) i<4)→lngD b i (d+m)=lngD b i d
 | 0,_=>rfl
 | m+1,h=>by
  rw [show d+(m+1)=(d+m)+1 from rfl,Zd2 (h _ (by omega) (by omega)),Z7v m fun e h1 h2=>h e h1 (by omega)]
def lng (b:LU) (i:Nat):Nat×Nat:=lngD b i (min 4096 i)
theorem Zgc (b:LU) (i:Nat):(lng b i).1<4↔(Zj b i).1<4:=by
 unfold lng lngD Zj;split
 ·exact Iff.rfl
 ·constructor
  ·omega
  ·intro _;simp
theorem Zgd {b:LU} {i:Nat} (h:4≤(lng b i).1):lng b i=Zj b i:=by
 unfold lng lngD Zj at*;split
 ·rfl
 ·rename_i h1
  rw [if_neg h1] at h;simp at h
theorem Zfq {b:LU} {i:Nat} (h:b.length<i+4):lng b i=(0,0):=by
 have h1:=(Z2s b i (min 4096 i)).2.2.1;unfold lng lngD;rw [if_neg (by omega)]
theorem ZaS {b:LU} {k i:Nat} (hk:k≤i) (hi:i+4≤b.length):(b.drop k).take 4=(b.drop i).take 4↔4≤ZV b k i:=by
 constructor
 ·intro h
  refine ZaR hk (by omega) hi fun j hj=> ?_;have h1:((b.drop k).take 4)[j]?=((b.drop i).take 4)[j]?:=by rw [h]
  rw [List.getElem?_take,List.getElem?_take,if_pos hj,if_pos hj,List.getElem?_drop,List.getElem?_drop] at h1;exact h1
 ·intro h
  apply List.ext_getElem?;intro j;rw [List.getElem?_take,List.getElem?_take];split
  ·rw [List.getElem?_drop,List.getElem?_drop]
   exact Z55 (by omega)
  ·rfl
def runB (l:LU):LU:=if l=[] then [] else num (2*(l.length-1))++l
theorem Z7w (b:LU) (i:Nat):(Zj b i).1≤b.length-i:=(Z2s b i _).2.2.1
def Z0p (b:LU) (i frm:Nat):LU:=
 if h:i<b.length then
  if (Zj b i).1<4 then Z0p b (i+1) frm
  else runB ((b.drop frm).take (i-frm))++(num (2*((Zj b i).1-4)+1)++(num (Zj b i).2++Z0p b (i+(Zj b i).1) (i+(Zj b i).1)))
 else runB (b.drop frm)
termination_by b.length-i
decreasing_by all_goals omega
def Zp (b:LU):LU:=num b.length++Z0p b 0 0
theorem Z4s {b:LU} {i frm:Nat} (h:b.length≤i):Z0p b i frm=runB (b.drop frm):=by rw [Z0p,dif_neg (by omega)]
theorem Z3o {b:LU} {i frm:Nat} (h:i<b.length) (h4:(Zj b i).1<4):Z0p b i frm=Z0p b (i+1) frm:=by rw [Z0p,dif_pos h,if_pos h4]
theorem Z3p {b:LU} {i frm:Nat} (h:i<b.length) (h4:4≤(Zj b i).1):
  Z0p b i frm=runB ((b.drop frm).take (i-frm))++(num (2*((Zj b i).1-4)+1)++(num (Zj b i).2++Z0p b (i+(Zj b i).1) (i+(Zj b i).1))):=by
 rw [Z0p,dif_pos h,if_neg (by omega)]
theorem Z2a {b:LU} {i:Nat} (h:0<(Zj b i).1):0<(Zj b i).2∧(Zj b i).2≤i∧(Zj b i).2≤4096∧(Zj b i).1≤259∧i+(Zj b i).1≤b.length∧
  ∀j,j<(Zj b i).1→b[i-(Zj b i).2+j]?=b[i+j]?:=by
 have hs:=Z2s b i (min 4096 i);have h4:=hs.2.2.2 h;have hle:=hs.2.2.1;refine ⟨h4.1,?_,?_,hs.2.1,?_,fun j hj=> ?_⟩
 ·have:=hs.1;unfold Zj;omega
 ·have:=hs.1;unfold Zj;omega
 ·unfold Zj at h ⊢; omega
 ·unfold Zj at hj ⊢
  rw [←h4.2] at hj;exact Z55 hj
def Z0W (out:LU) (d:Nat):Nat→LU
 | 0=>out
 | n+1=>Z0W (out++[out.getD (out.length-d) 0]) d n
theorem Z2b (d:Nat): ∀(n:Nat) (out:LU),(Z0W out d n).length=out.length+n
 | 0,out=>rfl
 | n+1,out=>by rw [Z0W,Z2b d n,List.length_append,List.length_singleton];omega
def Z2Z (size:Nat):Nat→LU→LU→Option (LU)
 | _,out,[]=>if out.length=size then some out else none
 | 0,_,_::_=>none
 | f+1,out,c::q=>
  match Z7 (c::q) with
  | none=>none
  | some (t,rest)=>
   if t%2=0 then
    if t/2+1≤size-out.length∧t/2+1≤rest.length then Z2Z size f (out++rest.take (t/2+1)) (rest.drop (t/2+1)) else none
   else
    match Z7 rest with
    | none=>none
    | some (d,rest2)=>if t/2+4≤size-out.length∧t/2+4≤259∧1≤d∧d≤out.length∧d≤4096 then Z2Z size f (Z0W out d (t/2+4)) rest2 else none
def ZO (size:Nat) (out p:LU):Option (LU):=Z2Z size p.length out p
def Z1v (p:LU) (most:Int):Option (LU):=
 match Z7 p with
 | none=>none
 | some (size,rest)=>if (size:Int)≤most then ZO size [] rest else none
theorem ZF {p:LU} {t:Nat} {rest:LU} (h:Z7 p=some (t,rest)):rest.length<p.length:=by
 obtain ⟨rfl,_⟩:=ZC h;have:=Z6O t;rw [List.length_append];omega
theorem Z7x (size:Nat): ∀(f g:Nat) (out p:LU),p.length≤f→p.length≤g→Z2Z size f out p=Z2Z size g out p:=by
 intro f
 induction f with
 | zero=>
  intro g out p hf hg;obtain rfl:p=[]:=nZ (by omega);cases g<;>rfl
 | succ f ih=>
  intro g out p hf hg
  cases p with
  | nil=>cases g<;>rfl
  | cons c q=>
   cases g with
   | zero=>simp at hg
   | succ g=>
    rw [Z2Z,Z2Z]
    cases ht:Z7 (c::q) with
    | none=>rfl
    | some x=>
     obtain ⟨t,rest⟩:=x;have hl:=ZF ht;simp only [List.length_cons] at hl hf hg;simp only;split
     ·split
      ·exact ih g _ _ (by rw [List.length_drop];omega) (by rw [List.length_drop];omega)
      ·rfl
     ·cases ht2:Z7 rest with
      | none=>rfl
      | some y=>
       obtain ⟨d,rest2⟩:=y;have hl2:=ZF ht2;simp only;split
       ·exact ih g _ _ (by omega) (by omega)
       ·rfl
theorem Z2t (size:Nat) (out:LU):ZO size out []=if out.length=size then some out else none:=rfl
theorem Z6s {size:Nat} {out p:LU} (hp:p≠[]) (h:Z7 p=none):ZO size out p=none:=by
 cases p with
 | nil=>exact absurd rfl hp
 | cons c q=>unfold ZO;rw [List.length_cons,Z2Z,h]
theorem Z56 {size:Nat} {out p:LU} {t:Nat} {rest:LU} (h:Z7 p=some (t,rest)) (ht:t%2=0):
  ZO size out p=if t/2+1≤size-out.length∧t/2+1≤rest.length then ZO size (out++rest.take (t/2+1)) (rest.drop (t/2+1)) else none:=by
 have hl:=ZF h
 cases p with
 | nil=>simp at hl
 | cons c q=>
  unfold ZO;rw [List.length_cons,Z2Z,h];simp only;rw [if_pos ht];split
  ·rw [Z7x]
   ·rw [List.length_drop,List.length_cons] at *; omega
   ·exact lR _
  ·rfl
theorem Z1W {size:Nat} {out p:LU} {t:Nat} {rest:LU} (h:Z7 p=some (t,rest)) (ht:t%2=1) {d:Nat} {rest2:LU} (h2:Z7 rest=some (d,rest2)):
  ZO size out p=if t/2+4≤size-out.length∧t/2+4≤259∧1≤d∧d≤out.length∧d≤4096 then ZO size (Z0W out d (t/2+4)) rest2 else none:=by
 have hl:=ZF h;have hl2:=ZF h2
 cases p with
 | nil=>simp at hl
 | cons c q=>
  unfold ZO;rw [List.length_cons,Z2Z,h];simp only;rw [if_neg (by omega),h2];simp only;split
  ·rw [Z7x]
   ·rw [List.length_cons] at *; omega
   ·exact lR _
  ·rfl
theorem Z1H {size:Nat} {out p:LU} {t:Nat} {rest:LU} (h:Z7 p=some (t,rest)) (ht:t%2=1) (h2:Z7 rest=none):ZO size out p=none:=by
 have hl:=ZF h
 cases p with
 | nil=>simp at hl
 | cons c q=>
  unfold ZO;rw [List.length_cons,Z2Z,h];simp only;rw [if_neg (by omega),h2]
theorem Z6L {size:Nat} {out p:LU} {t:Nat} {rest:LU} (h:Z7 p=some (t,rest)) (ht:t%2=1) (hb: ¬(t/2+4≤size-out.length∧t/2+4≤259)):ZO size out p=none:=by
 cases h2:Z7 rest with
 | none=>exact Z1H h ht h2
 | some y=>
  obtain ⟨d,rest2⟩:=y;rw [Z1W h ht h2,if_neg (fun hh=>hb ⟨hh.1,hh.2.1⟩)]
end Go.Dol
namespace Go.Dol
theorem Z7y {b:LU} {d:Nat}: ∀(n i:Nat),1≤d→d≤i→i+n≤b.length→(∀j,j<n→b[i-d+j]?=b[i+j]?)→Z0W (b.take i) d n=b.take (i+n)
 | 0,i,_,_,_,_=>rfl
 | n+1,i,h1,h2,h3,h=>by
  have hl:(b.take i).length=i:=by rw [List.length_take];omega
  have hi:i<b.length:=by omega
  have e:(b.take i).getD ((b.take i).length-d) 0=b[i]:=by
   have h0:=h 0 (by omega);rw [Nat.add_zero,Nat.add_zero,gE hi] at h0;rw [hl,List.getD_eq_getElem?_getD,List.getElem?_take,if_pos (by omega),h0]
   rfl
  rw [Z0W,e,←List.take_succ_eq_append_getElem hi,Z7y n (i+1) h1 (by omega) (by omega) fun j hj=> ?_]
  ·congr 1
   omega
  ·have:=h (j+1) (by omega)
   rw [show i+1-d+j=i-d+(j+1) by omega,show i+1+j=i+(j+1) by omega];exact this
def Z4t:Nat:=1152921504606846975
theorem ZaT {size:Nat} {out l q:LU} (h:l.length≤size-out.length) (hm:l.length≤Z4t):ZO size out (runB l++q)=ZO size (out++l) q:=by
 unfold runB
 by_cases hl:l=[]
 ·rw [if_pos hl,hl]
  simp
 ·have hp:0<l.length:=List.length_pos_iff.2 hl
  rw [if_neg hl,List.append_assoc,Z56 (Z0n (2*(l.length-1)) (l++q) (by unfold Ze;unfold Z4t at hm;omega)) (by omega)];have e:2*(l.length-1)/2+1=l.length:=by omega
  rw [e,if_pos ⟨h,by rw [List.length_append];omega⟩,List.take_left,List.drop_left]
theorem Zd5 {size:Nat} {out q:LU} {n d:Nat} (h4:4≤n) (h1:n≤size-out.length) (h2:n≤259) (h3:1≤d) (h5:d≤out.length) (h6:d≤4096):
  ZO size out (num (2*(n-4)+1)++(num d++q))=ZO size (Z0W out d n) q:=by
 rw [Z1W (Z0n (2*(n-4)+1) (num d++q) (by unfold Ze;omega)) (by omega) (Z0n d q (by unfold Ze;omega))];have e:(2*(n-4)+1)/2+4=n:=by omega
 rw [e,if_pos ⟨h1,h2,h3,h5,h6⟩]
theorem Z8l (b:LU) (hb:b.length≤Z4t): ∀(m i frm:Nat),b.length-i≤m→frm≤i→i≤b.length→ZO b.length (b.take frm) (Z0p b i frm)=some b:=by
 have hend: ∀(i frm:Nat),frm≤i→i=b.length→ZO b.length (b.take frm) (Z0p b i frm)=some b:=by
  intro i frm h1 h2;have hl:(b.take frm).length=frm:=by rw [List.length_take];omega
  have:=ZaT (size:=b.length) (out:=b.take frm) (l:=b.drop frm) (q:=[]) (by rw [List.length_drop,hl];exact lR _) (by rw [List.length_drop];omega);rw [Z4s (by omega),←List.append_nil (runB _),this,List.take_append_drop,Z2t,if_pos rfl]
 intro m
 induction m with
 | zero=>intro i frm h1 h2 h3;exact hend i frm h2 (by omega)
 | succ m ih=>
  intro i frm h1 h2 h3
  by_cases hi:i<b.length
  ·by_cases h4:(Zj b i).1<4
   ·rw [Z3o hi h4]
    exact ih (i+1) frm (by omega) (by omega) (by omega)
   ·have hs:=Z2a (b:=b) (i:=i) (by omega)
    have hl:(b.take frm).length=frm:=by rw [List.length_take];omega
    have hl2:((b.drop frm).take (i-frm)).length=i-frm:=by rw [List.length_take,List.length_drop];omega
    have ht:b.take frm++(b.drop frm).take (i-frm)=b.take i:=by
     have:=List.take_add (l:=b) (i:=frm) (j:=i-frm);rw [←this]
     congr 1
     omega
    have hli:(b.take i).length=i:=by rw [List.length_take];omega
    rw [Z3p hi (by omega),ZaT (by rw [hl2,hl];omega) (by rw [hl2];omega),ht,
     Zd5 (by omega) (by rw [hli];omega) hs.2.2.2.1 hs.1 (by rw [hli];exact hs.2.1) hs.2.2.1,Z7y _ _ hs.1 hs.2.1 hs.2.2.2.2.1 hs.2.2.2.2.2]
    exact ih _ _ (by omega) (lR _) hs.2.2.2.2.1
  ·exact hend i frm h2 (by omega)
theorem ZbY {b:LU} (hb:b.length≤Z4t) (most:Int):Z1v (Zp b) most=if (b.length:Int)≤most then some b else none:=by
 unfold Z1v Zp;rw [Z0n _ _ (by unfold Ze;unfold Z4t at hb;omega)];simp only;have:=Z8l b hb b.length 0 0 (by omega) (lR _) (zL _);rw [List.take_zero] at this;rw [this]
theorem num1 {n:Nat} (h:n<128):(num n).length≤1:=Za 0 n (by omega)
theorem num2 {n:Nat} (h:n<16384):(num n).length≤2:=Za 1 n (by omega)
theorem num4 {n:Nat} (h:n<268435456):(num n).length≤4:=Za 3 n (by omega)
theorem Z3q (l:LU) (h:l.length≤16777216):(l.length=0→(runB l).length=0)∧(l.length≤64→(runB l).length≤l.length+1)∧(l.length≤8192→(runB l).length≤l.length+2)∧(runB l).length≤l.length+4:=by
 unfold runB
 by_cases hl:l=[]
 ·rw [if_pos hl,hl]
  simp
 ·have hp:0<l.length:=List.length_pos_iff.2 hl
  rw [if_neg hl,List.length_append];refine ⟨fun h0=>by omega,fun h1=> ?_,fun h1=> ?_,?_⟩
  ·have:=num1 (n:=2*(l.length-1)) (by omega);omega
  ·have:=num2 (n:=2*(l.length-1)) (by omega);omega
  ·have:=num4 (n:=2*(l.length-1)) (by omega);omega
theorem ZaU (b:LU) (hb:b.length≤16777216): ∀(m i frm:Nat),b.length-i≤m→frm≤i→i≤b.length→4*(Z0p b i frm).length≤5*(b.length-frm)+12:=by
 have hend: ∀(i frm:Nat),frm≤i→i=b.length→4*(Z0p b i frm).length≤5*(b.length-frm)+12:=by
  intro i frm h1 h2;rw [Z4s (by omega)];have hl:(b.drop frm).length=b.length-frm:=List.length_drop;have hc:=Z3q (b.drop frm) (by omega);rw [hl] at hc;rcases (by omega:b.length-frm=0∨(0<b.length-frm∧b.length-frm≤64)∨(64<b.length-frm∧b.length-frm≤8192)∨8192<b.length-frm) with h | h | h | h
  ·have:=hc.1 h;omega
  ·have:=hc.2.1 h.2;omega
  ·have:=hc.2.2.1 h.2;omega
  ·have:=hc.2.2.2;omega
 intro m
 induction m with
 | zero=>intro i frm h1 h2 h3;exact hend i frm h2 (by omega)
 | succ m ih=>
  intro i frm h1 h2 h3
  by_cases hi:i<b.length
  ·by_cases h4:(Zj b i).1<4
   ·rw [Z3o hi h4]
    exact ih (i+1) frm (by omega) (by omega) (by omega)
   ·have hs:=Z2a (b:=b) (i:=i) (by omega)
    have hl2:((b.drop frm).take (i-frm)).length=i-frm:=by rw [List.length_take,List.length_drop];omega
    have hc:=Z3q ((b.drop frm).take (i-frm)) (by omega);rw [hl2] at hc;have hih:=ih (i+(Zj b i).1) (i+(Zj b i).1) (by omega) (lR _) hs.2.2.2.2.1;have hd:=num2 (n:=(Zj b i).2) (by omega);rw [Z3p hi (by omega),List.length_append,List.length_append,List.length_append];have hn2:=num2 (n:=2*((Zj b i).1-4)+1) (by omega);have hrun:4*(runB ((b.drop frm).take (i-frm))).length≤5*(i-frm)+4:=by
     rcases (by omega:i-frm=0∨(0<i-frm∧i-frm≤64)∨(64<i-frm∧i-frm≤8192)∨8192<i-frm) with h | h | h | h
     ·have:=hc.1 h;omega
     ·have:=hc.2.1 h.2;omega
     ·have:=hc.2.2.1 h.2;omega
     ·have:=hc.2.2.2;omega
    by_cases hs7:(Zj b i).1≤67
    ·have hn1:=num1 (n:=2*((Zj b i).1-4)+1) (by omega)
     omega
    ·omega
  ·exact hend i frm h2 (by omega)
theorem Z5B (b:LU) (hb:b.length≤16777216):(Zp b).length≤b.length+b.length/4+9:=by
 have h1:=ZaU b hb b.length 0 0 (by omega) (lR _) (zL _);have h2:=num4 (n:=b.length) (by omega);unfold Zp;rw [List.length_append];omega
end Go.Dol
namespace Go.Proofs.YtecpbcmpncgokaaGreat
open Go.RowKit Go.Dol
def ZaV (b:LU) (k i:Nat) (w:World) (n:Value) (wr:World):Prop:=
 ∃m q:Nat,n= .int .i64 m∧m≤259∧i+m≤b.length∧Hid (∀j,j<m→b[k+j]?=b[i+j]?)∧Hid (wr=w.drewN q)
theorem World.drewN_zero' (w:World):w.drewN 0=w:=rfl
theorem Z7z (A:OA) (b:LU) (c k i:Nat) (w:World) (B:Nat) (hr:Rd w B 1 A b.length (bc b)) (hb:b.length≤140737488355328) (hk:k<i) (hi:i≤b.length):
  Calls Tryz.prog 250 #[.slice A b.length c,.int .i64 k,.int .i64 i] w fun e w'=>e= .returned (.int .i64 (ZV b k i:Nat))∧ ∃n,w'=w.drewN n:=by
 go_in;go_wp2_with fail;go_loopw [7] (fun n wr=>ZaV b k i w n wr) (fun n _=>259-(intOf n).toNat)
 case atStart=>exact ⟨0,0,rfl,by omega,by omega,fun j hj=>by omega,rfl⟩
 case round=>
  obtain ⟨m,q,rfl,hm,him,hs,hwr⟩:=hrel;have hrw:Rd wr B 1 A b.length (bc b):=by rw [hwr.out];exact hr.drewN q
  have hm0:(0:Int)≤(m:Int):=by omega
  have f1:IntKind.i64.wrap ((i:Int)+(m:Int))=(i:Int)+(m:Int):=qJ _ (by omega);have f2:IntKind.i64.wrap ((k:Int)+(m:Int))=(k:Int)+(m:Int):=qJ _ (by omega)
  by_cases h1:m<259
  ·have d1:decide ((m:Int)<259)=true:=by simp;omega
   have d1':(m:Int)<259:=by omega
   by_cases h2:i+m<b.length
   ·have d2:decide ((i:Int)+(m:Int)<(b.length:Int))=true:=by simp;omega
    have d2':(i:Int)+(m:Int)<(b.length:Int):=by omega
    obtain ⟨bb,off,rfl,hbb,hcell⟩:=hrw.at_ (by omega);have c1:=hcell (k+m) _ (Z09 b (k+m) (by omega));have c2:=hcell (i+m) _ (Z09 b (i+m) h2);have g1:b[k+m]?=some b[k+m]:=gE (by omega);have g2:b[i+m]?=some b[i+m]:=gE h2;obtain ⟨x,hx⟩: ∃x,x=(b[k+m]).toNat:=⟨_,rfl⟩;obtain ⟨y,hy⟩: ∃y,y=(b[i+m]).toNat:=⟨_,rfl⟩;rw [←hx] at c1;rw [←hy] at c2;have p1:((i:Int)+(m:Int)).toNat=i+m:=by omega
    have p2:((k:Int)+(m:Int)).toNat=k+m:=by omega
    have r1:(0:Int)≤(k:Int)+(m:Int):=by omega
    have r2:(k:Int)+(m:Int)<(b.length:Int):=by omega
    have r3:(0:Int)≤(i:Int)+(m:Int):=by omega
    have hxy:Hid (b[k+m]?=b[i+m]?↔x=y):=by
     unfold Hid;rw [g1,g2,hx,hy];constructor
     ·intro h;injection h with h;rw [h]
     ·intro h;rw [UInt8.toNat_inj.1 h]
    clear hx hy g1 g2 hcell
    by_cases h3:x=y
    ·have hq:=hxy.out.2 h3
     have HQ:=qI hq;clear hq hxy;subst h3;go_wp2_with fail;go_quiet (fail);go_wp2_with fail;refine ⟨⟨m+1,q+nq,by go_num,by omega,by omega,?_,?_⟩,by simp [intOf];omega⟩
     ·intro j hj
      by_cases hjm:j=m
      ·rw [hjm];exact HQ.out
      ·exact hs.out j (by omega)
     ·unfold Hid;rw [hwr.out,World.drewN_drewN]
    ·have hq: ¬(b[k+m]?=b[i+m]?):=fun h=>h3 (hxy.out.1 h)
     have HQ:=qI hq;have d3:((x:Int)==(y:Int))=false:=by simp;omega
     have ha:=Z1G (b:=b) (k:=k) (i:=i) (n:=m) (by omega) (by omega) (by omega) hs.out (.inr (.inr HQ.out));have HA:=qI ha;clear hq hxy ha;go_wp2_with fail;go_quiet (fail);go_wp2_with fail;go_ret;exact ⟨by rw [HA.out];rfl,q+nq,by rw [hwr.out,World.drewN_drewN]⟩
   ·have d2:decide ((i:Int)+(m:Int)<(b.length:Int))=false:=by simp;omega
    have d2': ¬((i:Int)+(m:Int)<(b.length:Int)):=by omega
    have ha:=Z1G (b:=b) (k:=k) (i:=i) (n:=m) (by omega) (by omega) (by omega) hs.out (.inr (.inl (by omega)));have HA:=qI ha;clear ha;go_wp2_with fail;go_quiet (fail);go_wp2_with fail;go_ret;exact ⟨by rw [HA.out];rfl,q+nq,by rw [hwr.out,World.drewN_drewN]⟩
  ·have hm9:m=259:=by omega
   have d1:decide ((m:Int)<259)=false:=by simp;omega
   have d1': ¬((m:Int)<259):=by omega
   have ha:=Z1G (b:=b) (k:=k) (i:=i) (n:=m) (by omega) (by omega) (by omega) hs.out (.inl hm9);have HA:=qI ha;have HM:=qI hm9;clear ha hm9;go_wp2_with fail;go_quiet (fail);go_wp2_with fail;go_ret;exact ⟨by rw [HA.out];rfl,q+nq,by rw [hwr.out,World.drewN_drewN]⟩
def Zfr (b:LU) (i:Nat) (w:World) (best back d:Value) (wr:World):Prop:=
 ∃e q n m:Nat,best= .int .i64 n∧back= .int .i64 m∧d= .int .i64 e∧1≤e∧e≤min 4096 i+1∧n≤259∧Hid (Z0l b i (e-1)=(n,m))∧Hid (wr=w.drewN q)
theorem Z65 (A:OA) (b:LU) (c i:Nat) (w:World) (B:Nat) (hr:Rd w B 1 A b.length (bc b)) (hb:b.length≤140737488355328) (hi:i≤b.length):
  Calls Tryz.prog 203 #[.slice A b.length c,.int .i64 i] w fun e w'=>e= .returned (.tuple #[.int .i64 ((Zj b i).1:Nat),.int .i64 ((Zj b i).2:Nat)])∧ ∃n,w'=w.drewN n:=by
 go_in;go_wp2_with fail;go_loopw [6,7,8] (fun best back d wr=>Zfr b i w best back d wr) (fun _ _ d _=>4097-(intOf d).toNat)
 case atStart=>exact ⟨1,0,0,0,rfl,rfl,rfl,by omega,by omega,by omega,rfl,rfl⟩
 case round=>
  obtain ⟨d,q,n,m,rfl,rfl,rfl,hd1,hd2,hn,hbst,hwr⟩:=hrel;have hrw:Rd wr B 1 A b.length (bc b):=by rw [hwr.out];exact hr.drewN q
  by_cases h1:d≤4096
  ·have d1:decide ((d:Int)≤4096)=true:=by simp;omega
   have d1':(d:Int)≤4096:=by omega
   by_cases h2:d≤i
   ·have d2:decide (d≤i)=true:=by simp;omega
    have d2':(d:Int)≤(i:Int):=by omega
    have ha:=(Z5A b (i-d) i).1;have f1:IntKind.i64.wrap ((i:Int)-(d:Int))=(i:Int)-(d:Int):=qJ _ (by omega);have f2:(i:Int)-(d:Int)=((i-d:Nat):Int):=by omega
    have hst:Hid (Z0l b i d=if n<ZV b (i-d) i then (ZV b (i-d) i,d) else (n,m)):=by
     unfold Hid;have e:d=(d-1)+1:=by omega
     rw [e,Z0l,←e,hbst.out]
    obtain ⟨x,hx⟩: ∃x,x=ZV b (i-d) i:=⟨_,rfl⟩;rw [←hx] at hst ha;have HX:=qI hx;clear hx;go_wp2_with fail;refine (Z7z A b c (i-d) i wr B hrw hb (by omega) hi).mono ?_;rintro e w1 ⟨rfl,q1,hw1⟩;have hw1':Hid (w1=w.drewN (q+q1)):=by unfold Hid;rw [hw1,hwr.out,World.drewN_drewN]
    rw [←HX.out];clear hw1 f1 f2
    by_cases hlt:n<x
    ·rw [if_pos hlt] at hst
     have hltd:decide ((n:Int)<(x:Int))=true:=by simp;omega
     have hlti:(n:Int)<(x:Int):=by omega
     go_wp2_with fail;exact ⟨⟨d+1,q+q1,x,d,rfl,rfl,by go_num,by omega,by omega,ha,hst,hw1'⟩,by simp [intOf];omega⟩
    ·rw [if_neg hlt] at hst
     have hltd:decide ((n:Int)<(x:Int))=false:=by simp;omega
     have hlti: ¬((n:Int)<(x:Int)):=by omega
     go_wp2_with fail;exact ⟨⟨d+1,q+q1,n,m,rfl,rfl,by go_num,by omega,by omega,hn,hst,hw1'⟩,by simp [intOf];omega⟩
   ·have d2:decide (d≤i)=false:=by simp;omega
    have d2': ¬((d:Int)≤(i:Int)):=by omega
    have hfin:Hid (Zj b i=(n,m)):=by
     unfold Hid Zj;rw [←hbst.out]
     congr 1
     omega
    go_wp2_with fail;go_ret2;rw [hfin.out];exact ⟨rfl,q,hwr.out⟩
  ·have d1:decide ((d:Int)≤4096)=false:=by simp;omega
   have d1': ¬((d:Int)≤4096):=by omega
   have hfin:Hid (Zj b i=(n,m)):=by
    unfold Hid Zj;rw [←hbst.out]
    congr 1
    omega
   go_wp2_with fail;go_ret2;rw [hfin.out];exact ⟨rfl,q,hwr.out⟩
def RetS (w:World) (l:LU) (e:Ending) (w':World):Prop:=
 ∃(l':LU) (A:OA) (c:Nat),Hid (l'=l)∧e= .returned (.slice A l'.length c)∧Rd w' w'.heap.size 1 A l'.length (bc l')∧Below w.heap.size w w'∧l'.length≤c∧c≤maxLen
def ZfJ (w:World) (l:LU) (e:Ending) (w':World):Prop:=
 ∃(l':LU) (A:OA) (c:Nat),Hid (l'=l)∧e= .returned (.slice A l'.length c)∧Far w' 0 A l'∧Below w.heap.size w w'∧l'.length≤c∧c≤maxLen
theorem Z57 (A:OA) (out:LU) (c:Nat) (A2:OA) (l:LU) (n c2:Nat) (w:World) (hn:n=l.length) (hr:Far w 0 A out) (hc:out.length≤c) (hc2:c≤maxLen) (hr2:Rd w w.heap.size 1 A2 n (bc l))
  (hl:out.length+9+n≤140737488355328):
  Calls Tryz.prog 204 #[.slice A out.length c,.slice A2 n c2] w (ZfJ w (out++runB l)):=by
 by_cases h0:l=[]
 ·subst h0
  subst hn;go_in;go_wp2_with fail;go_ret;exact ⟨out,A,c,by simp [Hid,runB],rfl,hr,bR _ _,hc,hc2⟩
 ·have hp:0<l.length:=List.length_pos_iff.2 h0
  have HN:=qI hn;have hp2:0<n:=by omega
  have hz:((n:Int)==0)=false:=by simp;omega
  have f1:IntKind.i64.wrap ((n:Int)-1)=(n:Int)-1:=qJ _ (by omega);have hcl:Hid (Zk (2*((n:Int)-1))=2*(l.length-1)):=by unfold Hid Zk;omega
  clear hn hp;go_in;go_wp2_with fail;refine (Zr A out c _ w hr.1 (by omega)).mono ?_;rintro e w1 ⟨l1,A1,c1,e1,rfl,ho1,hb1,i1,i2⟩;have hl1:l1.length≤out.length+9:=by
   rw [e1.out,List.length_append];have:=Za 8 (Zk (2*((n:Int)-1))) (by have:=Z0v (2*((n:Int)-1));unfold Ze at this;omega);omega
  have hr2':=(hr2.belowW hb1 (lR _)).more hb1.size;go_wp2_with (at_builtin;refine app8 rfl (.tmp 14) (.tmp 15) rfl w.heap.size _ l1.length l1 rfl ho1 w1.heap.size A2 n c2 l rfl hr2' (by omega) hb1.size ?_);intro l2 A3 c3 w2 e2 ho2 hb2 _ _ i3 i4;go_wp2_with fail;go_ret;refine ⟨l2,A3,c3,?_,rfl,Far.of_seg (Seg.of_own ho2),hb1.trans hb2,i3,i4⟩;unfold Hid runB;rw [e2.out,e1.out,hcl.out,if_neg h0,List.append_assoc]
theorem Zd6 (A:OA) (out:LU) (c:Nat) (A2:OA) (l:LU) (n c2:Nat) (w:World) (hn:n=l.length) (hr:Rd w w.heap.size 1 A out.length (bc out)) (hc:out.length≤c) (hc2:c≤maxLen) (hr2:Rd w w.heap.size 1 A2 n (bc l))
  (hl:out.length+9+n≤140737488355328):
  Calls Tryz.prog 169 #[.slice A out.length c,.slice A2 n c2] w (RetS w (out++runB l)):=by
 by_cases h0:l=[]
 ·subst h0
  subst hn;go_in;go_wp2_with fail;go_ret;exact ⟨out,A,c,by simp [Hid,runB],rfl,hr,bR _ _,hc,hc2⟩
 ·have hp:0<l.length:=List.length_pos_iff.2 h0
  have HN:=qI hn;have hp2:0<n:=by omega
  have hz:((n:Int)==0)=false:=by simp;omega
  have f1:IntKind.i64.wrap ((n:Int)-1)=(n:Int)-1:=qJ _ (by omega);have hcl:Hid (Zk (2*((n:Int)-1))=2*(l.length-1)):=by unfold Hid Zk;omega
  clear hn hp;go_in;go_wp2_with fail;refine (Z02 A out c _ w hr (by omega)).mono ?_;rintro e w1 ⟨l1,A1,c1,e1,rfl,ho1,hb1,i1,i2⟩;have hl1:l1.length≤out.length+9:=by
   rw [e1.out,List.length_append];have:=Za 8 (Zk (2*((n:Int)-1))) (by have:=Z0v (2*((n:Int)-1));unfold Ze at this;omega);omega
  have hr2':=(hr2.belowW hb1 (lR _)).more hb1.size;go_wp2_with (at_builtin;refine app8 rfl (.tmp 14) (.tmp 15) rfl w.heap.size _ l1.length l1 rfl ho1 w1.heap.size A2 n c2 l rfl hr2' (by omega) hb1.size ?_);intro l2 A3 c3 w2 e2 ho2 hb2 _ _ i3 i4;go_wp2_with fail;go_ret;refine ⟨l2,A3,c3,?_,rfl,Rd.of_own ho2,hb1.trans hb2,i3,i4⟩;unfold Hid runB;rw [e2.out,e1.out,hcl.out,if_neg h0,List.append_assoc]
def Zeb (b:LU) (w:World) (out frm i:Value) (wr:World):Prop:=
 ∃(k f:Nat) (l:LU) (A:OA) (c:Nat),out= .slice A l.length c∧frm= .int .i64 f∧i= .int .i64 k∧f≤k∧k≤b.length∧Hid (Zp b=l++Z0p b k f)∧
  Far wr 0 A l∧Below w.heap.size w wr∧l.length≤c∧c≤maxLen
theorem Z6t {b l:LU} {k f:Nat} (hb:b.length≤16777216) (h:Zp b=l++Z0p b k f):l.length≤20971540:=by
 have h1:=Z5B b hb;rw [h,List.length_append] at h1;omega
theorem Z4u {k:Nat} (h:k≤4611686018427387903):Zk (k:Int)=k:=by unfold Zk;omega
theorem Z9A (A:OA) (b:LU) (c:Nat) (w:World) (hr:Rd w w.heap.size 1 A b.length (bc b)) (hb:b.length≤16777216) (hc:b.length≤c):
  Calls Tryz.prog 128 #[.slice A b.length c] w (ZfJ w (Zp b)):=by
 go_in;go_wp2_with fail;refine (Zr none [] 0 _ w Rd.nil (by decide)).mono ?_;rintro e w1 ⟨l1,A1,c1,e1,rfl,ho1,hb1,i1,i2⟩;have hstart:Hid (Zp b=l1++Z0p b 0 0):=by
  unfold Hid Zp;rw [e1.out,List.nil_append,Z4u (by omega)]
 clear e1;go_wp2_with fail;go_loopw [3,4,5] (fun out f i wr=>Zeb b w out f i wr) (fun _ _ i _=>b.length-(intOf i).toNat)
 case atStart=>exact ⟨0,0,l1,A1,c1,rfl,rfl,rfl,lR _,zL _,hstart,Far.of_seg (Seg.of_own ho1),hb1,i1,i2⟩
 case round=>
  clear ho1 hb1 hstart i1 i2;obtain ⟨k,f,l,A1,c1,rfl,rfl,rfl,hfk,hk,heq,hro,hbel,i1,i2⟩:=hrel;have hlb:=Z6t hb heq.out;have hs:=hbel.size;have hrb:=(hr.belowW hbel (lR _)).more hs
  by_cases hlt:k<b.length
  ·have hki:(k:Int)<(b.length:Int):=by omega
   go_wp2_with fail;refine (Z65 A b c k wr _ hrb (by omega) (by omega)).mono ?_;rintro e w2 ⟨rfl,q,hw2⟩;have hro2:Far w2 0 A1 l:=by rw [hw2];exact hro.below ((bR _ _).drewN' q)
   have hrb2:Rd w2 w2.heap.size 1 A b.length (bc b):=by rw [hw2];exact hrb.drewN q
   have hbel2:Below w.heap.size w w2:=by rw [hw2];exact hbel.drewN' q
   clear hw2 hro hrb hbel hs;have hs:=hbel2.size;have hll:=Z7w b k;have hsp:=Z2a (b:=b) (i:=k);obtain ⟨n,hn⟩: ∃n,n=(Zj b k).1:=⟨_,rfl⟩;obtain ⟨d,hd⟩: ∃d,d=(Zj b k).2:=⟨_,rfl⟩;rw [←hn,←hd] at hsp ⊢;rw [←hn] at hll
   by_cases h4:n<4
   ·have h4i:(n:Int)<4:=by omega
    have heq':Hid (Zp b=l++Z0p b (k+1) f):=by unfold Hid;rw [heq.out,Z3o hlt (by rw [←hn];exact h4)]
    have HN:=qI hn;have HD:=qI hd;clear hn hd hsp;go_wp2_with fail;exact ⟨⟨k+1,f,l,A1,c1,rfl,rfl,by go_num,by omega,by omega,heq',hro2,hbel2,i1,i2⟩,by simp [intOf];omega⟩
   ·have hsp:=hsp (by omega)
    have h4i: ¬((n:Int)<4):=by omega
    have heq':Hid (Zp b=l++(runB ((b.drop f).take (k-f))++(num (2*(n-4)+1)++(num d++Z0p b (k+n) (k+n))))):=by unfold Hid;rw [heq.out,Z3p hlt (by rw [←hn];omega),←hn,←hd]
    have hcut:=hrb2.cut (lo:=f) (hi:=k) (cap:=c) hfk hk hc;rw [if_neg (by omega),Nat.mul_one,Nat.mul_one,Z18,Z0E] at hcut;have hd1:=hsp.1;have hd2:=hsp.2.2.1;have hn2:=hsp.2.2.2.1;have hn3:=hsp.2.2.2.2.1;have HN:=qI hn;have HD:=qI hd;clear hn hd hsp heq;have hfi:(f:Int)≤(k:Int):=by omega
    have hkc:(k:Int)≤(c:Int):=by omega
    have hcf: ¬(c=f):=by omega
    go_wp2_with fail;refine (Z57 A1 l c1 _ ((b.drop f).take (k-f)) (k-f) _ w2 (by rw [List.length_take,List.length_drop];omega) hro2 i1 i2 hcut (by omega)).mono ?_;rintro e w3 ⟨l3,A3,c3,e3,rfl,hr3,hb3,j1,j2⟩;go_wp2_with fail;have hl3:l3.length≤37748800:=by
     have:=(Z3q ((b.drop f).take (k-f)) (by rw [List.length_take,List.length_drop];omega)).2.2.2;rw [List.length_take,List.length_drop] at this;rw [e3.out,List.length_append];omega
    have hcl1:Hid (Zk (2*((n:Int)-4)+1)=2*(n-4)+1):=by unfold Hid Zk;omega
    have hcl2:Hid (Zk (d:Int)=d):=Z4u (by omega);refine (Zr A3 l3 c3 _ w3 hr3.1 (by omega)).mono ?_;rintro e w4 ⟨l4,A4,c4,e4,rfl,ho4,hb4,j3,j4⟩;have hl4:l4.length≤37748809:=by
     have:=Za 8 (2*(n-4)+1) (by omega);rw [e4.out,hcl1.out,List.length_append];omega
    go_wp2_with fail;refine (Zr A4 l4 c4 _ w4 (Rd.of_own ho4) (by omega)).mono ?_;rintro e w5 ⟨l5,A5,c5,e5,rfl,ho5,hb5,j5,j6⟩;have hfin:Hid (Zp b=l5++Z0p b (k+n) (k+n)):=by
     unfold Hid;rw [e5.out,e4.out,e3.out,hcl1.out,hcl2.out,heq'.out];simp only [List.append_assoc]
    have hbel5:=((hbel2.trans (hb3.mono hs)).trans (hb4.mono (lT hs hb3.size))).trans (hb5.mono (lT (lT hs hb3.size) hb4.size));go_wp2_with fail;exact ⟨⟨k+n,k+n,l5,A5,c5,rfl,by go_num,by go_num,lR _,hn3,hfin,Far.of_seg (Seg.of_own ho5),hbel5,j5,j6⟩,by simp [intOf];omega⟩
  ·have hki: ¬((k:Int)<(b.length:Int)):=by omega
   have htail:=hrb.tail (k:=f) (cap:=c) (by omega) hc;have hfin:Hid (Zp b=l++runB (b.drop f)):=by unfold Hid;rw [heq.out,Z4s (by omega)]
   have hfi:(f:Int)≤(b.length:Int):=by omega
   by_cases hcf:c=f
   ·rw [if_pos hcf] at htail
    have HC:=qI hcf;go_wp2_with fail;refine (Z57 A1 l c1 _ (b.drop f) (b.length-f) _ wr (by rw [List.length_drop]) hro i1 i2 htail (by omega)).mono ?_;rintro e w3 ⟨l3,A3,c3,e3,rfl,hr3,hb3,j1,j2⟩;go_wp2_with fail;go_ret;exact ⟨l3,A3,c3,by unfold Hid;rw [e3.out,hfin.out],rfl,hr3,hbel.trans (hb3.mono hs),j1,j2⟩
   ·rw [if_neg hcf] at htail
    have HC:=qI hcf;go_wp2_with fail;refine (Z57 A1 l c1 _ (b.drop f) (b.length-f) _ wr (by rw [List.length_drop]) hro i1 i2 htail (by omega)).mono ?_;rintro e w3 ⟨l3,A3,c3,e3,rfl,hr3,hb3,j1,j2⟩;go_wp2_with fail;go_ret;exact ⟨l3,A3,c3,by unfold Hid;rw [e3.out,hfin.out],rfl,hr3,hbel.trans (hb3.mono hs),j1,j2⟩
end Go.Proofs.YtecpbcmpncgokaaGreat
namespace Go.Proofs.YtecpbcmpncgokaaGreat
open Go.RowKit Go.Dol
def Zfs (size:Nat) (r:Option (LU)) (w:World) (p out:Value) (wr:World):Prop:=
 ∃(l o:LU) (A Ao:OA) (c co:Nat),p= .slice A l.length c∧out= .slice Ao o.length co∧Hid (r=ZO size o l)∧o.length≤size∧l.length≤140737488355328∧
  Seg wr w.heap.size 5 1 A l.length c (bc l)∧wr.ownsRow w.heap.size 5 1 (.slice Ao o.length co) o.length (bc o)∧Apart A c (.slice Ao o.length co)∧Below w.heap.size w wr
def Zft (o0:LU) (d n:Nat) (A:OA) (c:Nat) (l:LU) (w:World) (out k:Value) (wr:World):Prop:=
 ∃(m:Nat) (o:LU) (Ao:OA) (co:Nat),out= .slice Ao o.length co∧k= .int .i64 m∧m≤n∧Hid (Z0W o0 d n=Z0W o d (n-m))∧Hid (o.length=o0.length+m)∧
  Seg wr w.heap.size 5 1 A l.length c (bc l)∧wr.ownsRow w.heap.size 5 1 (.slice Ao o.length co) o.length (bc o)∧Apart A c (.slice Ao o.length co)∧Below w.heap.size w wr
end Go.Proofs.YtecpbcmpncgokaaGreat
namespace Go.Proofs.YtecpbcmpncgokaaGreat
open Go.RowKit Go.Dol
def Z6V (w:World) (g:Nat) (vo vs ve:Value) (r:Option (Nat×LU)) (e:Ending) (w':World):Prop:=
 match r with
 | none=>e= .returned (.int .i64 0)∧Blk w' g 243 [.slice none 0 0,vo,vs,.int .i64 2]∧w.grownBy w' (some g)
 | some (n,q)=> ∃(q':LU) (A:OA) (c:Nat),Hid (q'=q)∧e= .returned (.int .i64 (n:Nat))∧Blk w' g 243 [.slice A q'.length c,vo,vs,ve]∧w'.ownsRow w.heap.size 5 1 (.slice A q'.length c) q'.length (bc q')∧w.grownBy w' (some g)∧q'.length≤c
theorem Z0I (g:Nat) (A:OA) (p:LU) (c:Nat) (vo vs ve:Value) (w:World) (hb:Blk w g 243 [.slice A p.length c,vo,vs,ve]) (hr:Rd w w.heap.size 1 A p.length (bc p)) (hl:p.length≤140737488355328) (hc:p.length≤c):
  Calls Tryz.prog 175 #[.pointer (some ⟨g,0,none⟩)] w (Z6V w g vo vs ve (Z7 p)):=by
 have hg:=hb.lt;have k0:w.cell? ⟨g,0,none⟩=some (.slice A p.length c):=by rw [hb.cell];rfl
 go_in;go_wp2_with fail;refine (Z0w A p c w hr hl hc).mono ?_;intro e w1 h1;rcases ht:Z7 p with _ | ⟨m,q⟩
 ·rw [ht] at h1
  obtain ⟨rfl,hb1⟩:=h1;have hblk:=hb.below hb1 hg;have f0:=hblk.free 0;have f3:=hblk.free 3;have q0:w1.cell? ⟨g,0,none⟩=some (.slice A p.length c):=by rw [hblk.cell];rfl
  have q3:w1.cell? ⟨g,3,none⟩=some ve:=by rw [hblk.cell];rfl
  have HT:=qI ht;clear ht k0;go_wp2_with fail;go_ret;rw [HT.out];exact ⟨rfl,(hblk.set 3 (.int .i64 2)).set 0 (.slice none 0 0),Z0 (Z0 (Z5 hb1 _) _ _) _ _⟩
 ·rw [ht] at h1
  obtain ⟨q',A',c',e',rfl,ho1,hb1,i1,i2⟩:=h1;have hblk:=hb.below hb1 hg;have f0:=hblk.free 0;have q0:w1.cell? ⟨g,0,none⟩=some (.slice A p.length c):=by rw [hblk.cell];rfl
  have HT:=qI ht;clear ht k0;go_wp2_with fail;go_ret;rw [HT.out];exact ⟨q',A',c',e',rfl,hblk.set 0 (.slice A' q'.length c'),Z96 ho1 (Z0 (gR _ _) _ _) hg,Z0 (Z5 hb1 _) _ _,i1⟩
theorem Z5C (g:Nat) (x:Nat) (vp vo vs:Value) (w:World) (hb:Blk w g 243 [vp,vo,vs,.int .i64 x]):
  Calls Tryz.prog 176 #[.pointer (some ⟨g,0,none⟩),.bool true] w fun e w'=>e= .returned (.bool ((x:Int)==0))∧w=w':=by
 have k3:w.cell? ⟨g,3,none⟩=some (.int .i64 x):=by rw [hb.cell];rfl
 go_in;go_wp2_with fail;go_ret;exact ⟨rfl,rfl⟩
theorem Z2c (g:Nat) (ve:Value) (vp vo vs:Value) (w:World) (hb:Blk w g 243 [vp,vo,vs,ve]):
  Calls Tryz.prog 176 #[.pointer (some ⟨g,0,none⟩),.bool false] w fun e w'=>e= .returned (.bool false)∧Blk w' g 243 [vp,vo,vs,.int .i64 2]∧w.grownBy w' (some g):=by
 have k3:w.cell? ⟨g,3,none⟩=some ve:=by rw [hb.cell];rfl
 have f3:=hb.free 3;go_in;go_wp2_with fail;go_ret;exact ⟨rfl,hb.set 3 (.int .i64 2),Z0 (gR _ _) _ _⟩
end Go.Proofs.YtecpbcmpncgokaaGreat
namespace Go.Proofs.YtecpbcmpncgokaaGreat
open Go.RowKit Go.Dol
attribute [local irreducible] wpStill
def OpnSt (w:World) (base g:Nat) (p o:LU) (size:Nat):Prop:=
 ∃(Ap Ao:OA) (cp co:Nat),Blk w g 243 [.slice Ap p.length cp,.slice Ao o.length co,.int .i64 size,.int .i64 0]∧Seg w base 5 1 Ap p.length cp (bc p)∧
  w.ownsRow base 5 1 (.slice Ao o.length co) o.length (bc o)∧Apart Ap cp (.slice Ao o.length co)
def Z3Y (w:World) (g size:Nat):Prop:=∃ (Ap Ao:OA) (np cp no co:Nat),Blk w g 243 [.slice Ap np cp,.slice Ao no co,.int .i64 size,.int .i64 2]
theorem ZaW (g:Nat) (Ap Ao:OA) (np cp no co:Nat) (size n:Nat) (ve:Value) (w:World) (hblk:Blk w g 243 [.slice Ap np cp,.slice Ao no co,.int .i64 size,ve]) (hb: ¬(n≤size-no∧n≤np)) (ho:no≤size) (hs:size≤4611686018427387903) (hp:np≤140737488355328) (hn:1≤n) (hn2:n≤4611686018427387903):
  Calls Tryz.prog 177 #[.pointer (some ⟨g,0,none⟩),.int .i64 n] w fun e w'=>e= .returned (.tuple #[])∧Z3Y w' g size∧w.grownBy w' (some g):=by
 have k0:w.cell? ⟨g,0,none⟩=some (.slice Ap np cp):=by rw [hblk.cell];rfl
 have k1:w.cell? ⟨g,1,none⟩=some (.slice Ao no co):=by rw [hblk.cell];rfl
 have k2:w.cell? ⟨g,2,none⟩=some (.int .i64 size):=by rw [hblk.cell];rfl
 have f1:IntKind.i64.wrap ((size:Int)-(no:Int))=(size:Int)-(no:Int):=qJ _ (by omega)
 by_cases h1:n≤size-no
 ·have h2: ¬n≤np:=fun h=>hb ⟨h1,h⟩
  have d1:decide ((n:Int)≤(size:Int)-(no:Int))=true:=by simp;omega
  have d1':(n:Int)≤(size:Int)-(no:Int):=by omega
  have d2:decide (n≤np)=false:=by simp;omega
  have d2':(np:Int)<(n:Int):=by omega
  clear hb h1 h2;go_in;go_wp2_with fail;go_still_tail 22,(by kernel_rfl);change wpList _ _ _ _ _ (World.drew w);go_wp2_with fail;refine (Z2c g _ _ _ _ (World.drew w) hblk.drew).mono ?_;rintro e w1 ⟨rfl,hb1,hg1⟩;go_wp2_with fail;go_end0;exact ⟨rfl,⟨Ap,Ao,np,cp,no,co,hb1⟩,Z6 (Z0M (gR w (some g))) hg1⟩
 ·have d1:decide ((n:Int)≤(size:Int)-(no:Int))=false:=by simp;omega
  have d1':(size:Int)-(no:Int)<(n:Int):=by omega
  clear hb h1;go_in;go_wp2_with fail;go_still_tail 22,(by kernel_rfl);change wpList _ _ _ _ _ (World.drew w);go_wp2_with fail;refine (Z2c g _ _ _ _ (World.drew w) hblk.drew).mono ?_;rintro e w1 ⟨rfl,hb1,hg1⟩;go_wp2_with fail;go_end0;exact ⟨rfl,⟨Ap,Ao,np,cp,no,co,hb1⟩,Z6 (Z0M (gR w (some g))) hg1⟩
theorem Zcv {w:World} {ops:Array Oper} {o:Oper} {a:Act} {K:Act→World→Prop} {Q:Exit→Act→World→Prop} {E:Prop} (hgd:o.guard=none) (s x:Operand)
  (ho:o.op= .call { callee:=.builtin .append,args:=#[s,x],argTypes:=#[36,36] })
  (base:Nat) (v:Value) (n:Nat) (xs:LU) (hs:a.eval s=v) (hown:w.ownsRow base 5 1 v n (bc xs))
  (B:Nat) (A:OA) (m c:Nat) (news:LU) (hx:a.eval x= .slice A m c) (hr:Rd w B 1 A m (bc news))
  (hlen:n+m≤140737488355328) (hbase:base≤w.heap.size)
  (h: ∀(l':LU) (A':OA) (c':Nat) (w':World),Hid (l'=xs++news)→w'.ownsRow base 5 1 (.slice A' l'.length c') l'.length (bc l')→Below base w w'→w.grownBy w' v.ownBlock→
   Hid ((Value.slice A' l'.length c').ownBlock=v.ownBlock∨(Value.slice A' l'.length c').ownBlock=some w.heap.size)→l'.length≤c'→c'≤maxLen→K (a.put o.dst (.slice A' l'.length c')) w'):if Region.wanted o (yielded ops a.tmps)=true then Oper.wp Tryz.prog o a w K Q else E:=by
 have hw:Region.wanted o (yielded ops a.tmps)=true:=by simp [Region.wanted,hgd]
 rw [if_pos hw];refine Z0U w s x _ ho base _ _ 1 1 Tryz.underlying36 Z2d rfl (by decide) v n (bc xs) hs hown B A m c (bc news) hx hr (Z7S _) (by unfold maxLen;omega) (by omega) hbase ?_;intro A' c' w' h1 h2 h3 h4 h5;have e1:n=xs.length:=by have:=hown.1;rw [Zv] at this;omega
 have e2:m=news.length:=by have:=hr.len;rw [Zv] at this;omega
 have e:n+m=(xs++news).length:=by rw [List.length_append];omega
 rw [←Z1m,e] at h1;rw [e] at h3 h4 ⊢;exact h _ A' c' w' rfl h1 ((bR _ _).grown h2 hbase (fun k hk=>(hown.lt k hk).1)) h2 h3 h4 h5
theorem Zcw {w4:World} {base g size n co3 cp c':Nat} {p o3:LU} {Ap A' Ao3:OA} (hB:Blk w4 g 243 [.slice Ap p.length cp,.slice Ao3 o3.length co3,.int .i64 size,.int .i64 0])
  (hs:Seg w4 base 5 1 A' (p.length-n) c' (bc (p.drop n))) (ho:w4.ownsRow base 5 1 (.slice Ao3 o3.length co3) o3.length (bc o3)) (hap:Apart Ap cp (.slice Ao3 o3.length co3)) (hA:Zl A'=Zl Ap) (hc:0<c'→0<cp):
  OpnSt (w4.setCell ⟨g,0,none⟩ (.slice A' (p.length-n) c')) base g (p.drop n) o3 size:=by
 have hG:w4.grownBy (w4.setCell ⟨g,0,none⟩ (.slice A' (p.length-n) c')) (some g):=Z0 (gR _ _) _ _;have h1:=hB.set 0 (.slice A' (p.length-n) c');have hdl:(p.drop n).length=p.length-n:=by simp
 refine ⟨A',Ao3,c',co3,?_,?_,Zc ho hB (by decide) hG,hap.piece hc hA⟩
 ·rw [hdl];exact h1
 ·rw [hdl];exact Z6b hs hB (by decide) hG
theorem Zd7 (base g:Nat) (p o:LU) (size n:Nat) (w:World) (h:OpnSt w base g p o size) (h1:n≤size-o.length) (h2:n≤p.length) (ho:o.length≤size) (hs:size≤140737488355328) (hp:p.length≤140737488355328) (hn:1≤n) (hg:base≤g) (hbase:base≤w.heap.size):
  Calls Tryz.prog 177 #[.pointer (some ⟨g,0,none⟩),.int .i64 n] w fun e w'=>e= .returned (.tuple #[])∧OpnSt w' base g (p.drop n) (o++p.take n) size∧Below base w w':=by
 obtain ⟨Ap,Ao,cp,co,hblk,hseg,hown,hap⟩:=h;have k0:w.cell? ⟨g,0,none⟩=some (.slice Ap p.length cp):=by rw [hblk.cell];rfl
 have k1:w.cell? ⟨g,1,none⟩=some (.slice Ao o.length co):=by rw [hblk.cell];rfl
 have k2:w.cell? ⟨g,2,none⟩=some (.int .i64 size):=by rw [hblk.cell];rfl
 have f1:IntKind.i64.wrap ((size:Int)-(o.length:Int))=(size:Int)-(o.length:Int):=qJ _ (by omega);have d1:decide ((n:Int)≤(size:Int)-(o.length:Int))=true:=by simp;omega
 have d1':(n:Int)≤(size:Int)-(o.length:Int):=by omega
 have d2:decide (n≤p.length)=true:=by simp;omega
 have d2':(n:Int)≤(p.length:Int):=by omega
 have hcp:=hseg.2.1;have d3:(n:Int)≤(cp:Int):=by omega
 go_in;go_wp2_with fail;go_still_tail 22,(by kernel_rfl);change wpList _ _ _ _ _ (World.drew w);go_wp2_with fail;refine (Z5C g 0 _ _ _ (World.drew w) hblk.drew).mono ?_;rintro e w1 ⟨rfl,hw1⟩;have hblk1:Blk w1 g 243 [.slice Ap p.length cp,.slice Ao o.length co,.int .i64 size,.int .i64 0]:=by rw [←hw1];exact hblk.drew
 have hseg1:Seg w1 base 5 1 Ap p.length cp (bc p):=by rw [←hw1];exact hseg.drew
 have hown1:w1.ownsRow base 5 1 (.slice Ao o.length co) o.length (bc o):=by rw [←hw1];exact hown
 have hbel1:Below base w w1:=by rw [←hw1];exact (bR _ _).drew
 have q0:w1.cell? ⟨g,0,none⟩=some (.slice Ap p.length cp):=by rw [hblk1.cell];rfl
 have q1:w1.cell? ⟨g,1,none⟩=some (.slice Ao o.length co):=by rw [hblk1.cell];rfl
 have q2:w1.frozen? ⟨g,1,none⟩=false:=hblk1.free 1;have hz1:base≤w1.heap.size:=lT hbase hbel1.size;clear hw1 k0 k1 k2;go_wp2_with fail;have hne:some g≠(Value.slice Ao o.length co).ownBlock:=fun e=>own_ne hown1 hblk1 (by decide) e.symm;have qf:(World.drew w1).cell? ⟨g,1,none⟩=some (.slice Ao o.length co):=q1
 go_region_law ((refine Zcv (by rfl) (.tmp 31) (.tmp 37) (by rfl) base _ o.length o (by rfl) (w:=World.drew w1) hown1 _ Ap n cp (p.take n) (by rfl) (hseg1.drew.rd.head (l:=p) h2) (by omega) hz1 ?_;intro o3 Ao3 co3 w3 e3 ho3 hb3 hg3 hw3 j3 j4;have hB:=(hblk1.drew).grown hg3 hne;have c1:w3.cell? ⟨g,1,none⟩=some (.slice Ao o.length co):=(by rw [hB.cell];rfl);have fr1:=hB.free 1))
 all_goals
  have hB2:Blk (w3.setCell ⟨g,1,none⟩ (.slice Ao3 o3.length co3)) g 243 [.slice Ap p.length cp,.slice Ao3 o3.length co3,.int .i64 size,.int .i64 0]:=hB.set 1 _;have hG2:w3.grownBy (w3.setCell ⟨g,1,none⟩ (.slice Ao3 o3.length co3)) (some g):=Z0 (gR _ _) _ _;have hseg3:Seg w3 base 5 1 Ap p.length cp (bc p):=hseg1.drew.keepR hg3 hap;have hap3:Apart Ap cp (.slice Ao3 o3.length co3):=hap.app hseg1.drew (lR _) hw3.out;have hs4:=Z6b hseg3 hB (by decide) hG2;have ho4:=Zc ho3 hB (by decide) hG2;have hb4:Below base w (w3.setCell ⟨g,1,none⟩ (.slice Ao3 o3.length co3)):=(hbel1.trans ((bR base w1).drew.trans hb3)).setCell (p:=⟨g,1,none⟩) hg _;obtain ⟨w4,hw4⟩: ∃w4,w4=w3.setCell ⟨g,1,none⟩ (.slice Ao3 o3.length co3):=⟨_,rfl⟩;rw [←hw4] at hB2 hs4 ho4 hb4;rw [←hw4];have c0:w4.cell? ⟨g,0,none⟩=some (.slice Ap p.length cp):=by rw [hB2.cell];rfl
  have fr0:=hB2.free 0;have htl:=hs4.tail8 h2;have hdl:Hid ((p.drop n).length=p.length-n):=by unfold Hid;simp
  clear hw4 hB hG2 hseg3 ho3 hb3 hg3 hw3 c1 fr1 hseg1 hown1 hblk1 q0 q1 q2 qf hbel1 hblk hseg hown hap
  by_cases hcc:cp=n
  ·rw [if_pos hcc] at htl
   have HCC:=qI hcc;go_wp2_with fail;go_end0;have hz:cp-n=0:=by have:=HCC.out;omega
   rw [hz] at htl;rw [←e3.out];exact ⟨rfl,Zcw hB2 htl ho4 hap3 rfl (by omega),hb4.setCell (p:=⟨g,0,none⟩) hg _⟩
  ·rw [if_neg hcc] at htl
   have HCC:=qI hcc;go_wp2_with fail;go_end0;rw [←e3.out];exact ⟨rfl,Zcw hB2 htl ho4 hap3 (Z2e _ _) (by omega),hb4.setCell (p:=⟨g,0,none⟩) hg _⟩
end Go.Proofs.YtecpbcmpncgokaaGreat
namespace Go.Proofs.YtecpbcmpncgokaaGreat
open Go.RowKit Go.Dol
attribute [local irreducible] wpStill wpList
attribute [local go_sem ↓] Go.wp_at_zero Go.wp_at_succ
theorem Zge {w:World} {k:Int} {ops:Array Oper} {o:Oper} {a:Act} {K:Act→World→Prop} {Q:Exit→Act→World→Prop} {E:Prop} (hgd:o.guard=none) (s x:Operand)
  (ho:o.op= .call { callee:=.builtin .append,args:=#[s,x],argTypes:=#[36,36] })
  (base:Nat) (v:Value) (n:Nat) (xs:LU) (hs:a.eval s=v) (hown:w.ownsRow base 5 1 v n (bc xs))
  (hx:a.eval x= .slice (some ⟨w.heap.size,0,none⟩) 1 1) (hk0:0≤k) (hk1:k<256)
  (hlen:n+1≤140737488355328) (hbase:base≤w.heap.size)
  (h: ∀(d:UInt8) (l':LU) (A':OA) (c':Nat) (w':World),Hid ((d.toNat:Int)=k)→Hid (l'=xs++[d])→w'.ownsRow base 5 1 (.slice A' l'.length c') l'.length (bc l')→Below base w w'→w.grownBy w' v.ownBlock→
   Hid ((Value.slice A' l'.length c').ownBlock=v.ownBlock∨(Value.slice A' l'.length c').ownBlock=some (w.heap.size+1))→
   l'.length≤c'→c'≤maxLen→K (a.put o.dst (.slice A' l'.length c')) w'):if Region.wanted o (yielded ops a.tmps)=true then Oper.wp Tryz.prog o a (w.alloc (.cells #[.int .u8 k] 5)) K Q else E:=by
 have hb:=(bR base w).alloc hbase (.cells #[.int .u8 k] 5);refine Zcv hgd s x ho base v n xs hs (hown.alloc _) (w.heap.size+1) _ 1 1 [UInt8.ofNat k.toNat] hx (Rd.one w _ k hk0 hk1) hlen (by simp;omega) ?_;intro l' A' c' w' h0 h1 h2 h3 h4 h5 h6;refine h (UInt8.ofNat k.toNat) l' A' c' w' ?_ h0 h1 (hb.trans h2) ⟨h3.os,h3.tape,h3.output,lT (by simp) h3.size,fun i hi hne=>(h3.block i (by simp;omega) hne).trans (Below.heap_alloc w _ i hi)⟩ ?_ h5 h6
 ·unfold Hid
  rw [UInt8.toNat_ofNat'];omega
 ·have e:(w.alloc (.cells #[.int .u8 k] 5)).heap.size=w.heap.size+1:=by simp
  rw [←e];exact h4
def ZaX (o0:LU) (d n base g:Nat) (q:LU) (size:Nat) (w:World) (k:Value) (wr:World):Prop:=
 ∃(m:Nat) (o:LU),k= .int .i64 m∧m≤n∧Hid (Z0W o0 d n=Z0W o d (n-m))∧Hid (o.length=o0.length+m)∧OpnSt wr base g q o size∧Below base w wr
theorem Zd8 {w wr w5:World} {o o4 o5 q:LU} {d n m base g size x co co5 c1:Nat} {A1 Ao Ao5:OA} {b5:UInt8} (hlt:m<n) (hcpy:Hid (Z0W o d n=Z0W o4 d (n-m))) (ho4l:Hid (o4.length=o.length+m)) (HG:Hid (o4.getD (o4.length-d) 0=UInt8.ofNat x))
  (eb:Hid ((b5.toNat:Int)=(x:Int))) (e5:Hid (o5=o4++[b5])) (hseg:Seg wr base 5 1 A1 q.length c1 (bc q)) (hap:Apart A1 c1 (.slice Ao o4.length co)) (hg5:(World.drew wr).grownBy w5 (Value.slice Ao o4.length co).ownBlock)
  (hw5:Hid ((Value.slice Ao5 o5.length co5).ownBlock=(Value.slice Ao o4.length co).ownBlock∨(Value.slice Ao5 o5.length co5).ownBlock=some ((World.drew wr).heap.size+1)))
  (ho5:w5.ownsRow base 5 1 (.slice Ao5 o5.length co5) o5.length (bc o5)) (hb5:Below base (World.drew wr) w5) (hbel:Below base w wr) (hg:base≤g)
  (hB:Blk w5 g 243 [.slice A1 q.length c1,.slice Ao o4.length co,.int .i64 size,.int .i64 0]):
  ZaX o d n base g q size w (.int .i64 ((m:Int)+1)) (w5.setCell ⟨g,1,none⟩ (.slice Ao5 o5.length co5)):=by
 have hG:w5.grownBy (w5.setCell ⟨g,1,none⟩ (.slice Ao5 o5.length co5)) (some g):=Z0 (gR _ _) _ _;have hb':b5=UInt8.ofNat x:=Z0F eb rfl;have h1:=hB.set 1 (.slice Ao5 o5.length co5);refine ⟨m+1,o5,by go_num,by omega,?_,?_,⟨A1,Ao5,c1,co5,h1,Z6b (hseg.drew.keepR hg5 hap) hB (by decide) hG,Zc ho5 hB (by decide) hG,hap.app hseg.drew (Nat.le_succ _) hw5.out⟩,(hbel.trans ((bR base wr).drew.trans hb5)).setCell (p:=⟨g,1,none⟩) hg _⟩
 ·unfold Hid
  rw [hcpy.out,show n-m=(n-(m+1))+1 by omega,Z0W,HG.out,e5.out,hb']
 ·unfold Hid
  rw [e5.out,List.length_append,ho4l.out]
  rfl
theorem ZaY (base g:Nat) (p q o:LU) (size n d:Nat) (w:World) (h:OpnSt w base g p o size) (ht:Z7 p=some (d,q)) (h1:n≤size-o.length) (h2:n≤259) (h3:1≤d) (h4:d≤o.length) (h5:d≤4096) (ho:o.length≤size) (hs:size≤70368744177664) (hp:p.length≤140737488355328) (hg:base≤g) (hbase:base≤w.heap.size):
  Calls Tryz.prog 178 #[.pointer (some ⟨g,0,none⟩),.int .i64 n] w fun e w'=>e= .returned (.tuple #[])∧OpnSt w' base g q (Z0W o d n) size∧Below base w w':=by
 obtain ⟨Ap,Ao,cp,co,hblk,hseg,hown,hap⟩:=h;have hpc:=hseg.2.1;have hgw:=hblk.lt;go_in;go_wp2_with fail;refine (Z0I g Ap p cp _ _ _ w hblk hseg.rd hp hpc).mono ?_;intro e w1 hn;rw [ht] at hn;obtain ⟨q1,A1,c1,e1,rfl,hblk1,ho1,hg1,i1⟩:=hn;have hT:=qI ht;have e1':q1=q:=e1.out;subst e1';have hs1:=hg1.size;have hown1:=Zc hown hblk (by decide) hg1;have hap1:Apart A1 c1 (.slice Ao o.length co):=Apart.new hown (Seg.of_own ho1) (lR _);have hseg1:=(Seg.of_own ho1).lower (base':=base) hbase;have hb1:Below base w w1:=Z1 hg1 hg hbase;clear ht hap hseg hown ho1 hg1 e1;have k1:w1.cell? ⟨g,1,none⟩=some (.slice Ao o.length co):=by rw [hblk1.cell];rfl
 have k2:w1.cell? ⟨g,2,none⟩=some (.int .i64 size):=by rw [hblk1.cell];rfl
 have f1:IntKind.i64.wrap ((size:Int)-(o.length:Int))=(size:Int)-(o.length:Int):=qJ _ (by omega);have d1:(n:Int)≤(size:Int)-(o.length:Int):=by omega
 have d2:(n:Int)≤259:=by omega
 have d3:(1:Int)≤(d:Int):=by omega
 have d4:(d:Int)≤(o.length:Int):=by omega
 have d5:(d:Int)≤4096:=by omega
 go_wp2_with fail;go_still_tail 34,(by kernel_rfl);change wpList _ _ _ _ _ (World.drew w1);go_wp2_with fail;refine (Z5C g 0 _ _ _ (World.drew w1) hblk1.drew).mono ?_;rintro e w2 ⟨rfl,hw2⟩;have hst:OpnSt w2 base g q1 o size:=by
  rw [←hw2];exact ⟨A1,Ao,c1,co,hblk1.drew,hseg1.drew,hown1,hap1⟩
 have hb2:Below base w w2:=by rw [←hw2];exact hb1.drew
 clear hw2 k1 k2 hblk1 hseg1 hown1 hap1 hb1 hs1;go_wp2_with fail;go_loopw [43] (fun k wr=>ZaX o d n base g q1 size w k wr) (fun k _=>260-(intOf k).toNat)
 case atStart=>exact ⟨0,o,rfl,zL _,rfl,rfl,hst,hb2⟩
 case round=>
  clear hst hb2;obtain ⟨m,o4,rfl,hmn,hcpy,ho4l,hst,hbel⟩:=hrel;obtain ⟨A1,Ao,c1,co,hblk,hseg,hown,hap⟩:=hst;have hs4:=hbel.size;have ho4b:o4.length≤o.length+m:=by have:=ho4l.out;omega
  have ho4c:o.length+m≤o4.length:=by have:=ho4l.out;omega
  by_cases hlt:m<n
  ·have hlti:(m:Int)<(n:Int):=by omega
   have hdo:o4.length-d<o4.length:=by omega
   have hdn:d≤o4.length:=by omega
   have hd0:0<d:=by omega
   obtain ⟨bo,offo,rfl,hbo,hcell⟩:=(Rd.of_own hown).at_ (by omega);have hcx:=hcell (o4.length-d) _ (Z09 o4 (o4.length-d) hdo);obtain ⟨x,hx⟩: ∃x,x=(o4[o4.length-d]).toNat:=⟨_,rfl⟩;have hx256:x<256:=by have:=(o4[o4.length-d]).toNat_lt;omega
   rw [←hx] at hcx;have f1:IntKind.i64.wrap ((o4.length:Int)-(d:Int))=(o4.length:Int)-(d:Int):=qJ _ (by omega);have f2:((o4.length:Int)-(d:Int)).toNat=o4.length-d:=by omega
   have f3:(0:Int)≤(o4.length:Int)-(d:Int):=by omega
   have f4:(o4.length:Int)-(d:Int)<(o4.length:Int):=by omega
   have hgd:o4.getD (o4.length-d) 0=UInt8.ofNat x:=by
    rw [List.getD_eq_getElem?_getD,gE hdo,hx];simp
   have HG:=qI hgd;have c1':wr.cell? ⟨g,1,none⟩=some (.slice (some ⟨bo,offo,none⟩) o4.length co):=by rw [hblk.cell];rfl
   have fr1:=hblk.free 1;have hgl:=hblk.lt;have hnew:=World.new_ne wr _ c1';have hnew2:=World.new_ne wr _ hcx;have cA: ∀(k:Int),(World.drew (wr.alloc (.cells #[.int .u8 k] 5))).cell? ⟨g,1,none⟩=some (.slice (some ⟨bo,offo,none⟩) o4.length co):=fun k=>by rw [(hblk.alloc _).drew.cell];rfl
   have hne:some g≠(Value.slice (some ⟨bo,offo,none⟩) o4.length co).ownBlock:=fun e=>own_ne hown hblk (by decide) e.symm;clear hx hgd hcell;go_wp2_with fail
   go_region_law ((refine Zge (by rfl) (.tmp 49) (.tmp 63) (by rfl) base _ o4.length o4 (by rfl) (w:=World.drew wr) hown (by rfl) (by omega) (by omega) (by omega) (by simp;omega) ?_;intro b5 o5 Ao5 co5 w5 eb e5 ho5 hb5 hg5 hw5 j5 j6;have hB:=(hblk.drew).grown hg5 hne;have c5:w5.cell? ⟨g,1,none⟩=some (.slice (some ⟨bo,offo,none⟩) o4.length co):=(by rw [hB.cell];rfl);have fr5:=hB.free 1))
   all_goals
    go_wp2_with fail;exact ⟨Zd8 hlt hcpy ho4l HG eb e5 hseg hap hg5 hw5 ho5 hb5 hbel hg hB,by simp [intOf];omega⟩
  ·have hlti: ¬((m:Int)<(n:Int)):=by omega
   have hmn2:m=n:=by omega
   have hfin:Hid (Z0W o d n=o4):=by
    unfold Hid;rw [hcpy.out,hmn2,Nat.sub_self]
    rfl
   have HM:=qI hmn2;clear hmn2;go_wp2_with fail;go_end0;rw [hfin.out];exact ⟨rfl,⟨A1,Ao,c1,co,hblk,hseg,hown,hap⟩,hbel⟩
end Go.Proofs.YtecpbcmpncgokaaGreat
namespace Go.Proofs.YtecpbcmpncgokaaGreat
open Go.RowKit Go.Dol
attribute [local irreducible] wpStill
theorem Z3Z {w:World} {g d x:Nat} {vo vs:Value} {p:LU} (hnx:(Z7 p=none∧d=0∧x=2)∨ ∃q,Z7 p=some (d,q)∧x=0) (e:Ending) (w':World) (h:Z6V w g vo vs (.int .i64 0) (Z7 p) e w'):
  ∃A n c,e= .returned (.int .i64 (d:Nat))∧Blk w' g 243 [.slice A n c,vo,vs,.int .i64 (x:Nat)]∧w.grownBy w' (some g):=by
 rcases hnx with ⟨h1,rfl,rfl⟩ | ⟨q,h1,rfl⟩
 ·rw [h1] at h
  exact ⟨none,0,0,h.1,h.2.1,h.2.2⟩
 ·rw [h1] at h
  obtain ⟨q',A,c,_,h2,h3,_,h5,_⟩:=h;exact ⟨A,_,c,h2,h3,h5⟩
theorem ZgF (base g:Nat) (p o:LU) (size n d x:Nat) (w:World) (h:OpnSt w base g p o size) (hnx:(Z7 p=none∧d=0∧x=2)∨ ∃q,Z7 p=some (d,q)∧x=0)  (h0: ¬n≤size-o.length) (ho:o.length≤size) (hs:size≤70368744177664) (hp:p.length≤140737488355328) (hd:d≤4611686018427387903) (hn2:n≤4611686018427387903) (hg:base≤g):
  Calls Tryz.prog 178 #[.pointer (some ⟨g,0,none⟩),.int .i64 n] w fun e w'=>e= .returned (.tuple #[])∧Z3Y w' g size∧w.grownBy w' (some g):=by
 obtain ⟨Ap,Ao,cp,co,hblk,hseg,hown,hap⟩:=h;have hpc:=hseg.2.1;go_in;go_wp2_with fail;refine ((Z0I g Ap p cp _ _ _ w hblk hseg.rd hp hpc).mono (Z3Z hnx)).mono ?_;rintro e w1 ⟨A1,n1,c1,rfl,hblk1,hg1⟩;have k1:w1.cell? ⟨g,1,none⟩=some (.slice Ao o.length co):=by rw [hblk1.cell];rfl
 have k2:w1.cell? ⟨g,2,none⟩=some (.int .i64 size):=by rw [hblk1.cell];rfl
 have f1:IntKind.i64.wrap ((size:Int)-(o.length:Int))=(size:Int)-(o.length:Int):=qJ _ (by omega);have d0:decide ((n:Int)≤(size:Int)-(o.length:Int))=false:=by simp;omega
 have d0':(size:Int)-(o.length:Int)<(n:Int):=by omega
 clear h0;clear hnx hseg hown hap hblk;go_wp2_with fail;go_still_tail 34,(by kernel_rfl);change wpList _ _ _ _ _ (World.drew w1);go_wp2_with fail;refine (Z2c g _ _ _ _ (World.drew w1) hblk1.drew).mono ?_;rintro e w2 ⟨rfl,hb2,hg2⟩;go_wp2_with fail;go_end0;exact ⟨rfl,⟨A1,Ao,n1,c1,o.length,co,hb2⟩,Z6 (Z0M hg1) hg2⟩
theorem ZgG (base g:Nat) (p o:LU) (size n d x:Nat) (w:World) (h:OpnSt w base g p o size) (hnx:(Z7 p=none∧d=0∧x=2)∨ ∃q,Z7 p=some (d,q)∧x=0) (h0:n≤size-o.length) (h1: ¬n≤259) (ho:o.length≤size) (hs:size≤70368744177664) (hp:p.length≤140737488355328) (hd:d≤4611686018427387903) (hn2:n≤4611686018427387903) (hg:base≤g):
  Calls Tryz.prog 178 #[.pointer (some ⟨g,0,none⟩),.int .i64 n] w fun e w'=>e= .returned (.tuple #[])∧Z3Y w' g size∧w.grownBy w' (some g):=by
 obtain ⟨Ap,Ao,cp,co,hblk,hseg,hown,hap⟩:=h;have hpc:=hseg.2.1;go_in;go_wp2_with fail;refine ((Z0I g Ap p cp _ _ _ w hblk hseg.rd hp hpc).mono (Z3Z hnx)).mono ?_;rintro e w1 ⟨A1,n1,c1,rfl,hblk1,hg1⟩;have k1:w1.cell? ⟨g,1,none⟩=some (.slice Ao o.length co):=by rw [hblk1.cell];rfl
 have k2:w1.cell? ⟨g,2,none⟩=some (.int .i64 size):=by rw [hblk1.cell];rfl
 have f1:IntKind.i64.wrap ((size:Int)-(o.length:Int))=(size:Int)-(o.length:Int):=qJ _ (by omega);have d0:(n:Int)≤(size:Int)-(o.length:Int):=by omega
 have d1:decide ((n:Int)≤259)=false:=by simp;omega
 have d1':259<(n:Int):=by omega
 clear h1;clear hnx hseg hown hap hblk;go_wp2_with fail;go_still_tail 34,(by kernel_rfl);change wpList _ _ _ _ _ (World.drew w1);go_wp2_with fail;refine (Z2c g _ _ _ _ (World.drew w1) hblk1.drew).mono ?_;rintro e w2 ⟨rfl,hb2,hg2⟩;go_wp2_with fail;go_end0;exact ⟨rfl,⟨A1,Ao,n1,c1,o.length,co,hb2⟩,Z6 (Z0M hg1) hg2⟩
theorem ZgH (base g:Nat) (p o:LU) (size n d x:Nat) (w:World) (h:OpnSt w base g p o size) (hnx:(Z7 p=none∧d=0∧x=2)∨ ∃q,Z7 p=some (d,q)∧x=0) (h0:n≤size-o.length) (h1:n≤259) (h2: ¬1≤d) (ho:o.length≤size) (hs:size≤70368744177664) (hp:p.length≤140737488355328) (hd:d≤4611686018427387903) (hn2:n≤4611686018427387903) (hg:base≤g):
  Calls Tryz.prog 178 #[.pointer (some ⟨g,0,none⟩),.int .i64 n] w fun e w'=>e= .returned (.tuple #[])∧Z3Y w' g size∧w.grownBy w' (some g):=by
 obtain ⟨Ap,Ao,cp,co,hblk,hseg,hown,hap⟩:=h;have hpc:=hseg.2.1;go_in;go_wp2_with fail;refine ((Z0I g Ap p cp _ _ _ w hblk hseg.rd hp hpc).mono (Z3Z hnx)).mono ?_;rintro e w1 ⟨A1,n1,c1,rfl,hblk1,hg1⟩;have k1:w1.cell? ⟨g,1,none⟩=some (.slice Ao o.length co):=by rw [hblk1.cell];rfl
 have k2:w1.cell? ⟨g,2,none⟩=some (.int .i64 size):=by rw [hblk1.cell];rfl
 have f1:IntKind.i64.wrap ((size:Int)-(o.length:Int))=(size:Int)-(o.length:Int):=qJ _ (by omega);have d0:(n:Int)≤(size:Int)-(o.length:Int):=by omega
 have d1:(n:Int)≤259:=by omega
 have d2:decide ((1:Int)≤(d:Int))=false:=by simp;omega
 have d2':(d:Int)<(1:Int):=by omega
 clear h2;clear hnx hseg hown hap hblk;go_wp2_with fail;go_still_tail 34,(by kernel_rfl);change wpList _ _ _ _ _ (World.drew w1);go_wp2_with fail;refine (Z2c g _ _ _ _ (World.drew w1) hblk1.drew).mono ?_;rintro e w2 ⟨rfl,hb2,hg2⟩;go_wp2_with fail;go_end0;exact ⟨rfl,⟨A1,Ao,n1,c1,o.length,co,hb2⟩,Z6 (Z0M hg1) hg2⟩
theorem ZgI (base g:Nat) (p o:LU) (size n d x:Nat) (w:World) (h:OpnSt w base g p o size) (hnx:(Z7 p=none∧d=0∧x=2)∨ ∃q,Z7 p=some (d,q)∧x=0) (h0:n≤size-o.length) (h1:n≤259) (h2:1≤d) (h3: ¬d≤o.length) (ho:o.length≤size) (hs:size≤70368744177664) (hp:p.length≤140737488355328) (hd:d≤4611686018427387903) (hn2:n≤4611686018427387903) (hg:base≤g):
  Calls Tryz.prog 178 #[.pointer (some ⟨g,0,none⟩),.int .i64 n] w fun e w'=>e= .returned (.tuple #[])∧Z3Y w' g size∧w.grownBy w' (some g):=by
 obtain ⟨Ap,Ao,cp,co,hblk,hseg,hown,hap⟩:=h;have hpc:=hseg.2.1;go_in;go_wp2_with fail;refine ((Z0I g Ap p cp _ _ _ w hblk hseg.rd hp hpc).mono (Z3Z hnx)).mono ?_;rintro e w1 ⟨A1,n1,c1,rfl,hblk1,hg1⟩;have k1:w1.cell? ⟨g,1,none⟩=some (.slice Ao o.length co):=by rw [hblk1.cell];rfl
 have k2:w1.cell? ⟨g,2,none⟩=some (.int .i64 size):=by rw [hblk1.cell];rfl
 have f1:IntKind.i64.wrap ((size:Int)-(o.length:Int))=(size:Int)-(o.length:Int):=qJ _ (by omega);have d0:(n:Int)≤(size:Int)-(o.length:Int):=by omega
 have d1:(n:Int)≤259:=by omega
 have d2:(1:Int)≤(d:Int):=by omega
 have d3:decide (d≤o.length)=false:=by simp;omega
 have d3':(o.length:Int)<(d:Int):=by omega
 clear h3;clear hnx hseg hown hap hblk;go_wp2_with fail;go_still_tail 34,(by kernel_rfl);change wpList _ _ _ _ _ (World.drew w1);go_wp2_with fail;refine (Z2c g _ _ _ _ (World.drew w1) hblk1.drew).mono ?_;rintro e w2 ⟨rfl,hb2,hg2⟩;go_wp2_with fail;go_end0;exact ⟨rfl,⟨A1,Ao,n1,c1,o.length,co,hb2⟩,Z6 (Z0M hg1) hg2⟩
theorem ZgJ (base g:Nat) (p o:LU) (size n d x:Nat) (w:World) (h:OpnSt w base g p o size) (hnx:(Z7 p=none∧d=0∧x=2)∨ ∃q,Z7 p=some (d,q)∧x=0) (h0:n≤size-o.length) (h1:n≤259) (h2:1≤d) (h3:d≤o.length) (h4: ¬d≤4096) (ho:o.length≤size) (hs:size≤70368744177664) (hp:p.length≤140737488355328) (hd:d≤4611686018427387903) (hn2:n≤4611686018427387903) (hg:base≤g):
  Calls Tryz.prog 178 #[.pointer (some ⟨g,0,none⟩),.int .i64 n] w fun e w'=>e= .returned (.tuple #[])∧Z3Y w' g size∧w.grownBy w' (some g):=by
 obtain ⟨Ap,Ao,cp,co,hblk,hseg,hown,hap⟩:=h;have hpc:=hseg.2.1;go_in;go_wp2_with fail;refine ((Z0I g Ap p cp _ _ _ w hblk hseg.rd hp hpc).mono (Z3Z hnx)).mono ?_;rintro e w1 ⟨A1,n1,c1,rfl,hblk1,hg1⟩;have k1:w1.cell? ⟨g,1,none⟩=some (.slice Ao o.length co):=by rw [hblk1.cell];rfl
 have k2:w1.cell? ⟨g,2,none⟩=some (.int .i64 size):=by rw [hblk1.cell];rfl
 have f1:IntKind.i64.wrap ((size:Int)-(o.length:Int))=(size:Int)-(o.length:Int):=qJ _ (by omega);have d0:(n:Int)≤(size:Int)-(o.length:Int):=by omega
 have d1:(n:Int)≤259:=by omega
 have d2:(1:Int)≤(d:Int):=by omega
 have d3:(d:Int)≤(o.length:Int):=by omega
 have d4:decide ((d:Int)≤4096)=false:=by simp;omega
 have d4':4096<(d:Int):=by omega
 clear h4;clear hnx hseg hown hap hblk;go_wp2_with fail;go_still_tail 34,(by kernel_rfl);change wpList _ _ _ _ _ (World.drew w1);go_wp2_with fail;refine (Z2c g _ _ _ _ (World.drew w1) hblk1.drew).mono ?_;rintro e w2 ⟨rfl,hb2,hg2⟩;go_wp2_with fail;go_end0;exact ⟨rfl,⟨A1,Ao,n1,c1,o.length,co,hb2⟩,Z6 (Z0M hg1) hg2⟩
theorem ZbZ (base g:Nat) (p o:LU) (size n d x:Nat) (w:World) (h:OpnSt w base g p o size) (hnx:(Z7 p=none∧d=0∧x=2)∨ ∃q,Z7 p=some (d,q)∧x=0) (hb: ¬(n≤size-o.length∧n≤259∧1≤d∧d≤o.length∧d≤4096)) (ho:o.length≤size) (hs:size≤70368744177664) (hp:p.length≤140737488355328) (hd:d≤4611686018427387903) (hn2:n≤4611686018427387903) (hg:base≤g):
  Calls Tryz.prog 178 #[.pointer (some ⟨g,0,none⟩),.int .i64 n] w fun e w'=>e= .returned (.tuple #[])∧Z3Y w' g size∧w.grownBy w' (some g):=by
 by_cases h0:n≤size-o.length
 ·by_cases h1:n≤259
  ·by_cases h2:1≤d
   ·by_cases h3:d≤o.length
    ·by_cases h4:d≤4096
     ·exact absurd ⟨h0,h1,h2,h3,h4⟩ hb
     ·exact ZgJ base g p o size n d x w h hnx h0 h1 h2 h3 h4 ho hs hp hd hn2 hg
    ·exact ZgI base g p o size n d x w h hnx h0 h1 h2 h3 ho hs hp hd hn2 hg
   ·exact ZgH base g p o size n d x w h hnx h0 h1 h2 ho hs hp hd hn2 hg
  ·exact ZgG base g p o size n d x w h hnx h0 h1 ho hs hp hd hn2 hg
 ·exact ZgF base g p o size n d x w h hnx h0 ho hs hp hd hn2 hg
end Go.Proofs.YtecpbcmpncgokaaGreat
namespace Go.Proofs.YtecpbcmpncgokaaGreat
open Go.RowKit Go.Dol
attribute [local irreducible] wpStill
theorem Zec {w w1:World} {base g size d:Nat} {p o q:LU} {Ap Ao:OA} {cp co:Nat} {e:Ending} (hblk:Blk w g 243 [.slice Ap p.length cp,.slice Ao o.length co,.int .i64 size,.int .i64 0])
  (hown:w.ownsRow base 5 1 (.slice Ao o.length co) o.length (bc o)) (hbase:base≤w.heap.size) (hg:base≤g)
  (h:Z6V w g (.slice Ao o.length co) (.int .i64 size) (.int .i64 0) (some (d,q)) e w1):e= .returned (.int .i64 (d:Nat))∧OpnSt w1 base g q o size∧Below base w w1:=by
 obtain ⟨q1,A1,c1,e1,h1,hblk1,ho1,hg1,i1⟩:=h;have e1':q1=q:=e1.out;subst e1';exact ⟨h1,⟨A1,Ao,c1,co,hblk1,(Seg.of_own ho1).lower hbase,Zc hown hblk (by decide) hg1,Apart.new hown (Seg.of_own ho1) (lR _)⟩,Z1 hg1 hg hbase⟩
def Zcx (r:Option (LU)) (size base g:Nat) (w:World) (k:Nat) (wr:World):Prop:=
 ((∃p o:LU,k=p.length+1∧OpnSt wr base g p o size∧o.length≤size∧size≤70368744177664∧p.length≤140737488355328∧Hid (r=ZO size o p))∨(k=0∧Z3Y wr g size∧Hid (r=none)))∧Below base w wr
theorem Z7A (g:Nat) (b:Bool) (x:Nat) (vp vo vs:Value) (w:World) (hb:Blk w g 243 [vp,vo,vs,.int .i64 x]):
  Calls Tryz.prog 176 #[.pointer (some ⟨g,0,none⟩),.bool b] w fun e w'=>e= .returned (.bool (b&&decide (x=0)))∧Blk w' g 243 [vp,vo,vs,.int .i64 ((if b then x else 2:Nat):Nat)]∧w.grownBy w' (some g):=by
 cases b with
 | true=>
  refine (Z5C g x vp vo vs w hb).mono ?_;rintro e w' ⟨rfl,rfl⟩;refine ⟨?_,hb,gR _ _⟩
  congr 2
  rw [Bool.true_and,Bool.eq_iff_iff];simp
 | false=>
  refine (Z2c g _ vp vo vs w hb).mono ?_;rintro e w' ⟨rfl,h2,h3⟩;exact ⟨rfl,h2,h3⟩
def Zed (r:Option (Nat×LU)) (w w':World) (d:Nat) (A:OA) (n c x:Nat):Prop:=
 (r=none∧A=none∧n=0∧c=0∧d=0∧x=2)∨ ∃q:LU,r=some (d,q)∧n=q.length∧x=0∧w'.ownsRow w.heap.size 5 1 (.slice A n c) n (bc q)
theorem Zee {w w':World} {g:Nat} {vo vs:Value} {r:Option (Nat×LU)} (e:Ending) (h:Z6V w g vo vs (.int .i64 0) r e w'):
  ∃d A n c x,e= .returned (.int .i64 (d:Nat))∧Blk w' g 243 [.slice A n c,vo,vs,.int .i64 (x:Nat)]∧w.grownBy w' (some g)∧Zed r w w' d A n c x:=by
 rcases r with _ | ⟨d,q⟩
 ·exact ⟨0,none,0,0,2,h.1,h.2.1,h.2.2,.inl ⟨rfl,rfl,rfl,rfl,rfl,rfl⟩⟩
 ·obtain ⟨q',A,c,h1,h2,h3,h4,h5,_⟩:=h
  have e1:q'=q:=h1.out;subst e1;exact ⟨d,A,_,c,0,h2,h3,h5,.inr ⟨q',rfl,rfl,rfl,h4⟩⟩
theorem OpnSt.len {w:World} {base g size:Nat} {p o:LU} (h:OpnSt w base g p o size):g<w.heap.size:=by
 obtain ⟨_,_,_,_,hb,_⟩:=h;exact hb.lt
def ZaZ (w:World) (r:Option (LU)) (e:Ending) (w':World):Prop:=
 match r with
 | none=>e= .returned (.tuple #[.slice none 0 0,.int .i64 2])∧Below w.heap.size w w'
 | some q=> ∃(q':LU) (A:OA) (c:Nat),Hid (q'=q)∧e= .returned (.tuple #[.slice A q'.length c,.int .i64 0])∧w'.ownsRow w.heap.size 5 1 (.slice A q'.length c) q'.length (bc q')∧Below w.heap.size w w'∧q'.length≤c∧c≤maxLen
theorem Zef (A:OA) (l:LU) (c:Nat) (most:Int) (w:World) (hr:Rd w w.heap.size 1 A l.length (bc l)) (hl:l.length≤140737488355328) (hc:l.length≤c) (hm: ∀s r,Z7 l=some (s,r)→(s:Int)≤most→s≤70368744177664):
  Calls Tryz.prog 110 #[.slice A l.length c,.int .i64 most] w (ZaZ w (Z1v l most)):=by
 obtain ⟨r,hre⟩: ∃r,r=Z1v l most:=⟨_,rfl⟩;rw [←hre];have HR:=qI hre;clear hre;obtain ⟨g,hg⟩: ∃g,g=w.heap.size:=⟨_,rfl⟩;go_in;go_wp2_with fail;have hblk0:=Blk.new w 243 [.slice A l.length c,.slice none 0 0,.int .i64 0,.int .i64 0];have hr0:Rd (w.alloc (.cells #[.slice A l.length c,.slice none 0 0,.int .i64 0,.int .i64 0] 243)) (w.heap.size+1) 1 A l.length (bc l):=(hr.alloc (lR _) _).more (Nat.le_succ _);have hb0:Below w.heap.size w (w.alloc (.cells #[.slice A l.length c,.slice none 0 0,.int .i64 0,.int .i64 0] 243)):=(bR _ _).alloc (lR _) _;have hsz0:(w.alloc (.cells #[.slice A l.length c,.slice none 0 0,.int .i64 0,.int .i64 0] 243)).heap.size=w.heap.size+1:=by simp
 obtain ⟨w0,hw0⟩: ∃w0,w0=w.alloc (.cells #[.slice A l.length c,.slice none 0 0,.int .i64 0,.int .i64 0] 243):=⟨_,rfl⟩;change Blk (w.alloc (.cells #[.slice A l.length c,.slice none 0 0,.int .i64 0,.int .i64 0] 243)) _ _ _ at hblk0;rw [←hw0] at hblk0 hr0 hb0 hsz0;rw [←hsz0] at hr0;rw [←hw0];rw [←hg] at hblk0 hb0 hsz0;rw [←hg];have HG:=qI hg;clear hw0 hg;have hgz:g≤w0.heap.size:=by omega
 have HZ:=qI hsz0;clear hsz0;refine (Z0I g A l c _ _ _ w0 hblk0 hr0 hl hc).mono ?_;intro e w1 hn;obtain ⟨size,A1,n1,c1,x,rfl,hblk1,hg1,hfact⟩:=Zee e hn;have hb1:Below g w w1:=hb0.trans (Z1 hg1 (lR _) hgz);have k2:w1.cell? ⟨g,2,none⟩=some (.int .i64 0):=by rw [hblk1.cell];rfl
 have f2:=hblk1.free 2;have hblk2:Blk (w1.setCell ⟨g,2,none⟩ (.int .i64 size)) g 243 [.slice A1 n1 c1,.slice none 0 0,.int .i64 size,.int .i64 x]:=hblk1.set 2 _;have HF:=qI hfact;clear hfact hn;go_wp2_with fail;refine (Z7A g _ x _ _ _ _ hblk2).mono ?_;rintro e w3 ⟨rfl,hblk3,hg3⟩;have hG2:w1.grownBy w3 (some g):=Z6 (Z0 (gR _ _) _ _) hg3;have hb3:Below g w w3:=hb1.trans (Z1 hG2 (lR _) (Nat.le_of_lt hblk1.lt));have hinv: ∃k,Zcx r size g g w k w3:=by
  rcases HF.out with ⟨h1,h2,h3,h4,h5,h6⟩ | ⟨q,h1,h2,h3,h4⟩
  ·subst h2 h3 h4 h5 h6
   refine ⟨0,.inr ⟨rfl,⟨none,none,0,0,0,0,?_⟩,by unfold Hid;rw [HR.out,Z1v,h1]⟩,hb3⟩
   by_cases hb:((0:Nat):Int)≤most<;>simpa [hb] using hblk3
  ·subst h2 h3
   by_cases hb:(size:Int)≤most
   ·refine ⟨_,.inl ⟨q,[],rfl,⟨A1,none,c1,0,?_,(Seg.of_own (Z96 (w':=w3) (h4) hG2 (by have:=HZ.out;omega))).lower hgz,⟨by simp [bc],.inl ⟨rfl,rfl⟩⟩,Apart.nil _ _⟩,zL _,hm _ _ h1 hb,?_,?_⟩,hb3⟩
    ·simpa [hb] using hblk3
    ·have:=ZF h1;omega
    ·unfold Hid;rw [HR.out,Z1v,h1];simp only;rw [if_pos hb]
   ·refine ⟨0,.inr ⟨rfl,⟨A1,none,q.length,c1,0,0,?_⟩,?_⟩,hb3⟩
    ·simpa [hb] using hblk3
    ·unfold Hid;rw [HR.out,Z1v,h1];simp only;rw [if_neg hb]
 obtain ⟨k0,hinv⟩:=hinv;clear HF hblk0 hblk1 hblk2 hblk3 hg1 hg3 hG2 hb1 hb3 k2 f2 hb0;go_wp2_with fail;go_loopg [] k0 (fun k wr=>Zcx r size g g w k wr)
 case atStart=>exact hinv
 case round=>
  clear hinv;obtain ⟨hst,hbel⟩:=hrel;have hs:=hbel.size;rcases hst with ⟨p,o,rfl,hst,hos,hsm,hpl,hgo⟩ | ⟨rfl,hst,hnone⟩
  ·obtain ⟨Ap,Ao,cp,co,hblk,hseg,hown,hap⟩:=hst
   have c0:wr.cell? ⟨g,0,none⟩=some (.slice Ap p.length cp):=by rw [hblk.cell];rfl
   have c1:wr.cell? ⟨g,1,none⟩=some (.slice Ao o.length co):=by rw [hblk.cell];rfl
   have c2:wr.cell? ⟨g,2,none⟩=some (.int .i64 size):=by rw [hblk.cell];rfl
   have c3:wr.cell? ⟨g,3,none⟩=some (.int .i64 0):=by rw [hblk.cell];rfl
   have hbase:g≤wr.heap.size:=Nat.le_of_lt hblk.lt
   by_cases hp0:p.length=0
   ·have hpe:p=[]:=nZ hp0
    have hpi: ¬((0:Int)<(p.length:Int)):=by omega
    have hpd:decide (0<p.length)=false:=by simp;omega
    have hol:=Z3w hown
    by_cases hfin:o.length=size
    ·have hq:Hid (r=some o):=by unfold Hid;rw [hgo.out,hpe,Z2t,if_pos hfin]
     have HF:=qI hfin;have hne:((o.length:Int)==(size:Int))=true:=by simp;omega
     clear hpe hfin hp0;go_wp2_with fail;go_still_tail 11,(by kernel_rfl);change wpList _ _ _ _ _ (World.drew wr);go_wp2_with fail;refine (Z5C g 0 _ _ _ (World.drew wr) hblk.drew).mono ?_;rintro e w4 ⟨rfl,hw4⟩;have hblk4:=hblk.drew;rw [hw4] at hblk4;have q1:w4.cell? ⟨g,1,none⟩=some (.slice Ao o.length co):=by rw [hblk4.cell];rfl
     have hown4:w4.ownsRow g 5 1 (.slice Ao o.length co) o.length (bc o):=by rw [←hw4];exact hown
     have hb4:Below g w w4:=by rw [←hw4];exact hbel.drew
     clear hw4 hblk hown hseg;go_wp2_with fail;go_ret2;rw [hq.out];exact ⟨o,Ao,co,rfl,rfl,by rw [←HG.out];exact hown4,by rw [←HG.out];exact hb4,hol.1,hol.2⟩
    ·have hq:Hid (r=none):=by unfold Hid;rw [hgo.out,hpe,Z2t,if_neg hfin]
     have HF:=qI hfin;have hne:((o.length:Int)==(size:Int))=false:=by simp;omega
     clear hpe hfin hp0;go_wp2_with fail;go_still_tail 11,(by kernel_rfl);change wpList _ _ _ _ _ (World.drew wr);go_wp2_with fail;refine (Z2c g _ _ _ _ (World.drew wr) hblk.drew).mono ?_;rintro e w4 ⟨rfl,hb4,hg4⟩;go_wp2_with fail;go_ret2;rw [hq.out];exact ⟨rfl,by rw [←HG.out];exact hbel.drew.trans (Z1 hg4 (lR _) hbase)⟩
   ·have hpi:(0:Int)<(p.length:Int):=by omega
    have hpd:decide (0<p.length)=true:=by simp;omega
    have hpne:Hid (p≠[]):=fun h=>by rw [h] at hp0;simp at hp0
    have hpc:=hseg.2.1;go_wp2_with fail;refine (Z0I g Ap p cp _ _ _ wr hblk hseg.rd hpl hpc).mono ?_;intro e w4 hn;rcases ht:Z7 p with _ | ⟨t,q⟩
    ·rw [ht] at hn
     obtain ⟨rfl,hblk4,hg4⟩:=hn;have hq:Hid (r=none):=by unfold Hid;rw [hgo.out,Z6s hpne.out ht]
     have hbit:bits .and .i64 0 1=0:=by decide
     clear ht;go_wp2_with fail;refine (ZaW g none Ao 0 0 o.length co size 1 _ w4 hblk4 (by omega) hos (by omega) (by omega) (by omega) (by omega)).mono ?_;rintro e w5 ⟨rfl,hbad,hg5⟩;go_wp2_with fail;go_roundg 0
     case measure=>omega
     case rel=>exact ⟨.inr ⟨rfl,hbad,hq⟩,hbel.trans (Z1 (Z6 hg4 hg5) (lR _) hbase)⟩
    ·rw [ht] at hn
     obtain ⟨rfl,hst4,hb4⟩:=Zec hblk hown hbase (lR _) hn;have hql:=ZF ht;have htm:t≤4611686018427387903:=(ZC ht).2;have hbit:bits .and .i64 (t:Int) 1=((t%2:Nat):Int):=Zbs t (by omega);have hb04:Below g w w4:=hbel.trans hb4;have hlt4:=hst4.len;obtain ⟨y,hy⟩: ∃y,y=t/2:=⟨_,rfl⟩;have hyi:(t:Int)/2=(y:Int):=by omega
     have hyq:(t:Int).tdiv 2=(y:Int):=by rw [Int.tdiv_eq_ediv_of_nonneg (by omega)];exact hyi
     have hyb:y≤2305843009213693951:=by omega
     have HY:=qI hy;have HT:=qI ht;clear ht hy hn hb4 hblk hseg hown hap c0 c1 c2 c3
     by_cases hev:t%2=0
     ·rw [hev] at hbit
      have hrun:Hid (r=if y+1≤size-o.length∧y+1≤q.length then ZO size (o++q.take (y+1)) (q.drop (y+1)) else none):=by
       unfold Hid;rw [hgo.out,Z56 HT.out hev,←HY.out]
      have HE:=qI hev;clear hev
      by_cases hcond:y+1≤size-o.length∧y+1≤q.length
      ·rw [if_pos hcond] at hrun
       have hc1:=hcond.1;have hc2:=hcond.2;clear hcond;go_wp2_with fail;refine (Zd7 g g q o size (y+1) w4 hst4 hc1 hc2 hos (by omega) (by omega) (by omega) (lR _) (Nat.le_of_lt hlt4)).mono ?_;rintro e w5 ⟨rfl,hst5,hb5⟩;go_wp2_with fail;go_roundg ((q.drop (y+1)).length+1)
       case measure=>rw [List.length_drop];omega
       case rel=>exact ⟨.inl ⟨_,_,rfl,hst5,by rw [List.length_append,List.length_take];omega,hsm,by rw [List.length_drop];omega,hrun⟩,hb04.trans hb5⟩
      ·rw [if_neg hcond] at hrun
       obtain ⟨Ap4,Ao4,cp4,co4,hblk4,_⟩:=hst4;go_wp2_with fail;refine (ZaW g Ap4 Ao4 q.length cp4 o.length co4 size (y+1) _ w4 hblk4 hcond hos (by omega) (by omega) (by omega) (by omega)).mono ?_;rintro e w5 ⟨rfl,hbad,hg5⟩;go_wp2_with fail;go_roundg 0
       case measure=>omega
       case rel=>exact ⟨.inr ⟨rfl,hbad,hrun⟩,hb04.trans (Z1 hg5 (lR _) (Nat.le_of_lt hlt4))⟩
     ·have hod:t%2=1:=by omega
      rw [hod] at hbit;have HO:=qI hod;clear hev hod
      by_cases hgood: ∃d q3,Z7 q=some (d,q3)∧(y+4≤size-o.length∧y+4≤259∧1≤d∧d≤o.length∧d≤4096)
      ·obtain ⟨d,q3,ht2,g1,g2,g3,g4,g5⟩:=hgood
       have hcp:Hid (r=ZO size (Z0W o d (y+4)) q3):=by
        unfold Hid;rw [hgo.out,Z1W HT.out HO.out ht2,←HY.out,if_pos ⟨g1,g2,g3,g4,g5⟩]
       have hql3:=ZF ht2;have HT2:=qI ht2;clear ht2;go_wp2_with fail;refine (ZaY g g q q3 o size (y+4) d w4 hst4 HT2.out g1 g2 g3 g4 g5 hos hsm (by omega) (lR _) (Nat.le_of_lt hlt4)).mono ?_;rintro e w5 ⟨rfl,hst5,hb5⟩;go_wp2_with fail;go_roundg (q3.length+1)
       case measure=>omega
       case rel=>exact ⟨.inl ⟨_,_,rfl,hst5,by rw [Z2b];omega,hsm,by omega,hcp⟩,hb04.trans hb5⟩
      ·have hbadx: ∃d x,((Z7 q=none∧d=0∧x=2)∨ ∃q3,Z7 q=some (d,q3)∧x=0)∧ ¬(y+4≤size-o.length∧y+4≤259∧1≤d∧d≤o.length∧d≤4096)∧d≤4611686018427387903∧Hid (r=none):=by
        rcases ht2:Z7 q with _ | ⟨d,q3⟩
        ·exact ⟨0,2,.inl ⟨rfl,rfl,rfl⟩,by omega,by omega,by unfold Hid;rw [hgo.out,Z1H HT.out HO.out ht2]⟩
        ·refine ⟨d,0,.inr ⟨q3,rfl,rfl⟩,fun h=>hgood ⟨d,q3,ht2,h⟩,(ZC ht2).2,?_⟩
         unfold Hid;rw [hgo.out,Z1W HT.out HO.out ht2,←HY.out,if_neg (fun h=>hgood ⟨d,q3,ht2,h⟩)]
       obtain ⟨d,x,hx1,hx2,hx3,hx4⟩:=hbadx;have HX1:=qI hx1;have HX2:=qI hx2;clear hx1 hx2 hgood;go_wp2_with fail;refine (ZbZ g g q o size (y+4) d x w4 hst4 HX1.out HX2.out hos hsm (by omega) hx3 (by omega) (lR _)).mono ?_;rintro e w5 ⟨rfl,hbad,hg5⟩;go_wp2_with fail;go_roundg 0
       case measure=>omega
       case rel=>exact ⟨.inr ⟨rfl,hbad,hx4⟩,hb04.trans (Z1 hg5 (lR _) (Nat.le_of_lt hlt4))⟩
  ·obtain ⟨Ap,Ao,np,cp,no,co,hblk⟩:=hst
   have c0:wr.cell? ⟨g,0,none⟩=some (.slice Ap np cp):=by rw [hblk.cell];rfl
   have c1:wr.cell? ⟨g,1,none⟩=some (.slice Ao no co):=by rw [hblk.cell];rfl
   have c2:wr.cell? ⟨g,2,none⟩=some (.int .i64 size):=by rw [hblk.cell];rfl
   have c3:wr.cell? ⟨g,3,none⟩=some (.int .i64 2):=by rw [hblk.cell];rfl
   have hbase:g≤wr.heap.size:=Nat.le_of_lt hblk.lt
   by_cases hnp:0<np
   ·have hpi:(0:Int)<(np:Int):=by omega
    have hpd:decide (0<np)=true:=by simp;omega
    go_wp2_with fail;go_still_tail 11,(by kernel_rfl);change wpList _ _ _ _ _ (World.drew wr);go_wp2_with fail;refine (Z7A g _ 2 _ _ _ (World.drew wr) hblk.drew).mono ?_;rintro e w4 ⟨rfl,hb4,hg4⟩;go_wp2_with fail;go_ret2;rw [hnone.out];exact ⟨rfl,by rw [←HG.out];exact hbel.drew.trans (Z1 hg4 (lR _) hbase)⟩
   ·have hpi: ¬((0:Int)<(np:Int)):=by omega
    have hpd:decide (0<np)=false:=by simp;omega
    go_wp2_with fail;go_still_tail 11,(by kernel_rfl);change wpList _ _ _ _ _ (World.drew wr);go_wp2_with fail;refine (Z7A g _ 2 _ _ _ (World.drew wr) hblk.drew).mono ?_;rintro e w4 ⟨rfl,hb4,hg4⟩;go_wp2_with fail;go_ret2;rw [hnone.out];exact ⟨rfl,by rw [←HG.out];exact hbel.drew.trans (Z1 hg4 (lR _) hbase)⟩
end Go.Proofs.YtecpbcmpncgokaaGreat
