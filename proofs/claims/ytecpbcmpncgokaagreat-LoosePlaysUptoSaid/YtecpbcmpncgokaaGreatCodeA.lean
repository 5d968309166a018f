/- Numbers as bytes, in plain Lean: what the layer 'code' computes, and that what was put is taken as it was and that no other bytes say the same. Conditions: bytes that are made fit 2^47. -/
import Derived.Test.YtecpbcmpncgokaaGreatRows
import Derived.Test.YtecpbcmpncgokaaGreatWordsA
import Derived.Deep.QuietTactic
import Derived.BigQuiet
import Derived.Test.YtecpbcmpncgokaaGreatShort
set_option maxRecDepth 100000
set_option maxHeartbeats 400000
set_option linter.unusedVariables false
namespace Go.Dol
def num (n:Nat):LU:=if n<128 then [UInt8.ofNat n] else UInt8.ofNat (128+n%128)::num (n/128)
termination_by n
decreasing_by omega
theorem Z4T {n:Nat} (h:n<128):num n=[UInt8.ofNat n]:=by rw [num,if_pos h]
theorem Z6Z {n:Nat} (h:128≤n):num n=UInt8.ofNat (128+n%128)::num (n/128):=by rw [num,if_neg (by omega)]
theorem Z6O (n:Nat):0<(num n).length:=by
 rw [num];split<;>simp
theorem Za: ∀(k n:Nat),n<128^(k+1)→(num n).length≤k+1
 | 0,n,h=>by
  rw [Z4T (by simpa using h)];simp
 | k+1,n,h=>by
  by_cases hn:n<128
  ·rw [Z4T hn]
   simp
  ·rw [Z6Z (by omega),List.length_cons]
   have h1:n/128<128^(k+1):=by
    rw [Nat.div_lt_iff_lt_mul (by omega)];rw [Nat.pow_succ] at h;exact h
   have:=Za k (n/128) h1;omega
def dec:Nat→LU→Option (Nat×LU)
 | 0,_=>none
 | _+1,[]=>none
 | f+1,c::r=>if c.toNat<128 then some (c.toNat,r) else
   match dec f r with
   | none=>none
   | some (m,q)=>if m=0 then none else some (c.toNat%128+128*m,q)
def Ze:Nat:=4611686018427387903
def Z7 (b:LU):Option (Nat×LU):=
 match dec 9 b with
 | none=>none
 | some (n,r)=>if n≤Ze then some (n,r) else none
theorem ZeT (f:Nat): ∀(n:Nat) (r:LU),n<128^(f+1)→dec (f+1) (num n++r)=some (n,r):=by
 induction f with
 | zero=>
  intro n r h;have hn:n<128:=by simpa using h
  rw [Z4T hn];simp [dec,hn,Nat.mod_eq_of_lt (show n<256 by omega)]
 | succ g ih=>
  intro n r h
  by_cases hn:n<128
  ·rw [Z4T hn]
   simp [dec,hn,Nat.mod_eq_of_lt (show n<256 by omega)]
  ·rw [Z6Z (by omega)]
   have h1:n/128<128^(g+1):=by
    rw [Nat.div_lt_iff_lt_mul (by omega)];rw [Nat.pow_succ] at h;exact h
   have hc:(UInt8.ofNat (128+n%128)).toNat=128+n%128:=by rw [UInt8.toNat_ofNat'];omega
   rw [List.cons_append,dec,hc,ih (n/128) r h1];simp only;rw [if_neg (by omega),if_neg (by omega)]
   congr 2
   omega
theorem Z99: ∀(f:Nat) (b:LU) (n:Nat) (r:LU),dec f b=some (n,r)→b=num n++r∧n<128^f
 | 0,b,n,r,h=>by simp [dec] at h
 | f+1,[],n,r,h=>by simp [dec] at h
 | f+1,c::q,n,r,h=>by
  simp only [dec] at h;have hp:0<128^f:=Nat.pow_pos (by omega)
  by_cases hc:c.toNat<128
  ·rw [if_pos hc] at h
   obtain ⟨rfl,rfl⟩:=Prod.mk.inj (Option.some.inj h);refine ⟨by rw [Z4T hc];simp,?_⟩;rw [Nat.pow_succ];omega
  ·rw [if_neg hc] at h
   cases hd:dec f q with
   | none=>rw [hd] at h;cases h
   | some p=>
    obtain ⟨m,s⟩:=p;rw [hd] at h;simp only at h
    by_cases hm:m=0
    ·rw [if_pos hm] at h;cases h
    ·rw [if_neg hm] at h
     obtain ⟨rfl,rfl⟩:=Prod.mk.inj (Option.some.inj h);obtain ⟨rfl,h2⟩:=Z99 f q m s hd;have hc2:=c.toNat_lt;refine ⟨?_,by rw [Nat.pow_succ];omega⟩;have e1:128+(c.toNat%128+128*m)%128=c.toNat:=by omega
     have e2:(c.toNat%128+128*m)/128=m:=by omega
     rw [Z6Z (show 128≤c.toNat%128+128*m by omega),e1,e2];simp
theorem Z0n (n:Nat) (r:LU) (h:n≤Ze):Z7 (num n++r)=some (n,r):=by
 have h9:n<128^9:=by unfold Ze at h;omega
 rw [Z7,ZeT 8 n r h9];simp [h]
theorem ZC {b:LU} {n:Nat} {r:LU} (h:Z7 b=some (n,r)):b=num n++r∧n≤Ze:=by
 unfold Z7 at h
 cases hd:dec 9 b with
 | none=>rw [hd] at h;cases h
 | some p=>
  obtain ⟨m,s⟩:=p;rw [hd] at h;simp only at h
  by_cases hm:m≤Ze
  ·rw [if_pos hm] at h
   obtain ⟨rfl,rfl⟩:=Prod.mk.inj (Option.some.inj h);exact ⟨(Z99 9 b _ _ hd).1,hm⟩
  ·rw [if_neg hm] at h;cases h
def acc (l:LU):Nat:=l.foldr (fun c m=>c.toNat%128+128*m) 0
theorem Z70 (l:LU) (c:UInt8):acc (l++[c])=acc l+128^l.length*(c.toNat%128):=by
 induction l with
 | nil=>simp [acc]
 | cons x l ih=>
  have e1:acc (x::l++[c])=x.toNat%128+128*acc (l++[c]):=rfl;have e2:acc (x::l)=x.toNat%128+128*acc l:=rfl;rw [e1,e2,ih,List.length_cons,Nat.pow_succ,Nat.mul_add,Nat.add_assoc,Nat.mul_comm (128^l.length) 128,Nat.mul_assoc]
theorem ZfM (l:LU):acc l<128^l.length:=by
 induction l with
 | nil=>simp [acc]
 | cons x l ih=>
  have e2:acc (x::l)=x.toNat%128+128*acc l:=rfl;rw [e2,List.length_cons,Nat.pow_succ];omega
theorem Z8u: ∀(l:LU) (f:Nat) (r:LU),(∀c∈l,128≤c.toNat)→
  dec (l.length+f) (l++r)=match dec f r with
   | none=>none
   | some (m,q)=>if l≠[]∧m=0 then none else some (acc l+128^l.length*m,q)
 | [],f,r,_=>by
  have e:([]:LU).length+f=f:=by simp
  rw [e,List.nil_append]
  cases dec f r with
  | none=>rfl
  | some p=>simp [acc]
 | x::l,f,r,h=>by
  have e:(x::l).length+f=(l.length+f)+1:=by simp [List.length_cons];omega
  have hx: ¬x.toNat<128:=by have:=h x (by simp);omega
  rw [e,List.cons_append];simp only [dec];rw [if_neg hx,Z8u l f r (fun c hc=>h c (by simp [hc]))]
  cases dec f r with
  | none=>rfl
  | some p=>
   obtain ⟨m,q⟩:=p;have e2:acc (x::l)=x.toNat%128+128*acc l:=rfl;have hp:0<128^l.length:=Nat.pow_pos (by omega)
   by_cases hm:m=0
   ·subst hm
    by_cases hl:l=[]
    ·subst hl
     simp [acc]
    ·simp [hl]
   ·have hne: ¬(acc l+128^l.length*m=0):=by
     have:0<128^l.length*m:=Nat.mul_pos hp (by omega);omega
    simp only [hm,and_false,if_false,hne];simp only [e2,List.length_cons,Nat.pow_succ,Nat.mul_add]
    congr 2
    rw [Nat.mul_comm (128^l.length) 128,Nat.mul_assoc];omega
theorem Z8v: ∀(f:Nat) (l:LU),(∀c∈l,128≤c.toNat)→dec f l=none
 | 0,l,_=>by cases l<;>rfl
 | f+1,[],_=>rfl
 | f+1,x::l,h=>by
  have hx: ¬x.toNat<128:=by have:=h x (by simp);omega
  simp only [dec];rw [if_neg hx,Z8v f l (fun c hc=>h c (by simp [hc]))]
theorem Zdx (l r:LU) (f:Nat) (hl:f≤l.length) (h: ∀c∈l,128≤c.toNat):dec f (l++r)=none:=by
 induction l generalizing f with
 | nil=>
  obtain rfl:f=0:=by simpa using hl
  cases r<;>rfl
 | cons x l ih=>
  cases f with
  | zero=>rfl
  | succ f=>
   have hx: ¬x.toNat<128:=by have:=h x (by simp);omega
   simp only [List.cons_append,dec];rw [if_neg hx,ih f (by simpa using hl) (fun c hc=>h c (by simp [hc]))]
def Pre (l:LU) (k:Nat):Prop:=k≤l.length∧ ∀c∈l.take k,128≤c.toNat
theorem Pre.zero (l:LU):Pre l 0:=⟨zL _,by simp⟩
theorem Z31 (l:LU) (k:Nat) (h:k<l.length):l.take (k+1)=l.take k++[l[k]]:=by rw [List.take_succ_eq_append_getElem h]
theorem Pre.succ {l:LU} {k:Nat} (h:Pre l k) (hk:k<l.length) (hc:128≤(l[k]).toNat):Pre l (k+1):=
 ⟨hk,fun c hc'=>by
  rw [Z31 l k hk,List.mem_append] at hc';rcases hc' with hc' | hc'
  ·exact h.2 c hc'
  ·rw [List.mem_singleton.1 hc'];exact hc⟩
theorem Z32 {l:LU} (h:Pre l 9):Z7 l=none:=by
 have e:=Zdx (l.take 9) (l.drop 9) 9 (by rw [List.length_take];have:=h.1;omega) h.2;rw [List.take_append_drop] at e;unfold Z7;rw [e]
theorem Z6d {l:LU} (h:Pre l l.length):Z7 l=none:=by
 have e:=Z8v 9 l (by have:=h.2;rwa [List.take_length] at this);unfold Z7;rw [e]
theorem Zbu {l:LU} {k:Nat} (h:Pre l k) (hk:k<l.length) (h9:k<9) (hc:(l[k]).toNat<128):
  dec 9 l=if 0<k∧(l[k]).toNat=0 then none else some (acc (l.take k)+128^k*(l[k]).toNat,l.drop (k+1)):=by
 have hl:(l.take k).length=k:=by rw [List.length_take];omega
 obtain ⟨f,hf⟩: ∃f,9=k+(f+1):=⟨8-k,by omega⟩;have e:=Z8u (l.take k) (f+1) (l.drop k) h.2;rw [List.take_append_drop,hl,←hf,List.drop_eq_getElem_cons hk] at e;rw [dec.eq_3,if_pos hc] at e;simp only at e;rw [e];have:(l.take k≠[])↔0<k:=by
  rw [←List.length_pos_iff,hl]
 by_cases h0:0<k∧(l[k]).toNat=0
 ·rw [if_pos h0,if_pos ⟨this.2 h0.1,h0.2⟩]
 ·rw [if_neg h0,if_neg (fun hh=>h0 ⟨this.1 hh.1,hh.2⟩)]
theorem Z2k {l:LU} {k:Nat} (h:Pre l k) (hk:k<l.length) (h9:k<9) (hp:0<k) (hc:(l[k]).toNat=0):Z7 l=none:=by
 unfold Z7;rw [Zbu h hk h9 (by omega),if_pos ⟨hp,hc⟩]
theorem Z33 {l:LU} {k:Nat} (h:Pre l k) (hk:k<l.length) (h9:k<9) (hc:(l[k]).toNat<128) (hn: ¬(0<k∧(l[k]).toNat=0)):
  Z7 l=if acc (l.take (k+1))≤Ze then some (acc (l.take (k+1)),l.drop (k+1)) else none:=by
 unfold Z7;have hl:(l.take k).length=k:=by rw [List.length_take];omega
 rw [Zbu h hk h9 hc,if_neg hn,Z31 l k hk,Z70,hl,Nat.mod_eq_of_lt hc]
theorem Z3F {l:LU} {k:Nat} (hk:k<l.length):acc (l.take (k+1))=acc (l.take k)+128^k*((l[k]).toNat%128):=by
 have hl:(l.take k).length=k:=by rw [List.length_take];omega
 rw [Z31 l k hk,Z70,hl]
theorem Z2w (l:LU) (k:Nat) (hk:k≤l.length):acc (l.take k)<128^k:=by
 have:=ZfM (l.take k);rwa [List.length_take,Nat.min_eq_left hk] at this
theorem Z3G {l:LU} {k:Nat} (h:Pre l k) (hk:k<l.length) (h9:k<9) (hc:(l[k]).toNat<128):
  (num (acc (l.take (k+1)))).length=k+1↔ ¬(0<k∧(l[k]).toNat=0):=by
 constructor
 ·intro he hz
  have e1:=Z3F hk;rw [hz.2] at e1;have e2:=Z2w l k (Nat.le_of_lt hk);obtain ⟨j,rfl⟩: ∃j,k=j+1:=⟨k-1,by omega⟩;have e3:=Za j (acc (l.take (j+1+1))) (by rw [e1];simpa using e2);omega
 ·intro hz
  have hl:(l.take k).length=k:=by rw [List.length_take];omega
  have e:=Zbu h hk h9 hc;rw [if_neg hz] at e;have e2:=(Z99 9 _ _ _ e).1;rw [Z31 l k hk,Z70,hl,Nat.mod_eq_of_lt hc];have e3:l.length=(num (acc (l.take k)+128^k*(l[k]).toNat)).length+(l.length-(k+1)):=by
   have:=congrArg List.length e2;rwa [List.length_append,List.length_drop] at this
  omega
def text (l:LU):LU:=num l.length++l
def ZD (b:LU) (most:Int):Option (LU×LU):=
 match Z7 b with
 | none=>none
 | some (n,r)=>if (n:Int)≤most∧n≤r.length then some (r.take n,r.drop n) else none
theorem Z80 (l r:LU) (most:Int) (h:(l.length:Int)≤most) (h2:l.length≤Ze):ZD (text l++r) most=some (l,r):=by
 unfold ZD text;rw [List.append_assoc,Z0n _ _ h2];simp [h]
theorem Z81 {b:LU} {most:Int} {l r:LU} (h:ZD b most=some (l,r)):b=text l++r∧(l.length:Int)≤most∧l.length≤Ze:=by
 unfold ZD at h
 cases hd:Z7 b with
 | none=>rw [hd] at h;cases h
 | some p=>
  obtain ⟨n,s⟩:=p;rw [hd] at h;simp only at h
  by_cases hc:(n:Int)≤most∧n≤s.length
  ·rw [if_pos hc] at h
   obtain ⟨rfl,rfl⟩:=Prod.mk.inj (Option.some.inj h);obtain ⟨rfl,h2⟩:=ZC hd;have e:(s.take n).length=n:=by rw [List.length_take];omega
   exact ⟨by rw [text,e,List.append_assoc,List.take_append_drop],by rw [e];exact hc.1,by rw [e];exact h2⟩
  ·rw [if_neg hc] at h;cases h
def Zk (n:Int):Nat:=(min (max n 0) 4611686018427387903).toNat
theorem Z0v (n:Int):Zk n≤Ze:=by unfold Zk Ze;omega
end Go.Dol
namespace Go.Proofs.YtecpbcmpncgokaaGreat
open Go.RowKit Go.Dol
theorem Z3H (A:OA) (l:LU) (c:Nat) (w:World) (hr:Rd w w.heap.size 1 A l.length (bc l)) (hl:l.length≤140737488355328):
  Calls Tryz.prog 93 #[.slice A l.length c] w (RetB 5 w l):=by
 have he:=ZcD
 cases A with
 | none=>
  have h0:=hr.none_zero;obtain rfl:l=[]:=nZ h0;go_in;go_wp2;go_ret;exact ⟨[],none,0,rfl,rfl,World.ownsRow_nil _ _ _ _,bR _ _,lR _,by unfold maxLen;omega⟩
 | some a=>
  go_in;go_wp2_with (at_builtin;refine app8 rfl (.tmp 5) (.tmp 6) rfl w.heap.size _ 0 [] rfl (Z0B w) w.heap.size (some a) l.length c l rfl (hr.alloc (lR _) _) (by omega) (by simp) ?_);intro l' A' c' w' e' h1 hb h2 h3 h4 h5;go_wp2;go_ret;exact ⟨l',A',c',e',rfl,h1,((bR _ _).alloc (lR _) _).trans hb,h4,h5⟩
theorem Z4d (A:OA) (l:LU) (n c:Nat) (w:World) (hn:n=l.length) (hr:Rd w w.heap.size 1 A n (bc l)) (hl:n≤140737488355328):
  Calls Tryz.prog 93 #[.slice A n c] w (RetB 5 w l):=by
 subst hn;exact Z3H A l c w hr hl
theorem Za0 (A:OA) (l:LU) (c:Nat) (A2:OA) (l2:LU) (c2:Nat) (w:World) (hr:Rd w w.heap.size 1 A l.length (bc l)) (hr2:Rd w w.heap.size 1 A2 l2.length (bc l2))
  (hl:l.length+l2.length≤140737488355328):
  Calls Tryz.prog 238 #[.slice A l.length c,.slice A2 l2.length c2] w (RetB 5 w (l++l2)):=by
 go_in;go_wp2_with fail;refine (Z3H A l c w hr (by omega)).mono ?_;rintro e w1 ⟨l1,A1,c1,e1,rfl,h1,hb1,h2,h3⟩;have hle:l1.length≤l.length:=by rw [e1.out];exact lR _
 have hs:=hb1.size;go_wp2_with (at_builtin;refine app8 rfl (.tmp 6) (.tmp 7) rfl w.heap.size _ l1.length l1 rfl h1 w.heap.size A2 l2.length c2 l2 rfl (hr2.below hb1) (by omega) hs ?_);intro l' A' c' w' e' g1 hb g2 g3 g4 g5;go_wp2;go_ret;exact ⟨l',A',c',by unfold Hid at e1 e' ⊢; rw [e',e1],rfl,g1,hb1.trans hb,g4,g5⟩
theorem Za1 (A:OA) (l:LU) (c:Nat) (s:BA) (w:World) (hr:Rd w w.heap.size 1 A l.length (bc l))
  (hl:l.length+s.size≤140737488355328):
  Calls Tryz.prog 272 #[.slice A l.length c,.string s] w (RetB 5 w (l++s.data.toList)):=by
 go_in;go_wp2_with fail;refine (Z3H A l c w hr (by omega)).mono ?_;rintro e w1 ⟨l1,A1,c1,e1,rfl,h1,hb1,h2,h3⟩;have hle:l1.length≤l.length:=by rw [e1.out];exact lR _
 have hs:=hb1.size;go_wp2_with (at_builtin;refine Z4S rfl (.tmp 6) (.tmp 7) rfl w.heap.size _ l1.length l1 rfl h1 s rfl (by omega) hs ?_);intro l' A' c' w' e' g1 hb g2 g4 g5;go_wp2;go_ret;exact ⟨l',A',c',by unfold Hid at e1 e' ⊢; rw [e',e1],rfl,g1,hb1.trans hb,g4,g5⟩
def ZfN (N:Nat) (w:World) (n v:Value) (wr:World):Prop:=
 ∃(m:Nat) (l:LU) (A:OA) (c:Nat),n= .int .i64 m∧v= .slice A l.length c∧wr.ownsRow w.heap.size 5 1 (.slice A l.length c) l.length (bc l)∧Hid (l++num m=num N)∧Below w.heap.size w wr∧m≤N
theorem Z71 (n:Int): ∃M:Int,(∀w:World,(Builtin.max_ #[3,3] 3 #[.int .i64 n,.int .i64 0]).run Tryz.prog w= .ok (.int .i64 M) w)∧
  (∀w:World,(Builtin.min_ #[3,3] 3 #[.int .i64 M,.int .i64 4611686018427387903]).run Tryz.prog w= .ok (.int .i64 (Zk n:Nat)) w):=by
 refine ⟨if 0>n then 0 else n,fun w=>run_max_int2 _ _ _ _ _ _ _,fun w=> ?_⟩;rw [run_min_int2]
 congr 2
 unfold Zk;split<;>split<;>omega
theorem Z02 (A:OA) (l:LU) (c:Nat) (n:Int) (w:World) (hr:Rd w w.heap.size 1 A l.length (bc l)) (hl:l.length+9≤140737488355328):
  Calls Tryz.prog 167 #[.slice A l.length c,.int .i64 n] w (RetB 5 w (l++num (Zk n))):=by
 obtain ⟨M,hM1,hM2⟩:=Z71 n;obtain ⟨N,hNe⟩: ∃N,N=Zk n:=⟨_,rfl⟩;have HN:Hid (N≤Ze):=by rw [hNe];exact Z0v n
 rw [←hNe] at hM2 ⊢;clear hNe;go_in;go_wp2_with fail;clear hM1 hM2;go_loopw [1,5] (fun n' v wr=>ZfN N w n' v wr) (fun n' _ _=>(intOf n').toNat)
 case atStart=>exact ⟨N,[],none,0,rfl,rfl,World.ownsRow_nil _ _ _ _,rfl,bR _ _,lR _⟩
 case round=>
  obtain ⟨m,l1,A1,c1,rfl,rfl,h1,h2,h3,h4⟩:=hrel;have hle:l1.length+(num m).length≤9:=by
   have e1:(l1++num m).length=(num N).length:=by rw [h2.out]
   have e2:=Za 8 N (by have:=HN.out;unfold Ze at this;omega);rw [List.length_append] at e1;omega
  have hnp:=Z6O m;have hle1:l1.length≤8:=by omega
  clear hle hnp;have hs:=h3.size
  by_cases hm:128≤m
  ·have hmi:(128:Int)≤m:=by omega
   have hk:=Zdu m;have hk0:0≤bits .or .u8 ((m:Int)%256) 128:=by omega
   have hk1:bits .or .u8 ((m:Int)%256) 128<256:=by omega
   have Hk:=qI hk;clear hk;go_wp2_with (at_builtin;refine Z1y rfl (.tmp 13) (.tmp 17) rfl w.heap.size _ l1.length l1 rfl h1 rfl hk0 hk1 (by omega) (by omega) ?_);intro d l' A' c' w' hd e' g1 gb g2 g3 g4 g5;clear hk0 hk1;go_wp2_with fail;refine ⟨⟨m/128,l',A',c',by go_num,rfl,g1,?_,h3.trans gb,by omega⟩,by simp [intOf];omega⟩;have hd':=Z0F hd Hk.out;unfold Hid at*;rw [e',hd',←h2,Z6Z hm];simp
  ·have hmi:(m:Int)<128:=by omega
   go_wp2_with (at_builtin;refine Z1y rfl (.tmp 20) (.tmp 23) rfl w.heap.size _ l1.length l1 rfl h1 rfl (by omega) (by omega) (by omega) (by omega) ?_);intro d l' A' c' w' hd e' g1 gb g2 g3 g4 g5;have hb:=h3.trans gb;have hs':=hb.size;have hle':l'.length≤9:=by rw [e'.out,List.length_append];simp;omega
   go_wp2_with fail;refine (Za0 A l c A' l' c' w' (hr.belowW hb (lR _) |>.more hs') (Rd.of_own g1) (by omega)).mono ?_;rintro e w2 ⟨l2,A2,c2,e2,rfl,p1,pb,p2,p3⟩;go_wp2_with fail;go_ret;refine ⟨l2,A2,c2,?_,rfl,p1.base hs',hb.trans (pb.mono hs'),p2,p3⟩;have hd':=Z0F (n:=m) hd (by omega);unfold Hid at*;rw [e2,e',hd',←h2,Z4T (by omega)]
def ZcF (N:Nat) (b:LU) (w:World) (n v:Value) (wr:World):Prop:=
 ∃(m:Nat) (l:LU) (A:OA) (c:Nat),n= .int .i64 m∧v= .slice A l.length c∧wr.ownsRow w.heap.size 5 1 (.slice A l.length c) l.length (bc l)∧Hid (l++num m=b++num N)∧Below w.heap.size w wr∧m≤N∧l.length≤c∧c≤maxLen
theorem Zr (A:OA) (l:LU) (c:Nat) (n:Int) (w:World) (hr:Rd w w.heap.size 1 A l.length (bc l)) (hl:l.length+9≤140737488355328):
  Calls Tryz.prog 120 #[.slice A l.length c,.int .i64 n] w (RetB 5 w (l++num (Zk n))):=by
 obtain ⟨M,hM1,hM2⟩:=Z71 n;obtain ⟨N,hNe⟩: ∃N,N=Zk n:=⟨_,rfl⟩;have HN:Hid (N≤Ze):=by rw [hNe];exact Z0v n
 rw [←hNe] at hM2 ⊢;clear hNe;go_in;go_wp2_with (at_builtin;refine app8 rfl (.tmp 9) (.tmp 10) rfl w.heap.size (.slice none 0 0) 0 [] rfl (World.ownsRow_nil _ _ _ _) w.heap.size A l.length c l rfl hr (by omega) (lR _) ?_);intro l0 A0 c0 w0 e0 h10 hb0 g20 g30 g40 g50;clear hM1 hM2 hr;go_wp2_with fail;go_loopw [1,5] (fun n' v wr=>ZcF N l w n' v wr) (fun n' _ _=>(intOf n').toNat)
 case atStart=>exact ⟨N,l0,A0,c0,rfl,rfl,h10,by unfold Hid;rw [e0.out],hb0,lR _,g40,g50⟩
 case round=>
  clear e0 h10 hb0 g20 g30 g40 g50;obtain ⟨m,l1,A1,c1,rfl,rfl,h1,h2,h3,h4,h5,h6⟩:=hrel;have hle:l1.length+(num m).length≤l.length+9:=by
   have e1:(l1++num m).length=(l++num N).length:=by rw [h2.out]
   have e2:=Za 8 N (by have:=HN.out;unfold Ze at this;omega);rw [List.length_append,List.length_append] at e1;omega
  have hnp:=Z6O m;have hle1:l1.length+1≤l.length+9:=by omega
  have hmb:(m:Int)≤4611686018427387903:=by have:=HN.out;unfold Ze at this;omega
  clear hle hnp h5 h6;have hs:=h3.size
  by_cases hm:128≤m
  ·have hmi:(128:Int)≤m:=by omega
   go_wp2_with (at_builtin;refine Z1y rfl (.tmp 14) (.tmp 19) rfl w.heap.size _ l1.length l1 rfl h1 rfl (by omega) (by omega) (by omega) (by omega) ?_);intro d l' A' c' w' hd e' g1 gb g2 g3 g4 g5;go_wp2_with fail;refine ⟨⟨m/128,l',A',c',by go_num,rfl,g1,?_,h3.trans gb,by omega,g4,g5⟩,by simp [intOf];omega⟩;have hd':=Z0F (n:=128+m%128) hd (by omega);unfold Hid at*;rw [e',hd',←h2,Z6Z hm];simp
  ·have hmi:(m:Int)<128:=by omega
   go_wp2_with (at_builtin;refine Z1y rfl (.tmp 23) (.tmp 26) rfl w.heap.size _ l1.length l1 rfl h1 rfl (by omega) (by omega) (by omega) (by omega) ?_);intro d l' A' c' w' hd e' g1 gb g2 g3 g4 g5;go_wp2_with fail;go_ret;refine ⟨l',A',c',?_,rfl,g1,h3.trans gb,g4,g5⟩;have hd':=Z0F (n:=m) hd (by omega);unfold Hid at*;rw [e',hd',←h2,Z4T (by omega)]
theorem Z72 {k:Nat} (h:k≤Ze):Zk (k:Int)=k:=by unfold Zk;unfold Ze at h;omega
theorem Z11 (A:OA) (l:LU) (c:Nat) (s:BA) (w:World) (hr:Rd w w.heap.size 1 A l.length (bc l)) (hl:l.length+9+s.size≤140737488355328):
  Calls Tryz.prog 253 #[.slice A l.length c,.string s] w (RetB 5 w (l++text s.data.toList)):=by
 have es:s.data.toList.length=s.size:=by rw [Array.length_toList];rfl
 have hm:s.size≤Ze:=by unfold Ze;omega
 have Hc:=qI (Z72 hm);have Hm:=qI hm;have Es:=qI es;clear hm es;go_in;go_wp2_with fail;refine (Z02 A l c s.size w hr (by omega)).mono ?_;rintro e w1 ⟨l1,A1,c1,e1,rfl,h1,hb1,h2,h3⟩;have hle:l1.length≤l.length+9:=by
  have e2:=Za 8 s.size (by have:=Hm.out;unfold Ze at this;omega);rw [e1.out,List.length_append,Hc.out];omega
 have hs:=hb1.size;go_wp2_with fail;refine (Za1 A1 l1 c1 s w1 (Rd.of_own h1) (by omega)).mono ?_;rintro e w2 ⟨l2,A2,c2,e2,rfl,p1,pb,p2,p3⟩;go_wp2_with fail;go_ret;refine ⟨l2,A2,c2,?_,rfl,p1.base hs,hb1.trans (pb.mono hs),p2,p3⟩;unfold Hid at*;rw [e2,e1,Hc,text,Es,List.append_assoc]
theorem Z04 (A:OA) (l:LU) (c:Nat) (s:BA) (w:World) (hr:Rd w w.heap.size 1 A l.length (bc l)) (hl:l.length+9+s.size≤140737488355328):
  Calls Tryz.prog 121 #[.slice A l.length c,.string s] w (RetB 5 w (l++text s.data.toList)):=by
 have es:s.data.toList.length=s.size:=by rw [Array.length_toList];rfl
 have hm:s.size≤Ze:=by unfold Ze;omega
 have Hc:=qI (Z72 hm);have Hm:=qI hm;have Es:=qI es;clear hm es;go_in;go_wp2_with fail;refine (Zr A l c s.size w hr (by omega)).mono ?_;rintro e w1 ⟨l1,A1,c1,e1,rfl,h1,hb1,h2,h3⟩;have hle:l1.length≤l.length+9:=by
  have e2:=Za 8 s.size (by have:=Hm.out;unfold Ze at this;omega);rw [e1.out,List.length_append,Hc.out];omega
 have hs:=hb1.size;go_wp2_with (at_builtin;refine Z4S rfl (.tmp 8) (.tmp 9) rfl w.heap.size _ l1.length l1 rfl h1 s rfl (by omega) hs ?_);intro l' A' c' w' e' g1 hb g2 g4 g5;go_wp2;go_ret;refine ⟨l',A',c',?_,rfl,g1,hb1.trans hb,g4,g5⟩;unfold Hid at*;rw [e',e1,Hc,text,Es,List.append_assoc]
theorem Z2l (A1:OA) (l:LU) (c1:Nat) (A2:OA) (l2:LU) (c2:Nat) (w:World) (B1 B2:Nat) (h1:Rd w B1 1 A1 l.length (bc l)) (h2:Rd w B2 1 A2 l2.length (bc l2)) (he:Hid (l=l2)):
  Calls Tryz.prog 24 #[.slice A1 l.length c1,.slice A2 l2.length c2] w fun e w'=>e= .returned (.bool true)∧w=w':=by
 obtain rfl:=he.out;go_in;go_wp2_with (first | refine Z6x rfl (.tmp 5) rfl B1 A1 _ c1 l rfl h1 ?_ | refine Z6x rfl (.tmp 7) rfl B2 A2 _ c2 l rfl h2 ?_);go_ret;exact ⟨by simp,rfl⟩
def ZeU (l:LU) (n used i:Value):Prop:=
 ∃k m:Nat,n= .int .u64 m∧used= .int .i64 0∧i= .int .i64 k∧Pre l k∧k≤9∧Hid (m=acc (l.take k))
theorem Z0w (A:OA) (l:LU) (c:Nat) (w:World) (hr:Rd w w.heap.size 1 A l.length (bc l)) (hl:l.length≤140737488355328) (hc:l.length≤c):
  Calls Tryz.prog 209 #[.slice A l.length c] w (ZcC 5 w (Z7 l)):=by
 go_in;go_wp2_with fail;go_step3;go_wp2_with fail;go_step3;go_wp2_with fail;go_loop [5,6,11] (fun n used i=>ZeU l n used i) (fun _ _ i=>9-(intOf i).toNat)
 case atStart=>exact ⟨0,0,rfl,rfl,rfl,Pre.zero l,by omega,by simp [Hid,acc]⟩
 case round=>
  obtain ⟨k,m,rfl,rfl,rfl,hp,hk9,hm⟩:=hrel;have hkl:=hp.1;have HP:=qI hp;clear hp
  by_cases hlt:k<l.length
  ·obtain ⟨b,off,rfl,hb,hcell⟩:=hr.at_ (by omega)
   have hcx:=hcell k _ (Z09 l k hlt);obtain ⟨x,hx⟩: ∃x,x=(l[k]).toNat:=⟨_,rfl⟩;have hx256:x<256:=by have:=(l[k]).toNat_lt;omega
   rw [←hx] at hcx;have HX:=qI hx;clear hx hcell
   by_cases h9:k=9
   ·subst h9
    go_wp2_with fail;go_ret3;rw [Z32 HP.out];exact ⟨rfl,bR _ _⟩
   ·have hk8:k<9:=by omega
    clear h9 hk9
    by_cases hx128:x<128
    ·by_cases hxk:x=0∧0<k
     ·obtain ⟨hx0,hk0⟩:=hxk
      have HX0:=qI hx0;have hxi:(x:Int)<1:=by omega
      have hki:(0:Int)<k:=by omega
      clear hx0;go_wp2_with fail;go_ret3;rw [Z2k HP.out hlt hk8 hk0 (by rw [←HX.out];exact HX0.out)];exact ⟨rfl,bR _ _⟩
     ·have hax:bits .and .u8 (x:Int) 127=(x:Int):=by rw [Z93 x hx256,Nat.mod_eq_of_lt hx128]
      obtain ⟨z,m',hz1,hz2,hz3⟩:=Z94 m x k hk8 (by rw [hm.out];exact Z2w l k hkl) hx128;have hm':m'=acc (l.take (k+1)):=by rw [Z3F hlt,hz3,hm.out,←HX.out,Nat.mod_eq_of_lt hx128]
      have HT:Hid (Z7 l=if m'≤Ze then some (m',l.drop (k+1)) else none):=by
       have:=Z33 HP.out hlt hk8 (by rw [←HX.out];exact hx128) (by rw [←HX.out];omega);rwa [←hm'] at this
      clear hz3 hm';have hxc:x=0∧k=0∨1≤x:=by omega
      clear hxk;rcases hxc with ⟨hx0,hk0⟩ | hx1
      ·have hxi:(x:Int)<1:=by omega
       have hki:(k:Int)<1:=by omega
       have hk1:((k:Int)+1==0)=false:=beq_eq_false_iff_ne.2 (by omega);have hax0:bits .and .u8 0 127=0:=by decide
       have hz20:bits .or .u64 (m:Int) 0=(m':Int):=by
        rw [hx0] at hz1;have h0:(0:Int)=z:=by rw [←hz1];simp [IntKind.wrap_u64]
        rw [←hz2,←h0]
       clear hx0 hk0 hax hz1 hz2
       by_cases hmm:m'≤Ze
       ·have hmi:decide ((4611686018427387903:Int)<m')=false:=by unfold Ze at hmm;simp;omega
        have hmj:(m':Int)≤4611686018427387903:=by unfold Ze at hmm;omega
        have ht:=hr.tail (k:=k+1) hlt hc;have HT2:Hid (Z7 l=some (m',l.drop (k+1))):=by have:=HT.out;rwa [if_pos hmm] at this
        clear hmm HT
        by_cases hcap:c=k+1
        ·rw [if_pos hcap] at ht
         have HC:=qI hcap;go_wp2_with fail;refine (Z4d _ (l.drop (k+1)) _ _ w (by simp) ht (by omega)).mono ?_;rintro e w1 ⟨l1,A1,c1,e1,rfl,h1,hb1,h2,h3⟩;go_wp2_with fail;go_ret3;rw [HT2.out];exact ⟨l1,A1,c1,e1,rfl,h1,hb1,h2,h3⟩
        ·rw [if_neg hcap] at ht
         have ht':Rd w w.heap.size 1 (some ⟨b,off+(k+1),none⟩) (l.length-(k+1)) (bc (l.drop (k+1))):=by simpa [Addr.add_lit] using ht
         clear ht;go_wp2_with fail;refine (Z4d _ (l.drop (k+1)) _ _ w (by simp) ht' (by omega)).mono ?_;rintro e w1 ⟨l1,A1,c1,e1,rfl,h1,hb1,h2,h3⟩;go_wp2_with fail;go_ret3;rw [HT2.out];exact ⟨l1,A1,c1,e1,rfl,h1,hb1,h2,h3⟩
       ·have hmi:decide ((4611686018427387903:Int)<m')=true:=by unfold Ze at hmm;simp;omega
        have HT2:Hid (Z7 l=none):=by have:=HT.out;rwa [if_neg hmm] at this
        clear hmm HT;go_wp2_with fail;go_ret3;rw [HT2.out];exact ⟨rfl,bR _ _⟩
      ·have hxi:(1:Int)≤x:=by omega
       have hxj:(x:Int)<128:=by omega
       have hk1:((k:Int)+1==0)=false:=beq_eq_false_iff_ne.2 (by omega);clear hx1
       by_cases hmm:m'≤Ze
       ·have hmi:decide ((4611686018427387903:Int)<m')=false:=by unfold Ze at hmm;simp;omega
        have hmj:(m':Int)≤4611686018427387903:=by unfold Ze at hmm;omega
        have ht:=hr.tail (k:=k+1) hlt hc;have HT2:Hid (Z7 l=some (m',l.drop (k+1))):=by have:=HT.out;rwa [if_pos hmm] at this
        clear hmm HT
        by_cases hcap:c=k+1
        ·rw [if_pos hcap] at ht
         have HC:=qI hcap;go_wp2_with fail;refine (Z4d _ (l.drop (k+1)) _ _ w (by simp) ht (by omega)).mono ?_;rintro e w1 ⟨l1,A1,c1,e1,rfl,h1,hb1,h2,h3⟩;go_wp2_with fail;go_ret3;rw [HT2.out];exact ⟨l1,A1,c1,e1,rfl,h1,hb1,h2,h3⟩
        ·rw [if_neg hcap] at ht
         have ht':Rd w w.heap.size 1 (some ⟨b,off+(k+1),none⟩) (l.length-(k+1)) (bc (l.drop (k+1))):=by simpa [Addr.add_lit] using ht
         clear ht;go_wp2_with fail;refine (Z4d _ (l.drop (k+1)) _ _ w (by simp) ht' (by omega)).mono ?_;rintro e w1 ⟨l1,A1,c1,e1,rfl,h1,hb1,h2,h3⟩;go_wp2_with fail;go_ret3;rw [HT2.out];exact ⟨l1,A1,c1,e1,rfl,h1,hb1,h2,h3⟩
       ·have hmi:decide ((4611686018427387903:Int)<m')=true:=by unfold Ze at hmm;simp;omega
        have HT2:Hid (Z7 l=none):=by have:=HT.out;rwa [if_neg hmm] at this
        clear hmm HT;go_wp2_with fail;go_ret3;rw [HT2.out];exact ⟨rfl,bR _ _⟩
    ·have hax:bits .and .u8 (x:Int) 127=((x%128:Nat):Int):=Z93 x hx256
     obtain ⟨y,hy⟩: ∃y,y=x%128:=⟨_,rfl⟩;have hy128:y<128:=by omega
     rw [←hy] at hax;have HY:=qI hy;clear hy;obtain ⟨z,m',hz1,hz2,hz3⟩:=Z94 m y k hk8 (by rw [hm.out];exact Z2w l k hkl) hy128;have hm':Hid (m'=acc (l.take (k+1))):=by unfold Hid;rw [Z3F hlt,hz3,hm.out,←HX.out,←HY.out]
     clear hz3;have hxi:(128:Int)≤x:=by omega
     have HP':Hid (Pre l (k+1)):=HP.out.succ hlt (by rw [←HX.out];omega);go_wp2_with fail;exact ⟨⟨k+1,m',rfl,rfl,by go_num,HP'.out,by omega,hm'⟩,by simp [intOf];omega⟩
  ·have hkk:k=l.length:=by omega
   have HK:=qI hkk;clear hkk;go_wp2_with fail;go_ret3;rw [Z6d (by have:=HP.out;rwa [HK.out] at this)];exact ⟨rfl,bR _ _⟩
end Go.Proofs.YtecpbcmpncgokaaGreat
namespace Go.Proofs.YtecpbcmpncgokaaGreat
open Go.RowKit Go.Dol
def Zbv (l:LU) (n p i:Value):Prop:=
 ∃(k m:Nat) (q:Int),n= .int .i64 m∧p= .int .i64 q∧i= .int .i64 k∧Pre l k∧k≤9∧Hid (m=acc (l.take k))∧Hid (k<9→q=((128^k:Nat):Int))
theorem ZcG (m y k:Nat) (hk:k<8∨k=8∧y≤63) (hm:m<128^k) (hy:y<128):
  ∃z:Nat,(y:Int)*((128^k:Nat):Int)=(z:Int)∧z=128^k*y∧m+z≤Ze:=by
 refine ⟨128^k*y,by rw [Int.mul_comm];simp,rfl,?_⟩;unfold Ze;rcases hk with hk | ⟨rfl,hy2⟩
 ·have hle:128^k≤128^7:=Nat.pow_le_pow_right (by decide) (by omega)
  have hz:128^k*y≤128^7*127:=Nat.mul_le_mul hle (by omega);omega
 ·omega
theorem Zdy {l:LU} {k:Nat} (h:Pre l k) (hk:k<l.length) (h8:k=8) (hc:63<(l[k]).toNat%128):Z7 l=none:=by
 subst h8
 by_cases h128:(l[8]).toNat<128
 ·rw [Z33 h hk (by omega) h128 (by omega),if_neg]
  rw [Z3F hk];unfold Ze;omega
 ·exact Z32 (h.succ hk (by omega))
theorem ZH (A:OA) (l:LU) (c:Nat) (w:World) (hr:Rd w w.heap.size 1 A l.length (bc l)) (hl:l.length≤140737488355328) (hc:l.length≤c):
  Calls Tryz.prog 142 #[.slice A l.length c] w (ZcC 5 w (Z7 l)):=by
 go_in;go_wp2_with fail;go_loop [5,6,7] (fun n p i=>Zbv l n p i) (fun _ _ i=>9-(intOf i).toNat)
 case atStart=>exact ⟨0,0,1,rfl,rfl,rfl,Pre.zero l,by omega,by simp [Hid,acc],by simp [Hid]⟩
 case round=>
  obtain ⟨k,m,q,rfl,rfl,rfl,hp,hk9,hm,hq⟩:=hrel;have hkl:=hp.1;have HP:=qI hp;clear hp
  by_cases hlt:k<l.length
  ·by_cases h9:k=9
   ·have hki: ¬(k:Int)<9:=by omega
    have HK:=qI h9;clear h9;go_wp2_with fail;go_ret3;have:=HP.out;rw [HK.out] at this;rw [Z32 this];exact ⟨rfl,bR _ _⟩
   ·have hk8:k<9:=by omega
    obtain ⟨b,off,rfl,hb,hcell⟩:=hr.at_ (by omega);have hcx:=hcell k _ (Z09 l k hlt);obtain ⟨x,hx⟩: ∃x,x=(l[k]).toNat:=⟨_,rfl⟩;have hx256:x<256:=by have:=(l[k]).toNat_lt;omega
    rw [←hx] at hcx;have HX:=qI hx;clear hx hcell h9 hk9;obtain ⟨y,hy⟩: ∃y,y=x%128:=⟨_,rfl⟩;have hyx:(x:Int)%128=(y:Int):=by omega
    have hy128:y<128:=by omega
    have HY:=qI hy;clear hy;have Hq:Hid (q=((128^k:Nat):Int)):=hq.out hk8
    by_cases hbig:k=8∧63<y
    ·obtain ⟨hb1,hb2⟩:=hbig
     have HB:=qI hb1;have hb3:(8:Int)≤k:=by omega
     have hb4:(63:Int)<y:=by omega
     clear hb1;go_wp2_with fail;go_ret3;rw [Zdy HP.out hlt HB.out (by rw [←HX.out,←HY.out];exact hb2)];exact ⟨rfl,bR _ _⟩
    ·obtain ⟨z,hz1,hz2,hz3⟩:=ZcG m y k (by omega) (by rw [hm.out];exact Z2w l k hkl) hy128
     have hz4:(m:Int)+(z:Int)≤4611686018427387903:=by unfold Ze at hz3;omega
     rw [←Hq.out] at hz1;have hm':Hid (m+z=acc (l.take (k+1))):=by unfold Hid;rw [Z3F hlt,hz2,hm.out,←HX.out,←HY.out]
     have HM:=qI hz3;clear hz2 hz3;have h8c:k<8∨k=8∧y≤63:=by omega
     clear hbig;rcases h8c with h81 | ⟨h81,h82⟩
     ·have h8i:(k:Int)<8:=by omega
      clear h81
      by_cases hx128:x<128
      ·have HL:Hid ((num (m+z)).length=k+1↔ ¬(0<k∧x=0)):=by
        have:=Z3G HP.out hlt (by omega) (by rw [←HX.out];exact hx128);rwa [←hm'.out,←HX.out] at this
       have Hc:Hid (Zk ((m:Int)+(z:Int))=m+z):=by have:=HM.out;unfold Ze at this;unfold Hid Zk;omega
       by_cases hxk:0<k∧x=0
       ·have HT:Hid (Z7 l=none):=Z2k HP.out hlt (by omega) hxk.1 (by rw [←HX.out];exact hxk.2)
        have HL2:Hid ((num (m+z)).length≠k+1):=fun e=>HL.out.1 e hxk;have hxi:(x:Int)<128:=by omega
        clear hxk;go_wp2_with fail;refine (Zr none [] 0 _ w Rd.nil (by simp)).mono ?_;rintro e w1 ⟨l1,A1,c1,e1,rfl,h1,hb1,h2,h3⟩;have hne:((l1.length:Int)!=(k:Int)+1)=true:=by
         rw [bne_iff_ne];intro he;apply HL2.out;have e2:=e1.out;rw [List.nil_append,Hc.out] at e2;rw [←e2];omega
        go_wp2_with fail;go_ret3;rw [HT.out];exact ⟨rfl,hb1⟩
       ·have HT:Hid (Z7 l=some (m+z,l.drop (k+1))):=by
         have:=Z33 HP.out hlt (by omega) (by rw [←HX.out];exact hx128) (by rw [←HX.out];exact hxk);rwa [←hm'.out,if_pos HM.out] at this
        have HL2:Hid ((num (m+z)).length=k+1):=HL.out.2 hxk;have hxi:(x:Int)<128:=by omega
        clear hxk;go_wp2_with fail;refine (Zr none [] 0 _ w Rd.nil (by simp)).mono ?_;rintro e w1 ⟨l1,A1,c1,e1,rfl,h1,hb1,h2,h3⟩;have hne:((l1.length:Int)!=(k:Int)+1)=false:=by
         have e2:=e1.out;rw [List.nil_append,Hc.out] at e2;have e3:=HL2.out;rw [←e2] at e3;rw [bne_eq_false_iff_eq];omega
        have hs:=hb1.size;have htl:=((hr.tail (k:=k+1) hlt hc).belowW hb1 (lR _)).more hs
        by_cases hcap:c=k+1
        ·rw [if_pos hcap] at htl
         have HC:=qI hcap;go_wp2_with (at_builtin;refine app8 rfl (.tmp 48) (.tmp 52) rfl w1.heap.size _ 0 [] rfl (Z0B w1) _ _ _ _ (l.drop (k+1)) rfl (htl.alloc (lR _) _) (by omega) (by simp) ?_);intro l' A' c' w' e' g1 gb g2 g3 g4 g5;go_wp2_with fail;go_ret3;rw [HT.out];exact ⟨l',A',c',e',rfl,g1.base hs,hb1.trans ((((bR _ _).alloc (lR _) _).trans gb).mono hs),g4,g5⟩
        ·rw [if_neg hcap] at htl
         have htl':Rd w1 w1.heap.size 1 (some ⟨b,off+(k+1),none⟩) (l.length-(k+1)) (bc (l.drop (k+1))):=by simpa [Addr.add_lit] using htl
         clear htl;go_wp2_with (at_builtin;refine app8 rfl (.tmp 48) (.tmp 52) rfl w1.heap.size _ 0 [] rfl (Z0B w1) _ _ _ _ (l.drop (k+1)) rfl (htl'.alloc (lR _) _) (by omega) (by simp) ?_);intro l' A' c' w' e' g1 gb g2 g3 g4 g5;go_wp2_with fail;go_ret3;rw [HT.out];exact ⟨l',A',c',e',rfl,g1.base hs,hb1.trans ((((bR _ _).alloc (lR _) _).trans gb).mono hs),g4,g5⟩
      ·have hxi: ¬(x:Int)<128:=by omega
       have HP':Hid (Pre l (k+1)):=HP.out.succ hlt (by rw [←HX.out];omega);go_wp2_with fail;refine ⟨⟨k+1,m+z,_,by go_num,rfl,by go_num,HP'.out,by omega,hm',?_⟩,by simp [intOf];omega⟩;unfold Hid at*;intro hk9;have hle:128^k≤128^7:=Nat.pow_le_pow_right (by decide) (by omega);have hp0:0<128^k:=Nat.pow_pos (by decide);rw [Hq,IntWalk.wrap64_in _ (by omega),Nat.pow_succ];simp
     ·subst h81
      have h8i:(y:Int)≤63:=by omega
      clear h82
      by_cases hx128:x<128
      ·have HL:Hid ((num (m+z)).length=8+1↔ ¬(0<8∧x=0)):=by
        have:=Z3G HP.out hlt (by omega) (by rw [←HX.out];exact hx128);rwa [←hm'.out,←HX.out] at this
       have Hc:Hid (Zk ((m:Int)+(z:Int))=m+z):=by have:=HM.out;unfold Ze at this;unfold Hid Zk;omega
       by_cases hxk:0<8∧x=0
       ·have HT:Hid (Z7 l=none):=Z2k HP.out hlt (by omega) hxk.1 (by rw [←HX.out];exact hxk.2)
        have HL2:Hid ((num (m+z)).length≠8+1):=fun e=>HL.out.1 e hxk;have hxi:(x:Int)<128:=by omega
        clear hxk;go_wp2_with fail;refine (Zr none [] 0 _ w Rd.nil (by simp)).mono ?_;rintro e w1 ⟨l1,A1,c1,e1,rfl,h1,hb1,h2,h3⟩;have hne:((l1.length:Int)!=8+1)=true:=by
         rw [bne_iff_ne];intro he;apply HL2.out;have e2:=e1.out;rw [List.nil_append,Hc.out] at e2;rw [←e2];omega
        go_wp2_with fail;go_ret3;rw [HT.out];exact ⟨rfl,hb1⟩
       ·have HT:Hid (Z7 l=some (m+z,l.drop (8+1))):=by
         have:=Z33 HP.out hlt (by omega) (by rw [←HX.out];exact hx128) (by rw [←HX.out];exact hxk);rwa [←hm'.out,if_pos HM.out] at this
        have HL2:Hid ((num (m+z)).length=8+1):=HL.out.2 hxk;have hxi:(x:Int)<128:=by omega
        clear hxk;go_wp2_with fail;refine (Zr none [] 0 _ w Rd.nil (by simp)).mono ?_;rintro e w1 ⟨l1,A1,c1,e1,rfl,h1,hb1,h2,h3⟩;have hne:((l1.length:Int)!=8+1)=false:=by
         have e2:=e1.out;rw [List.nil_append,Hc.out] at e2;have e3:=HL2.out;rw [←e2] at e3;rw [bne_eq_false_iff_eq];omega
        have hs:=hb1.size;have htl:=((hr.tail (k:=8+1) hlt hc).belowW hb1 (lR _)).more hs
        by_cases hcap:c=8+1
        ·rw [if_pos hcap] at htl
         have HC:=qI hcap;go_wp2_with (at_builtin;refine app8 rfl (.tmp 48) (.tmp 52) rfl w1.heap.size _ 0 [] rfl (Z0B w1) _ _ _ _ (l.drop (8+1)) rfl (htl.alloc (lR _) _) (by omega) (by simp) ?_);intro l' A' c' w' e' g1 gb g2 g3 g4 g5;go_wp2_with fail;go_ret3;rw [HT.out];exact ⟨l',A',c',e',rfl,g1.base hs,hb1.trans ((((bR _ _).alloc (lR _) _).trans gb).mono hs),g4,g5⟩
        ·rw [if_neg hcap] at htl
         have htl':Rd w1 w1.heap.size 1 (some ⟨b,off+(8+1),none⟩) (l.length-(8+1)) (bc (l.drop (8+1))):=by simpa [Addr.add_lit] using htl
         clear htl;go_wp2_with (at_builtin;refine app8 rfl (.tmp 48) (.tmp 52) rfl w1.heap.size _ 0 [] rfl (Z0B w1) _ _ _ _ (l.drop (8+1)) rfl (htl'.alloc (lR _) _) (by omega) (by simp) ?_);intro l' A' c' w' e' g1 gb g2 g3 g4 g5;go_wp2_with fail;go_ret3;rw [HT.out];exact ⟨l',A',c',e',rfl,g1.base hs,hb1.trans ((((bR _ _).alloc (lR _) _).trans gb).mono hs),g4,g5⟩
      ·have hxi: ¬(x:Int)<128:=by omega
       have HP':Hid (Pre l (8+1)):=HP.out.succ hlt (by rw [←HX.out];omega);go_wp2_with fail;refine ⟨⟨8+1,m+z,_,by go_num,rfl,by go_num,HP'.out,by omega,hm',?_⟩,by simp [intOf]⟩;unfold Hid at*;intro hk9;omega
  ·have hkk:k=l.length:=by omega
   have HK:=qI hkk;clear hkk;go_wp2_with fail;go_ret3;rw [Z6d (by have:=HP.out;rwa [HK.out] at this)];exact ⟨rfl,bR _ _⟩
end Go.Proofs.YtecpbcmpncgokaaGreat
namespace Go.Proofs.YtecpbcmpncgokaaGreat
open Go.RowKit Go.Dol
def Z5b (w:World) (r:Option (LU×LU)) (e:Ending) (w':World):Prop:=
 match r with
 | none=>e= .returned (.tuple #[.string ⟨#[]⟩,.slice none 0 0,.int .i64 2])∧Below w.heap.size w w'
 | some (s,q)=> ∃(q':LU) (A:OA) (c:Nat),Hid (q'=q)∧e= .returned (.tuple #[.string ⟨s.toArray⟩,.slice A q'.length c,.int .i64 0])∧Seg w' w.heap.size 5 1 A q'.length c (bc q')∧Below w.heap.size w w'
theorem Z9a (A:OA) (l:LU) (c:Nat) (most:Int) (w:World) (hr:Rd w w.heap.size 1 A l.length (bc l)) (hl:l.length≤140737488355328) (hc:l.length≤c):
  Calls Tryz.prog 255 #[.slice A l.length c,.int .i64 most] w (Z5b w (ZD l most)):=by
 cases ht:Z7 l with
 | none=>
  have HE:Hid (ZD l most=none):=by unfold Hid ZD;rw [ht]
  have HT:=qI ht;clear ht;go_in;go_wp2_with fail;refine (Z0w A l c w hr hl hc).mono ?_;intro e w1 h1;rw [HT.out] at h1;obtain ⟨rfl,hb1⟩:=h1;go_wp2_with fail;go_ret3;rw [HE.out];exact ⟨rfl,hb1⟩
 | some p=>
  obtain ⟨n,q⟩:=p;have hn:=(ZC ht).2;unfold Ze at hn;have hni:(n:Int)≤4611686018427387903:=by omega
  have HE:Hid (ZD l most=if (n:Int)≤most∧n≤q.length then some (q.take n,q.drop n) else none):=by unfold Hid ZD;rw [ht]
  have HT:=qI ht;clear ht hn;have hcase:most<(n:Int)∨((n:Int)≤most∧q.length<n)∨((n:Int)≤most∧n≤q.length):=by omega
  rcases hcase with h0 | ⟨h0,h00⟩ | ⟨h0,h00⟩
  ·have HE2:Hid (ZD l most=none):=by have:=HE.out;rwa [if_neg (by omega)] at this
   clear HE;have hd:decide (most<(n:Int))=true:=by simpa using h0
   go_in;go_wp2_with fail;refine (Z0w A l c w hr hl hc).mono ?_;intro e w1 h1;rw [HT.out] at h1;obtain ⟨q1,A1,c1,e1,rfl,h1,hb1,h2,h3⟩:=h1;go_wp2_with fail;go_ret3;rw [HE2.out];exact ⟨rfl,hb1⟩
  ·have HE2:Hid (ZD l most=none):=by have:=HE.out;rwa [if_neg (by omega)] at this
   clear HE;have hd:decide (most<(n:Int))=false:=by simpa using h0
   go_in;go_wp2_with fail;refine (Z0w A l c w hr hl hc).mono ?_;intro e w1 h1;rw [HT.out] at h1;obtain ⟨q1,A1,c1,e1,rfl,h1,hb1,h2,h3⟩:=h1;have hd2:decide (q1.length<n)=true:=by rw [e1.out];simpa using h00
   have hd3:decide ((q1.length:Int)<(n:Int))=true:=by rw [e1.out];simpa using h00
   go_wp2_with fail;go_ret3;rw [HE2.out];exact ⟨rfl,hb1⟩
  ·have HE2:Hid (ZD l most=some (q.take n,q.drop n)):=by have:=HE.out;rwa [if_pos ⟨h0,h00⟩] at this
   clear HE;have hd:decide (most<(n:Int))=false:=by simpa using h0
   go_in;go_wp2_with fail;refine (Z0w A l c w hr hl hc).mono ?_;intro e w1 h1;rw [HT.out] at h1;obtain ⟨q1,A1,c1,e1,rfl,h1,hb1,h2,h3⟩:=h1;have hnq:n≤q1.length:=by rw [e1.out];exact h00
   have hd2:decide (q1.length<n)=false:=by simpa using hnq
   have hd3:decide ((q1.length:Int)<(n:Int))=false:=by simpa using hnq
   have hr1:=Rd.of_own h1;have ht:=((Seg.of_own h1).tail8 hnq);have hcv1: ∀k,(convert 36 9 (.slice A1 n c1)).run Tryz.prog (w1.drewN k)= .ok (.string ⟨(q1.take n).toArray⟩) (w1.drewN k):=fun k=>Z1n _ _ _ _ Tryz.underlying36 Tryz.underlying5 Tryz.underlying9 _ A1 n c1 (q1.take n) ((hr1.head hnq).drewN k);have hcv2:(convert 36 9 (.slice A1 n c1)).run Tryz.prog w1.drew= .ok (.string ⟨(q1.take n).toArray⟩) w1.drew:=Z1n _ _ _ _ Tryz.underlying36 Tryz.underlying5 Tryz.underlying9 _ A1 n c1 (q1.take n) (hr1.head hnq).drew;have hnc:n≤c1:=by omega
   by_cases hcap:c1=n
   ·clear ht
    subst hcap;go_wp2_with fail;go_quiet (fail);go_wp2_with fail;go_ret3;rw [HE2.out];cases e1.out;exact ⟨[],A1,0,(List.drop_eq_nil_of_le (by omega)).symm,rfl,Seg.nil,Below.drewN' hb1 _⟩
   ·rw [if_neg hcap] at ht
    go_wp2_with fail;go_quiet (fail);go_wp2_with fail;go_ret3;rw [HE2.out];cases e1.out;exact ⟨q.drop _,_,_,rfl,by rw [List.length_drop];rfl,by rw [List.length_drop];exact ht.drewN _,Below.drewN' hb1 _⟩
theorem Z6y (A:OA) (l:LU) (c:Nat) (most:Int) (w:World) (hr:Rd w w.heap.size 1 A l.length (bc l)) (hl:l.length≤140737488355328) (hc:l.length≤c):
  Calls Tryz.prog 143 #[.slice A l.length c,.int .i64 most] w (Z5b w (ZD l most)):=by
 cases ht:Z7 l with
 | none=>
  have HE:Hid (ZD l most=none):=by unfold Hid ZD;rw [ht]
  have HT:=qI ht;clear ht;go_in;go_wp2_with fail;refine (ZH A l c w hr hl hc).mono ?_;intro e w1 h1;rw [HT.out] at h1;obtain ⟨rfl,hb1⟩:=h1;go_wp2_with fail;go_ret3;rw [HE.out];exact ⟨rfl,hb1⟩
 | some p=>
  obtain ⟨n,q⟩:=p;have hn:=(ZC ht).2;unfold Ze at hn;have hni:(n:Int)≤4611686018427387903:=by omega
  have HE:Hid (ZD l most=if (n:Int)≤most∧n≤q.length then some (q.take n,q.drop n) else none):=by unfold Hid ZD;rw [ht]
  have HT:=qI ht;clear ht hn;have hcase:most<(n:Int)∨((n:Int)≤most∧q.length<n)∨((n:Int)≤most∧n≤q.length):=by omega
  rcases hcase with h0 | ⟨h0,h00⟩ | ⟨h0,h00⟩
  ·have HE2:Hid (ZD l most=none):=by have:=HE.out;rwa [if_neg (by omega)] at this
   clear HE;have hd:decide (most<(n:Int))=true:=by simpa using h0
   go_in;go_wp2_with fail;refine (ZH A l c w hr hl hc).mono ?_;intro e w1 h1;rw [HT.out] at h1;obtain ⟨q1,A1,c1,e1,rfl,h1,hb1,h2,h3⟩:=h1;go_wp2_with fail;go_ret3;rw [HE2.out];exact ⟨rfl,hb1⟩
  ·have HE2:Hid (ZD l most=none):=by have:=HE.out;rwa [if_neg (by omega)] at this
   clear HE;have hd:decide (most<(n:Int))=false:=by simpa using h0
   go_in;go_wp2_with fail;refine (ZH A l c w hr hl hc).mono ?_;intro e w1 h1;rw [HT.out] at h1;obtain ⟨q1,A1,c1,e1,rfl,h1,hb1,h2,h3⟩:=h1;have hd2:decide (q1.length<n)=true:=by rw [e1.out];simpa using h00
   have hd3:decide ((q1.length:Int)<(n:Int))=true:=by rw [e1.out];simpa using h00
   go_wp2_with fail;go_ret3;rw [HE2.out];exact ⟨rfl,hb1⟩
  ·have HE2:Hid (ZD l most=some (q.take n,q.drop n)):=by have:=HE.out;rwa [if_pos ⟨h0,h00⟩] at this
   clear HE;have hd:decide (most<(n:Int))=false:=by simpa using h0
   go_in;go_wp2_with fail;refine (ZH A l c w hr hl hc).mono ?_;intro e w1 h1;rw [HT.out] at h1;obtain ⟨q1,A1,c1,e1,rfl,h1,hb1,h2,h3⟩:=h1;have hnq:n≤q1.length:=by rw [e1.out];exact h00
   have hd2:decide (q1.length<n)=false:=by simpa using hnq
   have hd3:decide ((q1.length:Int)<(n:Int))=false:=by simpa using hnq
   have hr1:=Rd.of_own h1;have ht:=((Seg.of_own h1).tail8 hnq);have hcv1: ∀k,(convert 36 9 (.slice A1 n c1)).run Tryz.prog (w1.drewN k)= .ok (.string ⟨(q1.take n).toArray⟩) (w1.drewN k):=fun k=>Z1n _ _ _ _ Tryz.underlying36 Tryz.underlying5 Tryz.underlying9 _ A1 n c1 (q1.take n) ((hr1.head hnq).drewN k);have hcv2:(convert 36 9 (.slice A1 n c1)).run Tryz.prog w1.drew= .ok (.string ⟨(q1.take n).toArray⟩) w1.drew:=Z1n _ _ _ _ Tryz.underlying36 Tryz.underlying5 Tryz.underlying9 _ A1 n c1 (q1.take n) (hr1.head hnq).drew;have hnc:n≤c1:=by omega
   by_cases hcap:c1=n
   ·clear ht
    subst hcap;go_wp2_with fail;go_quiet (fail);go_wp2_with fail;go_ret3;rw [HE2.out];cases e1.out;exact ⟨[],A1,0,(List.drop_eq_nil_of_le (by omega)).symm,rfl,Seg.nil,Below.drewN' hb1 _⟩
   ·rw [if_neg hcap] at ht
    go_wp2_with fail;go_quiet (fail);go_wp2_with fail;go_ret3;rw [HE2.out];cases e1.out;exact ⟨q.drop _,_,_,rfl,by rw [List.length_drop];rfl,by rw [List.length_drop];exact ht.drewN _,Below.drewN' hb1 _⟩
end Go.Proofs.YtecpbcmpncgokaaGreat
