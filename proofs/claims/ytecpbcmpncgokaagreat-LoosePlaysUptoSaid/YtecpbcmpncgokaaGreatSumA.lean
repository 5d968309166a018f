/- What the layer 'sum' computes, in plain Lean: eight words, blocks of 32 bytes, as the code's own operations reckon them. Conditions: bytes that are made fit 2^47. -/
import Derived.Test.YtecpbcmpncgokaaGreatWordsA
import Derived.Deep.QuietTactic
import Derived.BigQuiet
import Derived.StillTailTactics
import Derived.Deep.LoopGhost
import Derived.Lib.AppendZerosOnto
import Derived.Test.YtecpbcmpncgokaaGreatShort
set_option maxRecDepth 100000
set_option maxHeartbeats 1000000
set_option linter.unusedVariables false
namespace Go.Dol
def rotl (x:Int) (k:Nat):Int:=bits .or .u32 ((x*2^k)%4294967296) (x/2^(32-k))
def getI (S:List Int) (i:Nat):Int:=S[i]?.getD 0
def Z4O (S W:List Int) (r i:Nat):Int:=
 (rotl (bits .xor .u32 (getI S i) (getI W ((i+r)%8))) (5+3*i)+getI S ((i+1)%8)*2246822507+((i:Int)+(r:Int)))%4294967296
def inner (S W:List Int) (r:Nat):Nat→List Int
 | 0=>S
 | i+1=>(inner S W r i).set i (Z4O (inner S W r i) W r i)
def rounds (S W:List Int):Nat→List Int
 | 0=>S
 | r+1=>inner (rounds S W r) W r 8
def Words (S:List Int):Prop:=S.length=8∧ ∀x∈S,0≤x∧x<4294967296
theorem Words.get {S:List Int} (h:Words S) {i:Nat} (hi:i<8):0≤getI S i∧getI S i<4294967296:=by
 have hl:i<S.length:=by rw [h.1];exact hi
 have:getI S i=S[i]:=by simp [getI,gE hl]
 rw [this];exact h.2 _ (List.getElem_mem hl)
theorem Words.set {S:List Int} (h:Words S) (i:Nat) {x:Int} (hx:0≤x∧x<4294967296):Words (S.set i x):=
 ⟨by rw [List.length_set];exact h.1,fun y hy=>by
  rcases List.mem_or_eq_of_mem_set hy with hy | rfl
  ·exact h.2 y hy
  ·exact hx⟩
theorem Zbj (S W:List Int) (r i:Nat):0≤Z4O S W r i∧Z4O S W r i<4294967296:=by
 unfold Z4O;omega
theorem Words.inner {S:List Int} (h:Words S) (W:List Int) (r:Nat): ∀i,Words (inner S W r i)
 | 0=>h
 | i+1=>(Words.inner h W r i).set i (Zbj _ _ _ _)
theorem Words.rounds {S:List Int} (h:Words S) (W:List Int): ∀r,Words (rounds S W r)
 | 0=>h
 | r+1=>(Words.rounds h W r).inner W r 8
def leN (l:LU):Nat:=l.foldr (fun c m=>c.toNat+256*m) 0
theorem Zey (l:LU) (c:UInt8):leN (l++[c])=leN l+256^l.length*c.toNat:=by
 induction l with
 | nil=>simp [leN]
 | cons x l ih=>
  have e1:leN (x::l++[c])=x.toNat+256*leN (l++[c]):=rfl;have e2:leN (x::l)=x.toNat+256*leN l:=rfl;rw [e1,e2,ih,List.length_cons,Nat.pow_succ,Nat.mul_add,Nat.add_assoc,Nat.mul_comm (256^l.length) 256,Nat.mul_assoc]
theorem Zez (l:LU):leN l<256^l.length:=by
 induction l with
 | nil=>simp [leN]
 | cons x l ih=>
  have e2:leN (x::l)=x.toNat+256*leN l:=rfl;have:=x.toNat_lt;rw [e2,List.length_cons,Nat.pow_succ];omega
def Z1r (b:LU) (i:Nat):Int:=(leN ((b.drop (4*i)).take 4):Nat)
def Z2D (b:LU):List Int:=(List.range 8).map (Z1r b)
def sumB (S:List Int) (b:LU):List Int:=rounds S (Z2D b) 8
theorem Z3v (b:LU) (i:Nat):0≤Z1r b i∧Z1r b i<4294967296:=by
 unfold Z1r;have h:=Zez ((b.drop (4*i)).take 4);have h2:256^((b.drop (4*i)).take 4).length≤256^4:=Nat.pow_le_pow_right (by decide) (List.length_take_le _ _);omega
theorem Z4P (b:LU):Words (Z2D b):=
 ⟨by simp [Z2D],fun x hx=>by
  obtain ⟨i,_,rfl⟩:=List.mem_map.1 hx
  exact Z3v b i⟩
theorem Words.sumB {S:List Int} (h:Words S) (b:LU):Words (sumB S b):=h.rounds _ 8
def ZG (S:List Int) (l:LU):List Int×LU:=
 if h:l.length<32 then (S,l) else ZG (sumB S (l.take 32)) (l.drop 32)
termination_by l.length
decreasing_by simp;omega
theorem Z1K {S:List Int} {l:LU} (h:l.length<32):ZG S l=(S,l):=by rw [ZG,dif_pos h]
theorem Z1L {S:List Int} {l:LU} (h:32≤l.length):ZG S l=ZG (sumB S (l.take 32)) (l.drop 32):=by rw [ZG,dif_neg (by omega)]
theorem Z5I {S:List Int} (l:LU) (h:Words S):Words (ZG S l).1:=by
 induction hl:l.length using Nat.strongRecOn generalizing S l with
 | _ n ih=>
  by_cases h32:l.length<32
  ·rw [Z1K h32];exact h
  ·rw [Z1L (by omega)]
   exact ih (l.drop 32).length (by rw [List.length_drop];omega) _ (h.sumB _) rfl
theorem Z45 (S:List Int) (l:LU):(ZG S l).2.length<32∧(ZG S l).2.length%32=l.length%32:=by
 induction hl:l.length using Nat.strongRecOn generalizing S l with
 | _ n ih=>
  by_cases h32:l.length<32
  ·rw [Z1K h32];exact ⟨h32,by rw [hl]⟩
  ·rw [Z1L (by omega)]
   have:=ih (l.drop 32).length (by rw [List.length_drop];omega) (sumB S (l.take 32)) (l.drop 32) rfl;rw [List.length_drop] at this;exact ⟨this.1,by omega⟩
theorem Z4Q (S:List Int) (a b:LU):ZG S (a++b)=ZG (ZG S a).1 ((ZG S a).2++b):=by
 induction hl:a.length using Nat.strongRecOn generalizing S a with
 | _ n ih=>
  by_cases h32:a.length<32
  ·rw [Z1K h32]
  ·rw [Z1L (l:=a) (by omega),Z1L (l:=a++b) (by rw [List.length_append];omega)]
   rw [List.take_append_of_le_length (by omega),List.drop_append_of_le_length (by omega)];exact ih (a.drop 32).length (by rw [List.length_drop];omega) _ _ rfl
def first:List Int:=(List.range 8).map fun (i:Nat)=>(((i:Int)+1)*2654435769)%4294967296
theorem Z1l:Words first:=⟨by simp [first],fun x hx=>by
 obtain ⟨i,_,rfl⟩:=List.mem_map.1 hx
 omega⟩
def leB:Nat→Nat→LU
 | 0,_=>[]
 | n+1,x=>UInt8.ofNat (x%256)::leB n (x/256)
theorem Z1M: ∀n x,(leB n x).length=n
 | 0,_=>rfl
 | n+1,x=>by simp [leB,Z1M n]
def padN (m:Nat):Nat:=(24+64-(m%32+1))%32
def Z0D (m n:Nat):LU:=1::(List.replicate (padN m) 0++(leB 8 n++List.replicate 32 0))
def Z2E (S:List Int):LU:=S.flatMap fun x=>leB 4 x.toNat
def ZeA (S:List Int) (rest:LU) (n:Nat):LU:=Z2E (ZG S (rest++Z0D rest.length n)).1
def Z21 (b:LU):LU:=ZeA (ZG first b).1 (ZG first b).2 b.length
theorem Z9N {S:List Int} (h:S.length=8):(Z2E S).length=32:=by
 have: ∀l:List Int,(l.flatMap fun x=>leB 4 x.toNat).length=4*l.length:=by
  intro l
  induction l with
  | nil=>rfl
  | cons x l ih=>rw [List.flatMap_cons,List.length_append,Z1M,ih,List.length_cons];omega
 rw [Z2E,this,h]
theorem Z9O (b:LU):(Z21 b).length=32:=Z9N (Z5I _ (Z5I _ Z1l)).1
theorem Zbk {a b:Nat} (h:a%32=b%32) (n:Nat):Z0D a n=Z0D b n:=by unfold Z0D padN;rw [h]
theorem Zbl (b:LU):Z21 b=Z2E (ZG first (b++Z0D b.length b.length)).1:=by
 unfold Z21 ZeA;rw [Z4Q first b,Zbk (Z45 first b).2]
theorem Z46 (m n:Nat):(m+(Z0D m n).length)%32=0:=by
 unfold Z0D padN;simp only [List.length_cons,List.length_append,List.length_replicate,Z1M];omega
end Go.Dol
namespace Go.Proofs.YtecpbcmpncgokaaGreat
open Go.RowKit Go.Dol
theorem ZeB (n y k:Nat) (hk:k<8) (hn:n<256^k) (hy:y<256): ∃z m:Nat,IntKind.u64.wrap ((y:Int)*2^(8*k))=(z:Nat)∧bits .or .u64 (n:Int) (z:Int)=(m:Nat)∧m=n+256^k*y:=by
 have hp:(256:Nat)^k=2^(8*k):=by rw [Nat.pow_mul]
 have hle:256^k≤256^7:=Nat.pow_le_pow_right (by decide) (by omega);have hz:256^k*y≤256^7*255:=Nat.mul_le_mul hle (by omega);refine ⟨256^k*y,n+256^k*y,?_,?_,rfl⟩
 ·have e2:(y:Int)*2^(8*k)=((256^k*y:Nat):Int):=by rw [hp,Int.mul_comm];simp
  rw [e2,IntKind.wrap_u64];omega
 ·rw [(bits_nat .u64 64 (by decide) Z6a n (256^k*y) (by omega) (by omega)).2]
  rw [hp] at hn ⊢;rw [Nat.or_comm,←Nat.two_pow_add_eq_or_of_lt hn y,Nat.add_comm]
theorem Z9P (A:OA) (l:LU) (n c N:Nat) (w:World) (B:Nat) (hr:Rd w B 1 A n (bc l)) (hN:N≤n) (h8:N≤8) (hn:n≤140737488355328):
  Calls Tryz.prog 245 #[.slice A n c,.int .i64 N] w fun e w'=>e= .returned (.int .u64 (leN (l.take N):Nat))∧w=w':=by
 have hl:l.length=n:=by have:=hr.len;rw [Zv] at this;omega
 have HL:=qI hl;clear hl;go_in;go_wp2_with fail;go_loop [5,8] (fun x i=> ∃k m:Nat,x= .int .u64 m∧i= .int .i64 k∧k≤N∧Hid (m=leN (l.take k))) (fun _ i=>N-(intOf i).toNat)
 case atStart=>exact ⟨0,0,rfl,rfl,zL _,by simp [Hid,leN]⟩
 case round=>
  obtain ⟨k,m,rfl,rfl,hk,hm⟩:=hrel
  by_cases hlt:k<N
  ·have hkl:k<l.length:=by rw [HL.out];omega
   obtain ⟨b,off,rfl,hb,hcell⟩:=hr.at_ (by omega);have hcx:=hcell k _ (Z09 l k hkl);obtain ⟨x,hx⟩: ∃x,x=(l[k]).toNat:=⟨_,rfl⟩;have hx256:x<256:=by have:=(l[k]).toNat_lt;omega
   rw [←hx] at hcx;have hlen:(l.take k).length=k:=by rw [List.length_take];omega
   obtain ⟨z,m',hz1,hz2,hz3⟩:=ZeB m x k (by omega) (by rw [hm.out];have:=Zez (l.take k);rwa [hlen] at this) hx256;have hm':Hid (m'=leN (l.take (k+1))):=by
    unfold Hid;rw [List.take_succ_eq_append_getElem hkl,Zey,hlen,hz3,hm.out,←hx]
   clear hz3 hx hcell hlen hkl;go_wp2_with fail;exact ⟨⟨k+1,m',rfl,by go_num,by omega,hm'⟩,by simp [intOf];omega⟩
  ·have hkN:Hid (k=N):=by unfold Hid;omega
   go_wp2_with fail;go_ret;exact ⟨by rw [←hkN.out,←hm.out];rfl,rfl⟩
theorem Z7N: ∀(n x:Nat),leB (n+1) x=leB n x++[UInt8.ofNat (x/256^n%256)]
 | 0,x=>by simp [leB]
 | n+1,x=>by
  rw [leB,Z7N n (x/256),leB,List.cons_append,Nat.div_div_eq_div_mul,Nat.pow_succ,Nat.mul_comm 256]
def ZgQ (T base:Nat) (w:World) (v:Value) (l:LU) (e:Ending) (w':World):Prop:=
 ∃(l':LU) (A':OA) (c':Nat),Hid (l'=l)∧e= .returned (.slice A' l'.length c')∧w'.ownsRow base T 1 (.slice A' l'.length c') l'.length (bc l')∧Below base w w'∧l'.length≤c'∧c'≤maxLen
def Zfz (l:LU) (x N base:Nat) (w:World) (b y i:Value) (wr:World):Prop:=
 ∃(k m:Nat) (l1:LU) (A1:OA) (c1:Nat),b= .slice A1 l1.length c1∧y= .int .u64 m∧i= .int .i64 k∧k≤N∧wr.ownsRow base 5 1 (.slice A1 l1.length c1) l1.length (bc l1)∧
  Hid (l1=l++leB k x)∧Hid (m=x/256^k)∧Below base w wr∧l1.length≤c1∧c1≤maxLen
theorem Z4R (base:Nat) (A:OA) (l:LU) (c x N:Nat) (w:World) (hown:w.ownsRow base 5 1 (.slice A l.length c) l.length (bc l)) (hb:base≤w.heap.size) (hc:l.length≤c) (hc2:c≤maxLen)
  (hx:x<18446744073709551616) (hN:N≤8) (hl:l.length+8≤140737488355328):
  Calls Tryz.prog 181 #[.slice A l.length c,.int .u64 x,.int .i64 N] w (ZgQ 5 base w (.slice A l.length c) (l++leB N x)):=by
 have HX:=qI hx;clear hx;go_in;go_wp2_with fail;go_loopw [0,1,8] (fun b y i wr=>Zfz l x N base w b y i wr) (fun _ _ i _=>N-(intOf i).toNat)
 case atStart=>exact ⟨0,x,l,A,c,rfl,rfl,rfl,zL _,hown,by simp [Hid,leB],by simp [Hid],bR _ _,hc,hc2⟩
 case round=>
  obtain ⟨k,m,l1,A1,c1,rfl,rfl,rfl,hk,ho,hl1,hm,hbl,i1,i2⟩:=hrel;have hs:=hbl.size;have hlen:l1.length=l.length+k:=by rw [hl1.out,List.length_append,Z1M]
  have hll:l1.length≤l.length+k:=by omega
  clear hlen
  by_cases hlt:k<N
  ·go_wp2_with (at_builtin;refine Z1y rfl (.tmp 10) (.tmp 13) rfl base _ l1.length l1 rfl ho rfl (by omega) (by omega) (by omega) (by omega) ?_)
   intro d l' A' c' w' hd e' g1 gb g2 g3 g4 g5;go_wp2_with fail;refine ⟨⟨k+1,m/256,l',A',c',rfl,by go_num,by go_num,by omega,g1,?_,?_,hbl.trans gb,g4,g5⟩,by simp [intOf];omega⟩
   ·have hd':=Z0F (n:=m%256) hd (by omega)
    unfold Hid at*;rw [e',hl1,hd',hm,Z7N,List.append_assoc]
   ·unfold Hid at*
    rw [hm,Nat.div_div_eq_div_mul,Nat.pow_succ]
  ·have hkN:Hid (k=N):=by unfold Hid;omega
   go_wp2_with fail;go_ret;exact ⟨l1,A1,c1,by have:=hl1;rwa [hkN.out] at this,rfl,ho,hbl,i1,i2⟩
theorem Z9Q (x:Int) (k:Nat) (w:World) (hx0:0≤x) (hx1:x<4294967296) (hk0:0<k) (hk1:k<32):
  Calls Tryz.prog 246 #[.int .u32 x,.int .i64 k] w fun e w'=>e= .returned (.int .u32 (rotl x k))∧w=w':=by
 have hf:bits .and .u64 (k:Int) 31=(k:Int):=by
  have:=bits_mask .u64 64 (by decide) Z6a 5 (by decide) (k:Int) (by omega) (by omega);rw [show (31:Int)=2^5-1 by decide,this];omega
 go_in;go_wp2_with fail
 trace_state
 go_ret;exact ⟨rfl,rfl⟩
theorem Z47 (op:BinOp) (a b:Int):0≤bits op .u32 a b∧bits op .u32 a b<4294967296:=by
 unfold bits;rw [IntKind.wrap_u32];omega
theorem Zcd (x:Int) (k:Nat) (kk:Int) (w:World) (hk:kk=k) (hx0:0≤x) (hx1:x<4294967296) (hk0:0<k) (hk1:k<32):
  Calls Tryz.prog 246 #[.int .u32 x,.int .i64 kk] w fun e w'=>e= .returned (.int .u32 (rotl x k))∧w'=w:=by
 subst hk;exact (Z9Q x k w hx0 hx1 hk0 hk1).mono fun e w' h=>⟨h.1,h.2.symm⟩
def wc (S:List Int):List Value:=S.map (Value.int .u32)
theorem Z0S (S:List Int):(wc S).length=S.length:=by simp [wc]
theorem ZeC (S:List Int): ∀v∈wc S,v.oneCell'=true:=fun v hv=>by
 obtain ⟨_,_,rfl⟩:=List.mem_map.1 hv
 rfl
theorem Z48 {S:List Int} (h:Words S) (tail:List Value) {i:Nat} (hi:i<8):(wc S++tail)[i]?=some (.int .u32 (getI S i)):=by
 have hl:i<S.length:=by rw [h.1];exact hi
 rw [List.getElem?_append_left (by rw [Z0S];exact hl)];simp [wc,getI,gE hl]
theorem Z9R (S:List Int) (tail:List Value) {i:Nat} (hi:i<S.length) (x:Int):(wc S++tail).set i (.int .u32 x)=wc (S.set i x)++tail:=by
 rw [List.set_append_left _ _ (by rw [Z0S];exact hi)];simp [wc,List.map_set]
def part (b:LU) (k:Nat):List Int:=(List.range 8).map fun j=>if j<k then Z1r b j else 0
theorem Zdk (b:LU):part b 0=[0,0,0,0,0,0,0,0]:=by simp [part];decide
theorem ZeD (b:LU):part b 8=Z2D b:=by
 unfold part Z2D;refine List.map_congr_left fun j hj=> ?_;rw [if_pos (by simpa using hj)]
theorem Z6u (b:LU) (k:Nat):(part b k).length=8:=by simp [part]
theorem ZeE (b:LU) (k:Nat) (hk:k<8):(part b k).set k (Z1r b k)=part b (k+1):=by
 apply List.ext_getElem (by simp [part]);intro j h1 h2;simp only [part,List.length_set,List.length_map,List.length_range] at h1;simp only [part,List.getElem_set,List.getElem_map,List.getElem_range]
 by_cases h:k=j
 ·subst h
  simp
 ·rw [if_neg h]
  by_cases h3:j<k
  ·rw [if_pos h3,if_pos (by omega)]
  ·rw [if_neg h3,if_neg (by omega)]
def ZfA (b:LU) (w:World) (T:TypeId) (i:Value) (wr:World):Prop:=
 ∃k:Nat,i= .int .i64 k∧k≤8∧Blk wr w.heap.size T (wc (part b k))∧Below w.heap.size w wr
def ZeF (S W:List Int) (tail:List Value) (g gw:Nat) (T Tw:TypeId) (w:World) (i:Value) (wr:World):Prop:=
 ∃r:Nat,i= .int .i64 r∧r≤8∧Blk wr g T (wc (rounds S W r)++tail)∧Blk wr gw Tw (wc W++[])∧w.grownBy wr (some g)
def ZeG (S W:List Int) (r:Nat) (tail:List Value) (g gw:Nat) (T Tw:TypeId) (w:World) (i:Value) (wr:World):Prop:=
 ∃k:Nat,i= .int .i64 k∧k≤8∧Blk wr g T (wc (inner S W r k)++tail)∧Blk wr gw Tw (wc W++[])∧w.grownBy wr (some g)
set_option pp.deepTerms true in
set_option pp.maxSteps 1000000 in
theorem Z7O (g:Nat) (T:TypeId) (S:List Int) (tail:List Value) (A:OA) (l:LU) (n c:Nat) (w:World) (hS:Words S) (hb:Blk w g T (wc S++tail)) (hr:Rd w w.heap.size 1 A n (bc l)) (hn:n=32) (hc:32≤c):
  Calls Tryz.prog 180 #[.pointer (some ⟨g,0,none⟩),.slice A n c] w fun e w'=>e= .returned (.tuple #[])∧Blk w' g T (wc (sumB S l)++tail)∧w.grownBy w' (some g):=by
 subst hn;have hl:l.length=32:=by have:=hr.len;rw [Zv] at this;omega
 have HL:=qI hl;clear hl;have hgw:=hb.lt;go_in;go_wp2_with fail;go_loopw [9] (fun i wr=>ZfA l w 246 i wr) (fun i _=>8-(intOf i).toNat)
 case atStart=>exact ⟨0,rfl,by omega,by rw [Zdk];exact Blk.new w _ _,(bR _ _).alloc (lR _) _⟩
 case round=>
  obtain ⟨k,rfl,hk,hbk,hbel⟩:=hrel;have hs:=hbel.size
  by_cases hlt:k<8
  ·have hcellw:wr.cell? ⟨w.heap.size,k,none⟩=some (.int .u32 ((part l k)[k]?.getD 0)):=by
    rw [hbk.cell];simp [wc,gE (show k<(part l k).length by rw [Z6u];exact hlt)]
   have hfree:=hbk.free k;have hr':Rd wr w.heap.size 1 A l.length (bc l):=by rw [HL.out];exact hr.belowW hbel (lR _)
   have ht:=hr'.tail (k:=4*k) (cap:=c) (by rw [HL.out];omega) (by rw [HL.out];exact hc);rw [if_neg (by omega)] at ht;rw [HL.out] at ht;obtain ⟨v,hv⟩: ∃v,v=leN ((l.drop (4*k)).take 4):=⟨_,rfl⟩;have hv2:v<4294967296:=by
    have:=(Z3v l k).2;unfold Z1r at this;rw [hv];omega
   have HV:Hid ((v:Int)=Z1r l k):=by unfold Hid Z1r;rw [hv]
   have Hv:=qI hv;clear hv;go_wp2_with fail;refine (Z9P _ (l.drop (4*k)) _ _ 4 wr _ ht (by omega) (by omega) (by omega)).mono ?_;rintro e w1 ⟨rfl,rfl⟩;rw [←Hv.out];go_wp2_with fail;refine ⟨⟨k+1,by go_num,by omega,?_,hbel.setCell (lR _) _⟩,by simp [intOf];omega⟩;have h1:=hbk.set k (.int .u32 v);have h2:=Z9R (part l k) [] (i:=k) (by rw [Z6u];exact hlt) v;simp only [List.append_nil] at h2;have h3:(part l k).set k (v:Int)=part l (k+1):=by rw [HV.out,ZeE l k hlt]
   rw [h2,h3] at h1;exact h1
  ·have hk8:k=8:=by omega
   rw [hk8,ZeD] at hbk;have HK:=qI hk8;clear hk8;have hW:=Z4P l;obtain ⟨W,hWe⟩: ∃W,W=Z2D l:=⟨_,rfl⟩;rw [←hWe] at hbk hW;have HW:=qI hWe;clear hWe;have hbg:Blk wr g T (wc S++tail):=hb.below hbel hgw;have hgr:w.grownBy wr (some g):=Z5 hbel _;obtain ⟨gw,hgwe⟩: ∃gw,gw=w.heap.size:=⟨_,rfl⟩;have hne:g≠gw:=by omega
   rw [←hgwe] at hbk;have hbk':Blk wr gw 246 (wc W++[]):=by rw [List.append_nil];exact hbk
   have HG:=qI hgwe;rw [←hgwe];clear hbk hbel hr hb hgwe hs hgw;go_wp2_with fail;go_loopw [21] (fun i wr=>ZeF S W tail g gw T 246 w i wr) (fun i _=>8-(intOf i).toNat)
   case atStart=>exact ⟨0,rfl,by omega,hbg,hbk',hgr⟩
   case round=>
    clear hbg hbk' hgr;obtain ⟨r,rfl,hr8,hbg,hbk,hgr⟩:=hrel
    by_cases hlt2:r<8
    ·have hwo:=hS.rounds W r
     have hrd:decide ((r:Int)<8)=true:=by simp;omega
     go_wp2_with fail;go_loopw [24] (fun i wr=>ZeG (rounds S W r) W r tail g gw T 246 w i wr) (fun i _=>8-(intOf i).toNat)
     case atStart=>exact ⟨0,rfl,by omega,hbg,hbk,hgr⟩
     case round=>
      clear hbg hbk hgr;obtain ⟨k,rfl,hk8,hbg,hbk,hgr⟩:=hrel
      by_cases hlt3:k<8
      ·obtain ⟨S',hS'⟩: ∃S',S'=inner (rounds S W r) W r k:=⟨_,rfl⟩
       have hw':Words S':=by rw [hS'];exact hwo.inner W r k
       rw [←hS'] at hbg;obtain ⟨x1,hx1⟩: ∃x,x=getI S' k:=⟨_,rfl⟩;obtain ⟨x2,hx2⟩: ∃x,x=getI W ((k+r)%8):=⟨_,rfl⟩;obtain ⟨x3,hx3⟩: ∃x,x=getI S' ((k+1)%8):=⟨_,rfl⟩;have hc1:wr.cell? ⟨g,k,none⟩=some (.int .u32 x1):=by rw [hbg.cell,hx1];exact Z48 hw' tail hlt3
       have hc2:wr.cell? ⟨gw,(k+r)%8,none⟩=some (.int .u32 x2):=by rw [hbk.cell,hx2];exact Z48 hW [] (Nat.mod_lt _ (by omega))
       have hc3:wr.cell? ⟨g,(k+1)%8,none⟩=some (.int .u32 x3):=by rw [hbg.cell,hx3];exact Z48 hw' tail (Nat.mod_lt _ (by omega))
       have hfr:=hbg.free k;have hrx:=Z47 .xor x1 x2;have HS':=qI hS';have HX1:=qI hx1;have HX2:=qI hx2;have HX3:=qI hx3;clear hS' hx1 hx2 hx3;go_wp2_with fail;go_quiet ((go_at_call 246;exact Calls.quiet_of_same (Zcd _ (5+3*k) _ _ (by omega) hrx.1 hrx.2 (by omega) (by omega))));go_wp2_with fail;have f0:IntKind.i64.wrap ((k:Int)+1)=(k:Int)+1:=qJ _ (by omega);have f1:((k:Int)+1).tmod 8=((k:Int)+1)%8:=Int.tmod_eq_emod_of_nonneg (by omega);have f2:(0:Int)≤((k:Int)+1)%8:=by omega
       have f3:((k:Int)+1)%8<8:=by omega
       have f4:(((k:Int)+1)%8).toNat=(k+1)%8:=by omega
       have f5:IntKind.i64.wrap ((k:Int)+(r:Int))=(k:Int)+(r:Int):=qJ _ (by omega);have f6:IntKind.u32.wrap ((k:Int)+(r:Int))=(k:Int)+(r:Int):=by rw [IntKind.wrap_u32];omega
       refine wp_region_still_tail 19 (by kernel_rfl) (by kernel_rfl) ?_;change wpStill _ _ (World.drew (wr.drewN nq)) (fun a'=>wpList _ _ _ _ a' (World.drew (wr.drewN nq))) _ _;obtain ⟨w2,hw2⟩: ∃w2,w2=World.drew (wr.drewN nq):=⟨_,rfl⟩;rw [←hw2];have gbg:Blk w2 g T (wc S'++tail):=by rw [hw2];exact (hbg.drewN nq).drew
       have gbk:Blk w2 gw 246 (wc W++[]):=by rw [hw2];exact (hbk.drewN nq).drew
       have ggr:w.grownBy w2 (some g):=by rw [hw2];exact Z0M (Z4b hgr nq)
       have gc3:w2.cell? ⟨g,(k+1)%8,none⟩=some (.int .u32 x3):=by rw [hw2];simpa using hc3
       have gc1:w2.cell? ⟨g,k,none⟩=some (.int .u32 x1):=by rw [hw2];simpa using hc1
       have gfr:=gbg.free k;clear hw2 hbg hbk hgr hc1 hc2 hc3 hfr;simp only [List.take_succ_cons,List.take_zero,List.drop_succ_cons,List.drop_zero]
       repeat still_step
       refine wpStill_nil ?_;go_wp2_with fail;have hmix:(rotl (bits .xor .u32 x1 x2) (5+3*k)+x3*2246822507+((k:Int)+(r:Int)))%4294967296=Z4O S' W r k:=by
        rw [HX1.out,HX2.out,HX3.out]
        rfl
       have HM:=qI hmix;clear hmix;refine ⟨⟨k+1,by go_num,by omega,?_,gbk.far (p:=⟨g,k,none⟩) (fun e=>hne e.symm) _,Z0 ggr _ _⟩,by simp [intOf];omega⟩;have h1:=gbg.set k (.int .u32 (Z4O S' W r k));rw [Z9R S' tail (by rw [hw'.1];exact hlt3)] at h1;rw [HM.out];have h2:inner (rounds S W r) W r (k+1)=S'.set k (Z4O S' W r k):=by rw [HS'.out];rfl
       rw [h2];exact h1
      ·have hk88:k=8:=by omega
       have HK8:=qI hk88;clear hk88;go_wp2_with fail;refine ⟨⟨r+1,by go_num,by omega,?_,hbk,hgr⟩,by simp [intOf];omega⟩;rw [HK8.out] at hbg;exact hbg
    ·have hr88:r=8:=by omega
     have HR8:=qI hr88;clear hr88;go_wp2_with fail;go_end0;refine ⟨rfl,?_,hgr⟩;rw [HW.out,HR8.out] at hbg;exact hbg
theorem Zce:first=[2654435769,1013904242,3668340011,2027808484,387276957,3041712726,1401181199,4055616968]:=by decide
def upTo (k:Nat):List Int:=(List.range 8).map fun j=>if j<k then getI first j else 0
theorem Z92:upTo 0=[0,0,0,0,0,0,0,0]:=by decide
theorem ZeH:upTo 8=first:=by decide
theorem Z2F (k:Nat):(upTo k).length=8:=by simp [upTo]
theorem ZeI (k:Nat) (hk:k<8):(upTo k).set k (((k:Int)+1)*2654435769%4294967296)=upTo (k+1):=by
 have h: ∀k:Fin 8,(upTo k).set k (((k.val:Int)+1)*2654435769%4294967296)=upTo (k+1):=by decide
 exact h ⟨k,hk⟩
def ZeJ (w:World) (g:Nat) (i:Value) (wr:World):Prop:=
 ∃k:Nat,i= .int .i64 k∧k≤8∧Blk wr g 247 (wc (upTo k))∧Blk wr w.heap.size 247 (wc (upTo 0))∧Below w.heap.size w wr
theorem Zbm (w:World):Calls Tryz.prog 179 #[] w fun e w'=>e= .returned (.agg (wc first).toArray)∧Below w.heap.size w w':=by
 go_in;go_wp2_with fail;go_loopw [3] (fun i wr=>ZeJ w (w.heap.size+1) i wr) (fun i _=>8-(intOf i).toNat)
 case atStart=>
  refine ⟨0,rfl,by omega,?_,?_,((bR _ _).alloc (lR _) _).alloc (by simp) _⟩
  ·rw [Z92]
   have:=Blk.new (w.alloc (.cells (wc [0,0,0,0,0,0,0,0]).toArray 247)) 247 (wc [0,0,0,0,0,0,0,0]);rw [World.size_alloc] at this;exact this
  ·rw [Z92]
   exact (Blk.new w _ _).alloc _
 case round=>
  obtain ⟨k,rfl,hk,hb1,hb0,hbel⟩:=hrel;have hs:=hbel.size
  by_cases hlt:k<8
  ·have hc:wr.cell? ⟨w.heap.size+1,k,none⟩=some (.int .u32 ((upTo k)[k]?.getD 0)):=by
    rw [hb1.cell];simp [wc,gE (show k<(upTo k).length by rw [Z2F];exact hlt)]
   have hf:=hb1.free k;have hu:IntKind.u32.wrap ((k:Int)+1)=(k:Int)+1:=by rw [IntKind.wrap_u32];omega
   go_wp2_with fail;refine ⟨⟨k+1,by go_num,by omega,?_,hb0.far (p:=⟨w.heap.size+1,k,none⟩) (by simp) _,hbel.setCell (by simp) _⟩,by simp [intOf];omega⟩;have h1:=hb1.set k (.int .u32 (((k:Int)+1)*2654435769%4294967296));have h2:=Z9R (upTo k) [] (i:=k) (by rw [Z2F];exact hlt) (((k:Int)+1)*2654435769%4294967296);simp only [List.append_nil] at h2;rw [h2,ZeI k hlt] at h1;exact h1
  ·have hk8:k=8:=by omega
   have HK:=qI hk8;rw [hk8,ZeH] at hb1;clear hk8;have hlen:(wc first).length=8:=by rw [Z0S];exact Z1l.1
   obtain ⟨w2,hrun,hb2,hg2⟩:=hb0.store (P:=Tryz.prog) 0 (wc first) (by rw [hlen,Z0S,Z2F];omega) (ZeC first);have hb2':Blk w2 w.heap.size 247 (wc first):=by
    have e:(wc (upTo 0)).drop (0+(wc first).length)=[]:=List.drop_eq_nil_of_le (by rw [hlen,Z0S,Z2F];omega);rw [e,List.append_nil,List.take_zero,List.nil_append] at hb2;exact hb2
   clear hb2;go_wp2_with (refine wpList_load_row rfl 247 _ rfl (w.heap.size+1) rfl _ _ _ _ hb1 Tryz.underlying247 rfl (by kernel_rfl) ?_);exact bodyPost_ret (results_cell_row (P:=Tryz.prog) rfl _ w2 w.heap.size 247 (wc first).toArray (0,0) _ rfl hb2' Tryz.underlying247 rfl (by rw [List.size_toArray,hlen];kernel_rfl)) rfl
    ⟨rfl,hbel.grown hg2 hs (fun k hk=>by injection hk with hk;omega)⟩
def ZcB (w:World) (g base:Nat) (l:LU):Prop:=
 ∃(S:List Int) (r:LU) (A:OA) (c:Nat),Hid (ZG first l=(S,r))∧Words S∧Blk w g 251 (wc S++[.slice A r.length c,.int .u64 (l.length:Nat),.bool true])∧Seg w base 5 1 A r.length c (bc r)
theorem Z2G:wc first=[.int .u32 2654435769,.int .u32 1013904242,.int .u32 3668340011,.int .u32 2027808484,.int .u32 387276957,.int .u32 3041712726,.int .u32 1401181199,.int .u32 4055616968]:=by
 rw [Zce];rfl
theorem Zdl (w:World):Calls Tryz.prog 111 #[] w fun e w'=> ∃g,e= .returned (.pointer (some ⟨g,0,none⟩))∧w.heap.size≤g∧ZcB w' g w.heap.size []∧Below w.heap.size w w':=by
 go_in;go_wp2_with fail;refine (Zbm w).mono ?_;rintro e w1 ⟨rfl,hb1⟩;rw [Z2G];go_wp2_with fail;go_ret;refine ⟨w1.heap.size,rfl,hb1.size,⟨first,[],none,0,by unfold Hid;rw [Z1K (by simp)],Z1l,?_,Seg.nil⟩,hb1.alloc hb1.size _⟩;rw [Z2G];exact Blk.new w1 _ _
theorem Z49 {S:List Int} (h:Words S) (a b c:Value):(wc S++[a,b,c])[8]?=some a∧(wc S++[a,b,c])[9]?=some b∧(wc S++[a,b,c])[10]?=some c:=by
 have hl:(wc S).length=8:=by rw [Z0S];exact h.1
 refine ⟨?_,?_,?_⟩<;>rw [List.getElem?_append_right (by omega),hl]<;>rfl
theorem Z6X {S:List Int} (h:Words S) (a b c x:Value):(wc S++[a,b,c]).set 8 x=wc S++[x,b,c]∧(wc S++[a,b,c]).set 9 x=wc S++[a,x,c]:=by
 have hl:(wc S).length=8:=by rw [Z0S];exact h.1
 refine ⟨?_,?_⟩<;>rw [List.set_append_right _ _ (by omega),hl]<;>rfl
theorem Z69 {w:World} {g base:Nat} {cs:List Value} {A:OA} {n c:Nat} {xs:List Value} (hb:Blk w g 251 cs) (hs:Seg w base 5 1 A n c xs):some g≠Z0u A c:=by
 intro he;unfold Z0u at he;split at he
 ·rcases hs.2.2.2 with h | ⟨g',off,cur,rfl,_,hh,_⟩
  ·omega
  ·have:g'=g:=by simpa [Zl] using he.symm
   subst this;unfold Blk at hb;rw [hb] at hh;injection hh with hh
   injection hh with _ ht
   exact absurd ht (by decide)
 ·cases he
def Zgm (S0:List Int) (r0:LU) (N:Nat) (g base:Nat) (w:World) (k:Nat) (wr:World):Prop:=
 ∃(S:List Int) (r:LU) (A:OA) (c:Nat),k=r.length∧Words S∧Blk wr g 251 (wc S++[.slice A r.length c,.int .u64 (N:Nat),.bool true])∧Seg wr base 5 1 A r.length c (bc r)∧
  Hid (ZG S r=ZG S0 r0)∧Below base w wr
theorem Zdm (g base:Nat) (l0:LU) (A:OA) (l:LU) (c:Nat) (w:World) (hrun:ZcB w g base l0) (hbase:base≤g) (hr:Rd w base 1 A l.length (bc l)) (hl:l.length≤140737488355296) (hl0:l0.length≤4611686018427387903):
  Calls Tryz.prog 112 #[.pointer (some ⟨g,0,none⟩),.slice A l.length c] w fun e w'=>e= .returned (.tuple #[])∧ZcB w' g base (l0++l)∧Below base w w':=by
 obtain ⟨S,r,A1,c1,hab,hS,hblk,hseg⟩:=hrun;have hr32:=(Z45 first l0).1;rw [hab.out] at hr32;simp only at hr32;have hgl:=hblk.lt;obtain ⟨hc8,hc9,hc10⟩:=Z49 hS (.slice A1 r.length c1) (.int .u64 (l0.length:Nat)) (.bool true);have k8:w.cell? ⟨g,8,none⟩=some (.slice A1 r.length c1):=by rw [hblk.cell,hc8]
 have k9:w.cell? ⟨g,9,none⟩=some (.int .u64 (l0.length:Nat)):=by rw [hblk.cell,hc9]
 have k10:w.cell? ⟨g,10,none⟩=some (.bool true):=by rw [hblk.cell,hc10]
 have hfree:=hblk.free;clear hc8 hc9 hc10;have hws:w.grownBy (w.setCell ⟨g,9,none⟩ (.int .u64 ((l0.length:Int)+(l.length:Int)))) (some g):=Z0 (gR _ _) _ _;have hseg':Seg (w.setCell ⟨g,9,none⟩ (.int .u64 ((l0.length:Int)+(l.length:Int)))) base 5 1 A1 r.length c1 (bc r):=Seg.keepR hseg hws (fun g' hg' e=>Z69 hblk hseg (by rw [hg',e]));go_in;go_wp2_with (at_builtin;refine ZgV rfl (.tmp 32) (.tmp 33) rfl base A1 r.length c1 r rfl hseg' base A l.length c l rfl (hr.setCell hbase _) (by omega) (by simp [World.setCell];omega) ?_);intro l1 A2 c2 w2 e1 hseg2 hb2 hg2 i1 i2;have hblk2:Blk w2 g 251 (wc S++[.slice A1 r.length c1,.int .u64 ((l0.length:Int)+(l.length:Int)),.bool true]):=by
  have h1:=hblk.set 9 (.int .u64 ((l0.length:Int)+(l.length:Int)));rw [(Z6X hS _ _ _ _).2] at h1;exact h1.grown hg2 (Z69 h1 hseg')
 obtain ⟨hc8,_,_⟩:=Z49 hS (.slice A1 r.length c1) (.int .u64 ((l0.length:Int)+(l.length:Int))) (.bool true);have q8:w2.cell? ⟨g,8,none⟩=some (.slice A1 r.length c1):=by rw [hblk2.cell,hc8]
 have qfree:=hblk2.free 8;have hb02:Below base w w2:=((bR _ _).setCell (p:=⟨g,9,none⟩) hbase _).trans hb2;clear k8 k9 k10 hfree hseg' hws hc8 hseg;go_wp2_with fail;go_loopg [] l1.length (fun k wr=>Zgm S l1 (l0.length+l.length) g base w k wr)
 case atStart=>
  have h1:=hblk2.set 8 (.slice A2 l1.length c2);rw [(Z6X hS _ _ _ _).1] at h1;refine ⟨S,l1,A2,c2,rfl,hS,by simpa using h1,?_,rfl,hb02.setCell (p:=⟨g,8,none⟩) hbase _⟩;exact Seg.keepR hseg2 (Z0 (gR _ _) _ _) (fun g' hg' e=>Z69 hblk2 hseg2 (by rw [hg',e]))
 case round=>
  clear hblk2 hseg2 hb2 hg2 q8 qfree hb02 hblk hgl;obtain ⟨S',r',A',c',rfl,hS',hbk,hsg,habs,hbel⟩:=hrel;have hs:=hbel.size;obtain ⟨hc8,hc9,hc10⟩:=Z49 hS' (.slice A' r'.length c') (.int .u64 ((l0.length+l.length:Nat):Int)) (.bool true);have k8:wr.cell? ⟨g,8,none⟩=some (.slice A' r'.length c'):=by rw [hbk.cell,hc8]
  clear hc8 hc9 hc10;have hlc:=hsg.2.1
  by_cases h32:32≤r'.length
  ·have hc32:32≤c':=by omega
   go_wp2_with fail;refine wp_region_still_tail 8 (by kernel_rfl) (by kernel_rfl) ?_;change wpStill _ _ (World.drew wr) (fun a'=>wpList _ _ _ _ a' (World.drew wr)) _ _;obtain ⟨w3,hw3⟩: ∃w3,w3=World.drew wr:=⟨_,rfl⟩;rw [←hw3];have gbk:Blk w3 g 251 (wc S'++[.slice A' r'.length c',.int .u64 ((l0.length+l.length:Nat):Int),.bool true]):=by rw [hw3];exact hbk.drew
   have gsg:Seg w3 base 5 1 A' r'.length c' (bc r'):=by rw [hw3];exact hsg.drew
   have gbel:Below base w w3:=by rw [hw3];exact hbel.drew
   have g8:w3.cell? ⟨g,8,none⟩=some (.slice A' r'.length c'):=by rw [hw3];simpa using k8
   clear hw3 hbk hsg hbel k8 hs;have hci:(32:Int)≤(c':Int):=by omega
   have hli:(32:Int)≤(r'.length:Int):=by omega
   simp only [List.take_succ_cons,List.take_zero,List.drop_succ_cons,List.drop_zero]
   repeat still_step
   refine wpStill_nil ?_;go_wp2_with fail;refine (Z7O g 251 S' _ A' (r'.take 32) 32 c' w3 hS' gbk (gsg.rd.head (l:=r') h32) rfl hc32).mono ?_;rintro e w4 ⟨rfl,hb4,hg4⟩;have hS4:=hS'.sumB (r'.take 32);obtain ⟨S4,hS4e⟩: ∃S4,S4=sumB S' (r'.take 32):=⟨_,rfl⟩;rw [←hS4e] at hb4 hS4;have HS4:=qI hS4e;clear hS4e;obtain ⟨hc8,hc9,hc10⟩:=Z49 hS4 (.slice A' r'.length c') (.int .u64 ((l0.length+l.length:Nat):Int)) (.bool true);have k8:w4.cell? ⟨g,8,none⟩=some (.slice A' r'.length c'):=by rw [hb4.cell,hc8]
   have kf:=hb4.free 8;clear hc8 hc9 hc10 g8;have hsg4:Seg w4 base 5 1 A' r'.length c' (bc r'):=Seg.keepR gsg hg4 (fun g' hg' e=>Z69 gbk gsg (by rw [hg',e]));have hbel4:Below base w w4:=gbel.trans (Z1 hg4 hbase (by have:=gbel.size;have:=gbk.lt;omega));have hcut:=hsg4.cut (lo:=32) (hi:=r'.length) h32 (lR _);rw [Nat.mul_one,Nat.mul_one,Z18,Z0E,List.take_of_length_le (by simp)] at hcut;have hfin:Hid (ZG S4 (r'.drop 32)=ZG S l1):=by
    unfold Hid;rw [HS4.out,←habs.out,←Z1L h32]
   have hdl:(r'.drop 32).length=r'.length-32:=by simp
   have HDL:=qI hdl;clear hdl
   by_cases hcap:c'=32
   ·rw [if_pos hcap] at hcut
    have HC:=qI hcap;go_wp2_with fail;go_roundg (r'.length-32)
    case measure=>omega
    case rel=>
     have h1:=hb4.set 8 (.slice A' (r'.length-32) (c'-32));rw [(Z6X hS4 _ _ _ _).1] at h1;rw [←HDL.out] at h1 hcut ⊢;refine ⟨S4,r'.drop 32,A',c'-32,rfl,hS4,?_,?_,hfin,hbel4.setCell (p:=⟨g,8,none⟩) hbase _⟩
     ·have hz:c'-32=0:=by have:=HC.out;omega
      rw [hz] at h1 ⊢;exact h1
     ·exact Seg.keepR hcut (Z0 (gR _ _) _ _) (fun g' hg' e=>Z69 hb4 hcut (by rw [hg',e]))
   ·rw [if_neg hcap] at hcut
    have HC:=qI hcap;go_wp2_with fail;go_roundg (r'.length-32)
    case measure=>omega
    case rel=>
     have h1:=hb4.set 8 (.slice (A'.map (·.add 32)) (r'.length-32) (c'-32));rw [(Z6X hS4 _ _ _ _).1] at h1;rw [←HDL.out] at h1 hcut ⊢;refine ⟨S4,r'.drop 32,A'.map (·.add 32),c'-32,rfl,hS4,?_,?_,hfin,hbel4.setCell (p:=⟨g,8,none⟩) hbase _⟩
     ·exact h1
     ·exact Seg.keepR hcut (Z0 (gR _ _) _ _) (fun g' hg' e=>Z69 hb4 hcut (by rw [hg',e]))
  ·go_wp2_with fail
   go_end0;refine ⟨rfl,⟨S',r',A',c',?_,hS',?_,hsg⟩,hbel⟩
   ·unfold Hid
    rw [Z4Q,hab.out,←e1.out,←habs.out,Z1K (by omega)]
   ·rw [List.length_append];exact hbk
end Go.Proofs.YtecpbcmpncgokaaGreat
namespace Go.Dol
open Go.RowKit
theorem Z1P (z:Value) (k:Nat):Builtin.zeroCells #[z] k=(List.replicate k z).toArray:=by
 apply Array.toList_inj.1;simp only [Builtin.zeroCells,Array.toList_map,Array.toList_range];apply List.ext_getElem
 ·simp
 ·intro i h1 h2
  simp [Nat.mod_one]
theorem Z4a {P:Program} (w:World) (base:Nat) (t tn ty e:TypeId) (i:TypeInfo) (z:Value) (kq kn:IntKind) (ht:P.underlying t=some (.slice e)) (htn:P.underlying tn=some (.int kn)) (hi:P.info? e=some i) (hz:i.zero=some z)
  (hsize:i.size=1) (hzc:z.cells= #[z]) (hz1:z.oneCell'=true)
  (A:OA) (n c:Nat) (xs:List Value) (hseg:Seg w base e 1 A n c xs) (k:Nat) (h0:0<k)
  (h63:n+k≤maxLen) (hbytes:(n+k)*i.bytes≤140737488355328) (hbase:base≤w.heap.size):
  ∃A' c' w',(Builtin.append_ #[t,tn] ty #[.slice A n c,.int kq k]).run P w= .ok (.slice A' (n+k) c') w'∧Seg w' base e 1 A' (n+k) c' (xs++List.replicate k z)∧
   w.grownBy w' (Z0u A c)∧(Zl A'=Zl A∨Zl A'=some w.heap.size):=by
 obtain ⟨p1,p2,p3,p4⟩:=hseg;have hsmall:n+k≤9223372036854775807:=by simp only [maxLen] at h63;omega
 have hk:k≠0:=by omega
 have hw:IntKind.i64.wrap (k:Int)=k:=by rw [IntKind.wrap_i64];omega
 have hkb:k*i.bytes≤(n+k)*i.bytes:=Nat.mul_le_mul_right _ (by omega);have h48i: ¬(281474976710656<(k:Int)*(i.bytes:Int)):=by
  rw [←Int.natCast_mul];omega
 have hneg: ¬((k:Int)<0):=by omega
 have hlen:(xs++List.replicate k z).length=(n+k)*1:=by rw [List.length_append,p1,List.length_replicate];omega
 by_cases hroom:n+k≤c
 ·rcases p4 with p4 | ⟨g,off,cur,rfl,a2,a3,a4,a5⟩
  ·omega
  have hst:=run_storeCells_at P g (off+n) e (List.replicate k z) 0 cur w a3 (by rw [List.length_replicate];omega) (fun v hv=>by rw [(List.mem_replicate.1 hv).2];exact hz1);simp only [Nat.add_zero] at hst
  refine ⟨_,c,w.setRow g (cur.toList.take (off+n)++List.replicate k z++cur.toList.drop (off+n+(List.replicate k z).length)).toArray,?_,
   ⟨hlen,hroom,p3,.inr ⟨g,off,_,rfl,a2,setRow_heap w g cur _ e _ a3,?_,?_⟩⟩,?_,.inl rfl⟩
  ·simp [Builtin.append_,run_underlying ht,run_underlying htn,sizeOf,typeInfo,zeroValue,hi,hz,hsize,hzc,Z1P,asInt,asIntOf,hw,hk,hneg,h48i,hroom,Addr.add_lit,hst]
  ·simp only [List.size_toArray,List.length_append,List.length_take,List.length_drop,Array.length_toList,List.length_replicate]
   omega
  ·rw [←a5,List.append_assoc,List.drop_append,List.drop_take]
   have e1:off-(cur.toList.take (off+n)).length=0:=by rw [List.length_take,Array.length_toList];omega
   rw [e1,List.drop_zero,Nat.add_sub_cancel_left,Nat.mul_one,Nat.mul_one];rw [Nat.mul_one] at a5;have e2:((cur.toList.drop off).take n++List.replicate k z).length=n+k:=by rw [a5];simpa using hlen
   rw [←List.append_assoc,←e2];exact List.take_left
  ·unfold Z0u
   rw [if_pos (by omega)];exact ⟨rfl,rfl,rfl,by simp,fun j _ hj=>setRow_other w g j _ (fun e=>hj (by rw [e];rfl))⟩
 ·have hold:(Builtin.firstCells i.size n (.slice A n c)).run P w.drew= .ok xs.toArray w.drew:=by
   rw [hsize];rcases Nat.eq_zero_or_pos n with h0 | h0
   ·subst h0
    have hxs:xs=[]:=nZ (by rw [p1]);subst hxs
    cases A with
    | none=>simp [Builtin.firstCells]
    | some a=>simp [Builtin.firstCells,loadCells,loadCellsFrom]
   ·rcases p4 with p4 | ⟨g,off,cur,rfl,a2,a3,a4,a5⟩
    ·omega
    ·refine run_firstCells_some w.drew 1 n _ n c xs p1 (fun j u hu=> ?_)
     rw [Addr.add_lit];show w.cell? _=_
     rw [cell_of_row w g (off+j) cur e (0,0) a3];rw [←a5,List.getElem?_take] at hu;split at hu
     ·rw [List.getElem?_drop] at hu
      simpa using hu
     ·cases hu
  have hr:=Lib.run_append_grow_zeros (P:=P) w t tn ty e i z kq kn ht htn hi hz A n c xs hold k h0 (by omega) (by omega) (by omega) (by omega) (growslice_fits (by omega) hbytes);have hge:=grownCap_ge w (n+k) c e;have hcm:grownCap w (n+k) c e≤maxLen:=grownCap_le_maxLen w (n+k) c e h63;refine ⟨_,_,_,hr,⟨hlen,hge,hcm,.inr ⟨w.heap.size,0,_,rfl,hbase,heap_alloc_new w.drew _,?_,?_⟩⟩,?_,.inr rfl⟩
  ·rw [hzc,Z1P,Z1P]
   simp only [Array.size_append,List.size_toArray,List.length_replicate,p1];omega
  ·rw [List.drop_zero,hzc,Z1P,Array.toList_append,Array.toList_append,←hlen]
   exact List.take_left
  ·refine ⟨rfl,rfl,rfl,by simp,?_⟩
   intro j hj _;exact Below.heap_alloc w.drew _ j hj
end Go.Dol
namespace Go.Proofs.YtecpbcmpncgokaaGreat
open Go.RowKit Go.Dol
theorem ZgR {w:World} {ops:Array Oper} {rest:List Oper} {o:Oper} {a:Act} {Q:Exit→Act→World→Prop} (hgd:o.guard=none) (s xo:Operand) (tn:TypeId) (kn:IntKind) (htn:Tryz.prog.underlying tn=some (.int kn))
  (ho:o.op= .call { callee:=.builtin .append,args:=#[s,xo],argTypes:=#[36,tn] })
  (base:Nat) (A:OA) (n c:Nat) (xs:LU) (hs:a.eval s= .slice A n c) (hseg:Seg w base 5 1 A n c (bc xs))
  (kq:IntKind) (k:Nat) (hx:a.eval xo= .int kq k) (h0:0<k)
  (hlen:n+k≤140737488355328) (hbase:base≤w.heap.size)
  (h: ∀(l':LU) (A':OA) (c':Nat) (w':World),Hid (l'=xs++List.replicate k 0)→Seg w' base 5 1 A' l'.length c' (bc l')→Below base w w'→w.grownBy w' (Z0u A c)→
   l'.length≤c'→c'≤maxLen→wpList Tryz.prog ops Q rest (a.put o.dst (.slice A' l'.length c')) w'):wpList Tryz.prog ops Q (o::rest) a w:=by
 obtain ⟨i0,hi,hz0,hz1,hz2⟩:=info_parts Z2d;obtain ⟨A',c',w',hrun,h2,h3,h4⟩:=Z4a (P:=Tryz.prog) w base _ tn o.type _ i0 _ kq kn Tryz.underlying36 htn hi hz0 hz1 rfl rfl A n c (bc xs) hseg k h0 (by unfold maxLen;omega) (by rw [hz2];omega) hbase;refine Lib.wpList_append_run w hgd s xo _ tn ho _ _ hs hx _ w' hrun ?_;have e1:n=xs.length:=by have:=hseg.1;rw [Zv] at this;omega
 have e:n+k=(xs++List.replicate k 0).length:=by rw [List.length_append,List.length_replicate];omega
 have e3:bc xs++List.replicate k (.int .u8 0)=bc (xs++List.replicate k 0):=by rw [Z1m];unfold bc;rw [List.map_replicate];rfl
 rw [e3,e] at h2;rw [e];exact h _ A' c' w' rfl h2 ((bR _ _).grown h3 hbase (fun k hk=>(hseg.row k hk).1)) h3 h2.2.1 h2.2.2.1
end Go.Proofs.YtecpbcmpncgokaaGreat
namespace Go.Dol
open Go.RowKit
theorem Z2H {P:Program} {ops:Array Oper} {rest:List Oper} {o:Oper} {a:Act} {w:World} {Q:Exit→Act→World→Prop} (hgd:o.guard=none) (ty:TypeId) (x:Operand) (ho:o.op= .load ty x)
  (g f:Nat) (hx:a.eval x= .pointer (some ⟨g,f,none⟩)) (T:TypeId) (cs vs:List Value) (d:TypeDesc) (hg:Blk w g T cs) (hvs: ∀j v,vs[j]?=some v→cs[f+j]?=some v)
  (hu:P.underlying ty=some d) (hd:(match d with | .struct _ | .array _ _=>true | _=>false)=true) (hi:(P.info? ty).map (·.size)=some vs.length)
  (h:wpList P ops Q rest (a.put o.dst (.agg vs.toArray)) w):wpList P ops Q (o::rest) a w:=by
 refine wpList_plain hgd fun K hK=> ?_;have hl:(loadCells ⟨g,f,none⟩ vs.length).run P w= .ok vs.toArray w:=
  run_loadCells_list (P:=P) w ⟨g,f,none⟩ vs (fun j v hv=>by
   rw [Addr.add_lit,hg.cell]
   exact hvs j v hv)
 have hload:(loadVar ty ⟨g,f,none⟩).run P w= .ok (.agg vs.toArray) w:=by
  cases hq:P.info? ty with
  | none=>simp [hq] at hi
  | some i=>
   have hs:i.size=vs.length:=by simpa [hq] using hi
   have hagg:(isAgg ty).run P w= .ok true w:=by
    unfold isAgg;rw [Sem.run_bind,run_underlying hu w];cases d<;>simp_all
   simp [loadVar,Sem.run_bind,hagg,sizeOf,typeInfo,hq,hs,hl]
 unfold Oper.wp execOp;simp only [ho,hx,Instr.loadAt,Instr.sureAddr,Sem.run_bind,Sem.run_pure,Result.andThen_ok,hload];exact hK _ _ h
end Go.Dol
namespace Go.Proofs.YtecpbcmpncgokaaGreat
open Go.RowKit Go.Dol
def Zgn (r:LU) (B:Nat) (w2:World) (b:Value) (wr:World):Prop:=
 ∃(k:Nat) (l1:LU) (A:OA) (c:Nat),b= .slice A l1.length c∧Hid (l1=r++1::List.replicate k 0)∧Hid (l1.length=r.length+1+k)∧k≤padN r.length∧wr.ownsRow B 5 1 (.slice A l1.length c) l1.length (bc l1)∧Below B w2 wr∧l1.length≤c∧c≤maxLen
theorem ZfB {w:World} {g base:Nat} {cs:List Value} {A:OA} {n c:Nat} {xs:List Value} (hb:Blk w g 247 cs) (hs:Seg w base 5 1 A n c xs):some g≠Z0u A c:=by
 intro he;unfold Z0u at he;split at he
 ·rcases hs.2.2.2 with h | ⟨g',off,cur,rfl,_,hh,_⟩
  ·omega
  ·have:g'=g:=by simpa [Zl] using he.symm
   subst this;unfold Blk at hb;rw [hb] at hh;injection hh with hh
   injection hh with _ ht
   exact absurd ht (by decide)
 ·cases he
def ZeK (S0:List Int) (r0:LU) (g:Nat) (w:World) (b:Value) (wr:World):Prop:=
 ∃(S:List Int) (r:LU) (A:OA) (c:Nat),b= .slice A r.length c∧Hid (ZG S r=ZG S0 r0)∧r.length%32=0∧Words S∧Blk wr g 247 (wc S++[])∧Seg wr w.heap.size 5 1 A r.length c (bc r)∧Below w.heap.size w wr
theorem Zbn {S:List Int} {k x:Nat} (w:World) (hl:(wc S).length=8) (hk:k<8) (h:(wc S)[k]?=some (.int .u32 x)):
  (Instr.index 247 (.agg (wc S).toArray) (.int .i64 k)).run Tryz.prog w= .ok (.int .u32 x) w:=by
 have hu:Tryz.prog.underlying 247=some (.array 8 128):=Tryz.underlying247;have hu2:Tryz.prog.underlying 128=some (.int .u32):=Tryz.underlying128;have hi:(Tryz.prog.info? 128).map (·.size)=some 1:=by kernel_rfl
 obtain ⟨i,hi1,hi2⟩:=Option.map_eq_some_iff.1 hi;simp [Instr.index,asIntOf,run_underlying hu,run_underlying hu2,sizeOf,typeInfo,hi1,hi2,hk,Go.part,isAgg,h]
theorem Z2I {S:List Int} (h:S.length=8) {k:Nat} (hk:k≤8):(Z2E (S.take k)).length=4*k:=by
 have: ∀l:List Int,(Z2E l).length=4*l.length:=by
  intro l
  induction l with
  | nil=>rfl
  | cons x l ih=>unfold Z2E at ih ⊢; rw [List.flatMap_cons,List.length_append,Z1M,ih,List.length_cons];omega
 rw [this,List.length_take,h];omega
theorem Z3D {S:List Int} {k:Nat} (hk:k<S.length):Z2E (S.take (k+1))=Z2E (S.take k)++leB 4 (getI S k).toNat:=by
 rw [List.take_succ_eq_append_getElem hk];unfold Z2E;rw [List.flatMap_append];simp [getI,gE hk]
def Zgo (S:List Int) (w:World) (out i:Value) (wr:World):Prop:=
 ∃(k:Nat) (l:LU) (A:OA) (c:Nat),out= .slice A l.length c∧i= .int .i64 k∧k≤8∧Hid (l=Z2E (S.take k))∧wr.ownsRow w.heap.size 5 1 (.slice A l.length c) l.length (bc l)∧Below w.heap.size w wr∧l.length≤c∧c≤maxLen
theorem Zdn (g base:Nat) (l:LU) (w:World) (hrun:ZcB w g base l) (hl:l.length≤4611686018427387903):
  Calls Tryz.prog 113 #[.pointer (some ⟨g,0,none⟩)] w fun e w'=> ∃l',Hid (l'=Z21 l)∧e= .returned (.string ⟨l'.toArray⟩)∧Below w.heap.size w w':=by
 obtain ⟨S,r,A1,c1,hab,hS,hblk,hseg⟩:=hrun;have hr32:=(Z45 first l).1;rw [hab.out] at hr32;simp only at hr32;have hgl:=hblk.lt;have hlS:(wc S).length=8:=by rw [Z0S];exact hS.1
 obtain ⟨w2,hst,hb2,hg2⟩:=(Blk.new w 247 (wc [0,0,0,0,0,0,0,0])).store (P:=Tryz.prog) 0 (wc S) (by rw [hlS];decide) (ZeC S);rw [List.take_zero,List.nil_append,List.drop_eq_nil_of_le (by rw [hlS];decide)] at hb2;have hbl2:Below w.heap.size w w2:=Z1 (Z6 (Z5 ((bR _ _).alloc (lR _) _) _) hg2) (lR _) (lR _);have hblk2:Blk w2 g 251 (wc S++[.slice A1 r.length c1,.int .u64 (l.length:Nat),.bool true]):=hblk.below hbl2 hgl;have hseg2:Rd w2 w2.heap.size 1 A1 r.length (bc r):=(hseg.belowW hbl2).rd;obtain ⟨hc8,hc9,hc10⟩:=Z49 hS (.slice A1 r.length c1) (.int .u64 (l.length:Nat)) (.bool true);have k10:w.cell? ⟨g,10,none⟩=some (.bool true):=by rw [hblk.cell,hc10]
 have k8:w2.cell? ⟨g,8,none⟩=some (.slice A1 r.length c1):=by rw [hblk2.cell,hc8]
 have hrl:=hseg.2.1;have hs2:=hb2.lt;have hgl2:=hblk2.lt;have hst':(storeCells ⟨w.heap.size,0,none⟩ (wc S)).run Tryz.prog (w.alloc (.cells #[.int .u32 0,.int .u32 0,.int .u32 0,.int .u32 0,.int .u32 0,.int .u32 0,.int .u32 0,.int .u32 0] 247))= .ok () w2:=hst;clear hc8 hc10 hst;go_in;go_wp2_with (first | (refine Z2H rfl 247 _ rfl g 0 rfl _ _ (wc S) _ hblk (fun j v h=>by rw [Nat.zero_add,List.getElem?_append_left (List.getElem?_eq_some_iff.1 h).1];exact h) Tryz.underlying247 rfl (by rw [hlS];kernel_rfl) ?_) | (at_builtin;refine app8 rfl (.tmp 23) (.tmp 27) rfl w2.heap.size _ 0 [] rfl (Z0B w2) w2.heap.size A1 r.length c1 r rfl (hseg2.alloc (lR _) _) (by omega) (by simp) ?_));intro l1 A2 c2 w3 e1 ho3 hb3 _ _ i1 i2;have h3l:l1.length=r.length:=by simp [e1.out]
 have H3:=qI h3l;clear k8;go_wp2_with (at_builtin;refine Z1y rfl (.tmp 29) (.tmp 30) rfl w2.heap.size _ l1.length l1 rfl ho3 rfl (by decide) (by decide) (by omega) (lT (by simp) hb3.size) ?_);intro d l2 A3 c3 w4 ed e2 ho4 hb4 _ _ i3 i4;have e2':Hid (l2=r++[1]):=by
  unfold Hid;have:=e2.out;have h1:d=1:=Z0F (n:=1) ed rfl;rw [this,h1,e1.out]
  try rfl
 have h4l:l2.length=r.length+1:=by rw [e2'.out];simp
 have H4:Hid (l2.length=r.length+1+0):=h4l;have hb24:Below w2.heap.size w2 w4:=(((bR _ _).alloc (lR _) _).trans hb3).trans hb4;clear h4l hb3 hb4 ho3 e2 ed e1 h3l H3;go_wp2_with fail;go_loopw [4] (fun b wr=>Zgn r w2.heap.size w2 b wr) (fun b _=>r.length+1+padN r.length-lenV b)
 case atStart=>exact ⟨0,l2,A3,c3,rfl,by simpa using e2',H4,zL _,ho4,hb24,i3,i4⟩
 case round=>
  clear ho4 hb24;obtain ⟨k,l3,A4,c4,rfl,e3,h3l,hk,ho,hbl,j1,j2⟩:=hrel;have hs:=hbl.size;have hrem:(l3.length:Int)%32=((l3.length%32:Nat):Int):=by omega
  obtain ⟨q,hq⟩: ∃q,q=l3.length%32:=⟨_,rfl⟩;rw [←hq] at hrem;have hpn:Hid (padN r.length=(24+64-(r.length%32+1))%32):=rfl;have HQ:=qI hq;clear hq
  by_cases hq24:q=24
  ·have HQ24:=qI hq24
   have hb24:((q:Int)!=24)=false:=by rw [hq24];rfl
   have hkl:Hid (k=padN r.length):=by
    unfold Hid;have:=HQ.out;have:=HQ24.out;have:=hpn.out;have:=h3l.out;omega
   clear hq24;have k9:wr.cell? ⟨g,9,none⟩=some (.int .u64 (l.length:Nat)):=by rw [(hblk2.below hbl hgl2).cell,hc9]
   have h3b:l3.length≤64:=by
    have:=h3l.out;have:=hpn.out;omega
   go_wp2_with fail;refine (Z4R w2.heap.size A4 l3 c4 l.length 8 wr ho hs j1 j2 (by omega) (by omega) (by omega)).mono ?_;rintro e w5 ⟨l4,A5,c5,e4,rfl,ho5,hb5,j3,j4⟩;have h4l:l4.length=l3.length+8:=by rw [e4.out,List.length_append,Z1M]
   have H4l:=qI h4l;have h4b:l4.length≤72:=by omega
   have hs5:=hb5.size;clear h4l ho k9;go_wp2_with (at_builtin;refine ZgR rfl (.tmp 45) (.const (.int .i64 32)) _ _ Tryz.underlying3 rfl w2.heap.size A5 l4.length c5 l4 rfl (Seg.of_own ho5) .i64 32 rfl (by omega) (by omega) (by omega) ?_);intro l6 A6 c6 w6 e6 hseg6 hb6 _ j5 j6;have hbl6:Below w2.heap.size w2 w6:=(hbl.trans hb5).trans hb6;have e6':Hid (l6=r++Z0D r.length l.length):=by
    unfold Hid Z0D;rw [e6.out,e4.out,e3.out,hkl.out];simp
   have hb26:Blk w6 w.heap.size 247 (wc S++[]):=hb2.below hbl6 hs2;clear hb5 hb6 ho5 hbl j1 j2 j3 j4 h3b h4b hs hs5 hk e6;go_wp2_with fail;go_loopw [4] (fun b wr=>ZeK S (r++Z0D r.length l.length) w.heap.size w b wr) (fun b _=>lenV b)
   case atStart=>
    refine ⟨S,l6,A6,c6,rfl,by unfold Hid;rw [e6'.out],by rw [e6'.out,List.length_append];exact Z46 _ _,hS,hb26,hseg6.lower (Nat.le_of_lt hs2),hbl2.trans (hbl6.mono (Nat.le_of_lt hs2))⟩
   case round=>
    clear hb26 hseg6 hbl6;obtain ⟨S',r',A',c',rfl,habs,hmod,hS',hbk,hsg,hbel⟩:=hrel;have hlc:=hsg.2.1;have hsb:=hbel.size
    by_cases h32:32≤r'.length
    ·have hc32:32≤c':=by omega
     have hmod':=qI hmod;clear hmod;go_wp2_with fail;refine (Z7O w.heap.size 247 S' [] A' (r'.take 32) 32 c' wr hS' hbk (hsg.rd.head (l:=r') h32) rfl hc32).mono ?_;rintro e w7 ⟨rfl,hb7,hg7⟩;have hs7:=hg7.size;have hS7:=hS'.sumB (r'.take 32);have hfin:Hid (ZG (sumB S' (r'.take 32)) (r'.drop 32)=ZG S (r++Z0D r.length l.length)):=by
      unfold Hid;rw [←habs.out,←Z1L h32]
     have hsg7:Seg w7 w.heap.size 5 1 A' r'.length c' (bc r'):=Seg.keepR hsg hg7 (fun g' hg' e=>ZfB hbk hsg (by rw [hg',e]));have hbel7:Below w.heap.size w w7:=hbel.trans (Z1 hg7 (lR _) hsb);have hcut:=hsg7.cut (lo:=32) (hi:=r'.length) h32 (lR _);rw [Nat.mul_one,Nat.mul_one,Z18,Z0E,List.take_of_length_le (by simp)] at hcut;have hdl:(r'.drop 32).length=r'.length-32:=by simp
     have HDL:=qI hdl;clear hdl
     by_cases hcap:c'=32
     ·rw [if_pos hcap] at hcut
      have HC:=qI hcap;go_wp2_with fail;have hz:c'-32=0:=by have:=HC.out;omega
      rw [←HDL.out] at hcut ⊢;rw [hz] at hcut;refine ⟨⟨sumB S' (r'.take 32),r'.drop 32,A',0,rfl,hfin,by rw [HDL.out];have:=hmod'.out;omega,hS7,hb7,hcut,hbel7⟩,?_⟩;show (r'.drop 32).length<r'.length
      rw [HDL.out];omega
     ·rw [if_neg hcap] at hcut
      have HC:=qI hcap;go_wp2_with fail;rw [←HDL.out] at hcut ⊢;refine ⟨⟨sumB S' (r'.take 32),r'.drop 32,A'.map (·.add 32),c'-32,rfl,hfin,by rw [HDL.out];have:=hmod'.out;omega,hS7,hb7,hcut,hbel7⟩,?_⟩;show (r'.drop 32).length<r'.length
      rw [HDL.out];omega
    ·have h0:r'.length=0:=by omega
     have hr0:r'=[]:=nZ h0;have hfin:Hid (S'=(ZG S (r++Z0D r.length l.length)).1):=by
      unfold Hid;rw [←habs.out,hr0,Z1K (by simp)]
     have HR0:=qI h0;clear hr0 hmod habs h32;have hlS':(wc S').length=8:=by rw [Z0S];exact hS'.1
     obtain ⟨wq,rfl⟩: ∃wq,wq=wr:=⟨_,rfl⟩;go_wp2_with (refine Z2H rfl 247 _ rfl w.heap.size 0 rfl _ _ (wc S') _ hbk (fun j v h=>by rw [Nat.zero_add,List.append_nil];exact h) Tryz.underlying247 rfl (by rw [hlS'];kernel_rfl) ?_);go_loopw [5,7,56] (fun out _ i wr'=>Zgo S' wq out i wr') (fun _ _ i _=>8-(intOf i).toNat)
     case atStart=>exact ⟨0,[],none,0,rfl,rfl,by omega,rfl,⟨by simp [bc],.inl ⟨rfl,rfl⟩⟩,bR _ _,lR _,by unfold maxLen;omega⟩
     case round=>
      clear hbk hsg;obtain ⟨k',l7,A7,c7,rfl,rfl,hk8,e7,ho7,hb7,j7,j8⟩:=hrel;have hs7:=hb7.size
      by_cases hlt:k'<8
      ·have hcell:(wc S')[k']?=some (.int .u32 (getI S' k')):=by
        have:=Z48 hS' [] hlt;rwa [List.append_nil] at this
       have hcell2:(wc S').toArray[k']?=some (.int .u32 (getI S' k')):=by simpa using hcell
       have hlt2:k'<(wc S').length:=by omega
       have hcell3:(wc S')[k']= .int .u32 (getI S' k'):=by
        rw [gE hlt2] at hcell;injection hcell
       have hrg:=hS'.get hlt;obtain ⟨x,hx⟩: ∃x:Nat,x=(getI S' k').toNat:=⟨_,rfl⟩;have hxe:getI S' k'=(x:Int):=by omega
       rw [hxe] at hcell hcell2 hcell3;have hx32:x<4294967296:=by omega
       have HX:=qI hxe;clear hx hxe hrg;have hlS2:(wc S').toArray.size=8:=by simpa using hlS'
       have e7l:l7.length=4*k':=by rw [e7.out];exact Z2I hS'.1 (by omega)
       have E7L:=qI e7l;have h7b:l7.length≤32:=by omega
       clear e7l;have hix:=Zbn (S:=S') wr hlS' hlt hcell;go_wp2_with fail;refine (Z4R wq.heap.size A7 l7 c7 x 4 wr ho7 hs7 j7 j8 (by omega) (by omega) (by omega)).mono ?_;rintro e w8 ⟨l8,A8,c8,e8,rfl,ho8,hb8,j9,j10⟩;go_wp2_with fail;refine ⟨⟨k'+1,l8,A8,c8,rfl,by go_num,by omega,?_,ho8,hb7.trans hb8,j9,j10⟩,by simp [intOf];omega⟩;unfold Hid;rw [e8.out,e7.out,Z3D (by rw [hS'.1];exact hlt),HX.out]
       rfl
      ·have hk88:k'=8:=by omega
       have HK8:=qI hk88;have e8:l7=Z2E S':=by rw [e7.out,hk88,List.take_of_length_le (by rw [hS'.1];omega)]
       have E8:=qI e8;clear e8 hk88;go_wp2_with (refine Z6x rfl (.tmp 64) rfl wr.heap.size A7 l7.length c7 l7 rfl (Rd.of_own ho7) ?_);go_ret;refine ⟨l7,?_,rfl,hbel.trans (hb7.mono hsb)⟩;unfold Hid;rw [E8.out,hfin.out];unfold Z21 ZeA;rw [hab.out]
  ·have hkl:k<padN r.length:=by
    have:=HQ.out;have:=hpn.out;have:=h3l.out;omega
   have h3b:l3.length≤64:=by
    have:=h3l.out;have:=hpn.out;omega
   have hb24:((q:Int)!=24)=true:=by simp;omega
   go_wp2_with (at_builtin;refine Z1y rfl (.tmp 36) (.tmp 37) rfl w2.heap.size _ l3.length l3 rfl ho rfl (by decide) (by decide) (by omega) (by omega) ?_);intro d l5 A5 c5 w5 ed e5 ho5 hb5 _ _ j3 j4;go_wp2_with fail;have h5l:l5.length=r.length+1+(k+1):=by rw [e5.out,List.length_append,h3l.out];rfl
   have hd0:d=0:=by
    have:=ed.out;exact UInt8.toNat_inj.1 (by simpa using this)
   refine ⟨⟨k+1,l5,A5,c5,rfl,?_,h5l,hkl,ho5,hbl.trans hb5,j3,j4⟩,?_⟩
   ·unfold Hid
    rw [e5.out,hd0,e3.out,List.replicate_succ'];simp
   ·show r.length+1+padN r.length-l5.length<r.length+1+padN r.length-l3.length
    rw [h5l,h3l.out];omega
theorem Zdo (A:OA) (l:LU) (c:Nat) (w:World) (hr:Rd w w.heap.size 1 A l.length (bc l)) (hl:l.length≤140737488355296):
  Calls Tryz.prog 45 #[.slice A l.length c] w fun e w'=> ∃l',Hid (l'=Z21 l)∧e= .returned (.string ⟨l'.toArray⟩)∧Below w.heap.size w w':=by
 go_in;go_wp2_with fail;refine (Zdl w).mono ?_;rintro e w1 ⟨g,rfl,hg,hrun,hb1⟩;go_wp2_with fail;refine (Zdm g w.heap.size [] A l c w1 hrun hg (hr.below hb1) hl (by simp)).mono ?_;rintro e w2 ⟨rfl,hrun2,hb2⟩;rw [List.nil_append] at hrun2;go_wp2_with fail;refine (Zdn g w.heap.size l w2 hrun2 (by omega)).mono ?_;rintro e w3 ⟨l',hl',rfl,hb3⟩;go_wp2_with fail;go_ret;exact ⟨l',hl',rfl,(hb1.trans hb2).trans (hb3.mono (hb1.trans hb2).size)⟩
end Go.Proofs.YtecpbcmpncgokaaGreat
