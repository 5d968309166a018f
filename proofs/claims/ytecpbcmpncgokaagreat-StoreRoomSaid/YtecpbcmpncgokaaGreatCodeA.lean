/- The walks of the layer 'sum', its seventh part: digits. Conditions: bytes that are made fit 2^47. What only some chapters reach of the text XSumB. The walks of the layer 'sum', its tenth part: bytes of digits, as the document says. Conditions: bytes that are made fit 2^47. Digits there and back, in plain Lean. No program is in sight. Conditions: none. Numbers as bytes, in plain Lean: what the layer 'code' computes, and that what was put is taken as it was and that no other bytes say the same. Conditions: bytes that are made fit 2^47. -/
import Derived.Test.YtecpbcmpncgokaaGreatSumA
import Derived.Deep.RegionLaw
import Derived.Deep.QuietTactic
import Derived.BigQuiet
import Derived.Test.YtecpbcmpncgokaaGreatWordsA
import Derived.Test.YtecpbcmpncgokaaGreatShort
import Derived.Test.YtecpbcmpncgokaaGreatRows
set_option linter.unusedVariables false
namespace Go.Dol
open Go.RowKit
def dig (n:Nat):UInt8:=if n<10 then UInt8.ofNat (48+n) else UInt8.ofNat (87+n)
def Z16 (l:LU):LU:=l.flatMap fun c=>[dig (c.toNat/16),dig (c.toNat%16)]
theorem Z1p (l:LU):(Z16 l).length=2*l.length:=by
 induction l with
 | nil=>rfl
 | cons x l ih=>unfold Z16 at ih ⊢; rw [List.flatMap_cons,List.length_append,ih,List.length_cons];simp;omega
theorem Zeb (l:LU) (c:UInt8):Z16 (l++[c])=Z16 l++[dig (c.toNat/16),dig (c.toNat%16)]:=by
 unfold Z16;rw [List.flatMap_append];simp
theorem Rd.two (w:World) (T:TypeId) (x y:UInt8):Rd (w.alloc (.cells #[.int .u8 x.toNat,.int .u8 y.toNat] T)) (w.heap.size+1) 1 (some ⟨w.heap.size,0,none⟩) 2 (bc [x,y]):=by
 refine ⟨by simp [bc],fun _=>⟨w.heap.size,0,rfl,by omega,fun j u hu=> ?_⟩⟩;have hj:j<2:=by have:=(List.getElem?_eq_some_iff.1 hu).1;simpa [bc] using this
 have hc:=cell_of_row (w.alloc (.cells #[.int .u8 x.toNat,.int .u8 y.toNat] T)) w.heap.size (0+j) #[.int .u8 x.toNat,.int .u8 y.toNat] T (0,0) (heap_alloc_new w _);rw [hc,Nat.zero_add];simpa [bc] using hu
end Go.Dol
namespace Go.Proofs.YtecpbcmpncgokaaGreat
open Go.RowKit Go.Dol
theorem Za1 (k:Nat) (hk:k<16): ∀h:k<(⟨#[48,49,50,51,52,53,54,55,56,57,97,98,99,100,101,102]⟩:BA).size,(⟨#[48,49,50,51,52,53,54,55,56,57,97,98,99,100,101,102]⟩:BA)[k]'h=dig k:=by
 intro h;have h': ∀i:Fin 16,(⟨#[48,49,50,51,52,53,54,55,56,57,97,98,99,100,101,102]⟩:BA)[i.val]?=some (dig i.val):=by decide
 have h1:=h' ⟨k,hk⟩;simp only at h1;rw [getElem?_pos _ k h] at h1;injection h1
theorem Zk8 {w:World} {ops:Array Oper} {o:Oper} {a:Act} {K:Act→World→Prop} {Q:Exit→Act→World→Prop} {E:Prop} (hgd:o.guard=none) (s x:Operand)
  (ho:o.op= .call { callee:=.builtin .append,args:=#[s,x],argTypes:=#[36,36] })
  (base:Nat) (v:Value) (n:Nat) (xs:LU) (hs:a.eval s=v) (hown:w.ownsRow base 5 1 v n (bc xs))
  (B:Nat) (A:OA) (m c:Nat) (news:LU) (hx:a.eval x= .slice A m c) (hr:Rd w B 1 A m (bc news))
  (hlen:n+m≤140737488355328) (hbase:base≤w.heap.size)
  (h: ∀(l':LU) (A':OA) (c':Nat) (w':World),Hid (l'=xs++news)→w'.ownsRow base 5 1 (.slice A' l'.length c') l'.length (bc l')→Below base w w'→w.grownBy w' v.ownBlock→
   l'.length≤c'→c'≤maxLen→K (a.put o.dst (.slice A' l'.length c')) w'):if Region.wanted o (yielded ops a.tmps)=true then Oper.wp Tryz.prog o a w K Q else E:=by
 have hw:Region.wanted o (yielded ops a.tmps)=true:=by simp [Region.wanted,hgd]
 rw [if_pos hw];refine Z0t w s x _ ho base _ _ 1 1 Tryz.underlying36 Z1q rfl (by decide) v n (bc xs) hs hown B A m c (bc news) hx hr (Z5h _) (by unfold maxLen;omega) (by omega) hbase ?_;intro A' c' w' h1 h2 h3 h4 h5;have e1:n=xs.length:=by have:=hown.1;rw [Zo] at this;omega
 have e2:m=news.length:=by have:=hr.len;rw [Zo] at this;omega
 have e:n+m=(xs++news).length:=by rw [List.length_append];omega
 rw [←Z0B,e] at h1;rw [e] at h3 h4 ⊢;exact h _ A' c' w' rfl h1 ((bR _ _).grown h2 hbase (fun k hk=>(hown.lt k hk).1)) h2 h4 h5
def Zjz (l:LU) (w1:World) (out i:Value) (wr:World):Prop:=
 ∃(k:Nat) (l1:LU) (A:OA) (c:Nat),out= .slice A l1.length c∧i= .int .i64 k∧k≤l.length∧Hid (l1=Z16 (l.take k))∧wr.ownsRow w1.heap.size 5 1 (.slice A l1.length c) l1.length (bc l1)∧Below w1.heap.size w1 wr∧l1.length≤c∧c≤maxLen
open Go.RowKit Go.Dol
theorem ZhR {s:BA} {l:LU} (h:l=s.data.toList) {k:Nat} (hk:k<l.length) (h2:k<s.size):(s[k]'h2).toNat=(l[k]).toNat:=by
 subst h
 rfl
end Go.Proofs.YtecpbcmpncgokaaGreat
namespace Go.Dol
def digV (x:Nat):Int:=if 48≤x∧x≤57 then (x:Int)-48 else if 97≤x∧x≤102 then (x:Int)-87 else -1
theorem ZcW (k:Nat) (hk:k<16):digV (dig k).toNat=k:=by
 have h: ∀i:Fin 16,digV (dig i.val).toNat=i.val:=by decide
 exact h ⟨k,hk⟩
end Go.Dol
namespace Go.Proofs.YtecpbcmpncgokaaGreat
open Go.RowKit Go.Dol
open Go.RowKit Go.Dol
open Go.RowKit Go.Dol
open Go.RowKit Go.Dol
open Go.RowKit Go.Dol
end Go.Proofs.YtecpbcmpncgokaaGreat
set_option linter.unusedVariables false
namespace Go.Proofs.YtecpbcmpncgokaaGreat
open Go.RowKit Go.Dol
set_option maxRecDepth 100000 in
set_option maxHeartbeats 400000 in
theorem Za2 (s:BA) (w:World) (hl:s.size≤70368744177600):
  Calls Tryz.prog 102 #[.string s] w fun e w'=> ∃l',Hid (l'=Z16 s.data.toList)∧e= .returned (.string ⟨l'.toArray⟩)∧Below w.heap.size w w':=by
 obtain ⟨l,hls⟩: ∃l,l=s.data.toList:=⟨_,rfl⟩;have hsz:s.size=l.length:=by rw [hls,Zq]
 have HSZ:=qI hsz;have HLS:=qI hls;clear hsz hls;go_in;go_wp2_with (refine Z8B rfl (.tmp 6) _ _ _ rfl Tryz.underlying9 Tryz.underlying36 Tryz.underlying5 s rfl (by omega) ?_);intro A c w1 hr hb1 i1 i2;rw [←HLS.out] at hr;go_wp2_with fail;go_loopw [3,5,9] (fun out _ i wr=>Zjz l w1 out i wr) (fun _ _ i _=>l.length-(intOf i).toNat)
 case atStart=>exact ⟨0,[],none,0,rfl,rfl,zL _,rfl,⟨by simp [bc],.inl ⟨rfl,rfl⟩⟩,bR _ _,lR _,by unfold maxLen;omega⟩
 case round=>
  obtain ⟨k,l1,A1,c1,rfl,rfl,hk,e1,ho,hbl,j1,j2⟩:=hrel;have hs1:=hbl.size;have e1l:l1.length=2*k:=by rw [e1.out,Z1p,List.length_take];omega
  by_cases hlt:k<l.length
  ·have hkl:k<s.size:=by rw [HSZ.out];exact hlt
   obtain ⟨b,off,rfl,hb,hcell⟩:=(hr.below hbl).at_ (by omega);have hcx:=hcell k _ (Z0s l k hlt);obtain ⟨x,hx⟩: ∃x,x=(l[k]).toNat:=⟨_,rfl⟩;have hx256:x<256:=by have:=(l[k]).toNat_lt;omega
   rw [←hx] at hcx;have HX:=qI hx;clear hx hcell;obtain ⟨y,hy⟩: ∃y,y=x/16:=⟨_,rfl⟩;obtain ⟨z,hz⟩: ∃z,z=x%16:=⟨_,rfl⟩;have hy16:y<16:=by omega
   have hz16:z<16:=by omega
   have hd1:=Za1 y hy16;have hd2:=Za1 z hz16;have hq:IntKind.u8.wrap ((x:Int)/16)=(y:Int):=by rw [IntKind.wrap_u8];omega
   have hm:(x:Int)%16=(z:Int):=by omega
   have hm2:(x:Int).tmod 16=(z:Int):=by rw [Int.tmod_eq_emod_of_nonneg (by omega)];omega
   have hyi:(y:Int)<16:=by omega
   have hzi:(z:Int)<16:=by omega
   have HY:=qI hy;have HZ:=qI hz;clear hy hz;have hlen2:l1.length≤140737488355200:=by omega
   have E1L:=qI e1l;clear e1l;go_wp2_with fail
   go_region_law ((refine Zk8 (by rfl) (.tmp 13) (.tmp 20) (by rfl) w1.heap.size _ l1.length l1 (by rfl) (World.ownsRow.alloc (w:=World.drew wr) ho _) (wr.heap.size+1) _ 2 2 [dig y,dig z] (by rfl) (Rd.two wr.drew _ _ _) (by omega) (by simp;omega) ?_;intro l' A' c' w' q1 q2 q3 q4 q5 q6))
   all_goals
    go_wp2_with fail;refine ⟨⟨k+1,l',A',c',rfl,by go_num,hlt,?_,q2,hbl.trans (((bR _ _).alloc hs1 _).drew.trans q3),q5,q6⟩,by simp [intOf];omega⟩;unfold Hid;rw [q1.out,e1.out,List.take_succ_eq_append_getElem hlt,Zeb,HY.out,HZ.out,HX.out]
  ·have hkk:k=l.length:=by omega
   have HKK:=qI hkk;have E1L:=qI e1l;have hb:decide (k<s.size)=false:=by simp [HSZ.out];omega
   have hb2: ¬((k:Int)<(s.size:Int)):=by rw [HSZ.out];omega
   clear hkk e1l;go_wp2_with (refine ZhU rfl (.tmp 23) rfl wr.heap.size A1 l1.length c1 l1 rfl (Rd.of_own ho) ?_);go_ret;refine ⟨l1,?_,rfl,hb1.trans (hbl.mono hb1.size)⟩;unfold Hid;rw [e1.out,HKK.out,List.take_length,HLS.out]
end Go.Proofs.YtecpbcmpncgokaaGreat
set_option linter.unusedVariables false
namespace Go.Dol
open Go.RowKit
def Z0f:LU→Option (LU)
 | []=>some []
 | [_]=>none
 | a::b::t=>if digV a.toNat<0∨digV b.toNat<0 then none else (Z0f t).map (UInt8.ofNat (16*(digV a.toNat).toNat+(digV b.toNat).toNat):: ·)
def Zjv (w:World) (r:Option (LU)) (e:Ending) (w':World):Prop:=
 match r with
 | none=>e= .returned (.tuple #[.string ⟨#[]⟩,.int .i64 1])∧Below w.heap.size w w'
 | some q=> ∃q',Hid (q'=q)∧e= .returned (.tuple #[.string ⟨q'.toArray⟩,.int .i64 0])∧Below w.heap.size w w'
theorem ZeU (x:Nat):digV x<16:=by unfold digV;split<;>(try split)<;>omega
theorem ZhC {l:LU} {k:Nat} (h:k+1<l.length):l.drop k=l[k]::l[k+1]::l.drop (k+2):=by
 rw [List.drop_eq_getElem_cons (by omega),List.drop_eq_getElem_cons h]
def ZhD (l:LU) (w1:World) (T:TypeId) (out i:Value) (wr:World):Prop:=
 ∃(k:Nat) (l1:LU) (A:OA) (c:Nat),out= .slice A l1.length c∧i= .int .i64 k∧k≤l.length∧k%2=0∧2*l1.length=k∧Hid (Z0f l=(Z0f (l.drop k)).map (l1++ ·))∧wr.ownsRow w1.heap.size T 1 (.slice A l1.length c) l1.length (bc l1)∧Below w1.heap.size w1 wr∧l1.length≤c∧c≤maxLen
end Go.Dol
namespace Go.Proofs.YtecpbcmpncgokaaGreat
open Go.RowKit Go.Dol
end Go.Proofs.YtecpbcmpncgokaaGreat
set_option linter.unusedVariables false
namespace Go.Dol
theorem Zdl: ∀i:Fin 256,digV i.val<0∨ ∃j:Fin 16,digV i.val=j.val∧(dig j.val).toNat=i.val:=by decide+kernel
theorem ZbE (c:UInt8) (h:0≤digV c.toNat):(digV c.toNat).toNat<16∧dig (digV c.toNat).toNat=c:=by
 rcases Zdl ⟨c.toNat,c.toNat_lt⟩ with h1 | ⟨j,h1,h2⟩
 ·simp only at h1
  omega
 ·simp only at h1 h2
  have:(digV c.toNat).toNat=j.val:=by omega
  rw [this];exact ⟨j.isLt,UInt8.toNat_inj.1 h2⟩
theorem Z4S (c:UInt8) (l:LU):Z16 (c::l)=dig (c.toNat/16)::dig (c.toNat%16)::Z16 l:=rfl
theorem Z4o: ∀l:LU,Z0f (Z16 l)=some l
 | []=>rfl
 | c::l=>by
  have h:=c.toNat_lt;have h1:=ZcW (c.toNat/16) (by omega);have h2:=ZcW (c.toNat%16) (by omega);rw [Z4S,Z0f,h1,h2,if_neg (by omega),Z4o l];simp only [Option.map_some,Option.some.injEq,List.cons.injEq,and_true];have:16*((c.toNat/16:Nat):Int).toNat+((c.toNat%16:Nat):Int).toNat=c.toNat:=by omega
  rw [this];simp
theorem Z9s: ∀(l q:LU),Z0f l=some q→Z16 q=l
 | [],q,h=>by
  rw [Z0f] at h;injection h with h
  subst h
  rfl
 | [_],q,h=>by cases h
 | a::b::t,q,h=>by
  rw [Z0f] at h;split at h
  ·cases h
  ·rename_i hn
   obtain ⟨z,hz,rfl⟩:=Option.map_eq_some_iff.1 h;have ha:=ZbE a (by omega);have hb:=ZbE b (by omega);have ih:=Z9s t z hz;rw [Z4S,ih];have e:(UInt8.ofNat (16*(digV a.toNat).toNat+(digV b.toNat).toNat)).toNat=16*(digV a.toNat).toNat+(digV b.toNat).toNat:=by
    rw [UInt8.toNat_ofNat'];omega
   rw [e];have e1:(16*(digV a.toNat).toNat+(digV b.toNat).toNat)/16=(digV a.toNat).toNat:=by omega
   have e2:(16*(digV a.toNat).toNat+(digV b.toNat).toNat)%16=(digV b.toNat).toNat:=by omega
   rw [e1,e2,ha.2,hb.2]
theorem Z9t (k:Nat) (hk:k<16):(48≤(dig k).toNat∧(dig k).toNat≤57)∨(97≤(dig k).toNat∧(dig k).toNat≤102):=by
 have h: ∀i:Fin 16,(48≤(dig i.val).toNat∧(dig i.val).toNat≤57)∨(97≤(dig i.val).toNat∧(dig i.val).toNat≤102):=by decide
 exact h ⟨k,hk⟩
theorem Z3H: ∀(l:LU) (x:UInt8),x∈Z16 l→(48≤x.toNat∧x.toNat≤57)∨(97≤x.toNat∧x.toNat≤102)
 | [],x,h=>by cases h
 | c::l,x,h=>by
  have hc:=c.toNat_lt;rw [Z4S] at h;rcases List.mem_cons.1 h with rfl | h
  ·exact Z9t _ (by omega)
  ·rcases List.mem_cons.1 h with rfl | h
   ·exact Z9t _ (by omega)
   ·exact Z3H l x h
theorem Zfc {a b:LU} (h:Z16 a=Z16 b):a=b:=by
 have h1:=Z4o a;rw [h,Z4o b] at h1;exact (Option.some.inj h1).symm
end Go.Dol
set_option maxRecDepth 100000
set_option maxHeartbeats 400000
set_option linter.unusedVariables false
namespace Go.Dol
def num (n:Nat):LU:=if n<128 then [UInt8.ofNat n] else UInt8.ofNat (128+n%128)::num (n/128)
termination_by n
decreasing_by omega
theorem Z5U {n:Nat} (h:n<128):num n=[UInt8.ofNat n]:=by rw [num,if_pos h]
theorem Zaa {n:Nat} (h:128≤n):num n=UInt8.ofNat (128+n%128)::num (n/128):=by rw [num,if_neg (by omega)]
theorem Zab (n:Nat):0<(num n).length:=by
 rw [num];split<;>simp
theorem Z5: ∀(k n:Nat),n<128^(k+1)→(num n).length≤k+1
 | 0,n,h=>by
  rw [Z5U (by simpa using h)];simp
 | k+1,n,h=>by
  by_cases hn:n<128
  ·rw [Z5U hn]
   simp
  ·rw [Zaa (by omega),List.length_cons]
   have h1:n/128<128^(k+1):=by
    rw [Nat.div_lt_iff_lt_mul (by omega)];rw [Nat.pow_succ] at h;exact h
   have:=Z5 k (n/128) h1;omega
def dec:Nat→LU→Option (Nat×LU)
 | 0,_=>none
 | _+1,[]=>none
 | f+1,c::r=>if c.toNat<128 then some (c.toNat,r) else
   match dec f r with
   | none=>none
   | some (m,q)=>if m=0 then none else some (c.toNat%128+128*m,q)
def Zb:Nat:=4611686018427387903
def Z3 (b:LU):Option (Nat×LU):=
 match dec 9 b with
 | none=>none
 | some (n,r)=>if n≤Zb then some (n,r) else none
theorem ZhV (f:Nat): ∀(n:Nat) (r:LU),n<128^(f+1)→dec (f+1) (num n++r)=some (n,r):=by
 induction f with
 | zero=>
  intro n r h;have hn:n<128:=by simpa using h
  rw [Z5U hn];simp [dec,hn,Nat.mod_eq_of_lt (show n<256 by omega)]
 | succ g ih=>
  intro n r h
  by_cases hn:n<128
  ·rw [Z5U hn]
   simp [dec,hn,Nat.mod_eq_of_lt (show n<256 by omega)]
  ·rw [Zaa (by omega)]
   have h1:n/128<128^(g+1):=by
    rw [Nat.div_lt_iff_lt_mul (by omega)];rw [Nat.pow_succ] at h;exact h
   have hc:(UInt8.ofNat (128+n%128)).toNat=128+n%128:=by rw [UInt8.toNat_ofNat'];omega
   rw [List.cons_append,dec,hc,ih (n/128) r h1];simp only;rw [if_neg (by omega),if_neg (by omega)]
   congr 2
   omega
theorem Zee: ∀(f:Nat) (b:LU) (n:Nat) (r:LU),dec f b=some (n,r)→b=num n++r∧n<128^f
 | 0,b,n,r,h=>by simp [dec] at h
 | f+1,[],n,r,h=>by simp [dec] at h
 | f+1,c::q,n,r,h=>by
  simp only [dec] at h;have hp:0<128^f:=Nat.pow_pos (by omega)
  by_cases hc:c.toNat<128
  ·rw [if_pos hc] at h
   obtain ⟨rfl,rfl⟩:=Prod.mk.inj (Option.some.inj h);refine ⟨by rw [Z5U hc];simp,?_⟩;rw [Nat.pow_succ];omega
  ·rw [if_neg hc] at h
   cases hd:dec f q with
   | none=>rw [hd] at h;cases h
   | some p=>
    obtain ⟨m,s⟩:=p;rw [hd] at h;simp only at h
    by_cases hm:m=0
    ·rw [if_pos hm] at h;cases h
    ·rw [if_neg hm] at h
     obtain ⟨rfl,rfl⟩:=Prod.mk.inj (Option.some.inj h);obtain ⟨rfl,h2⟩:=Zee f q m s hd;have hc2:=c.toNat_lt;refine ⟨?_,by rw [Nat.pow_succ];omega⟩;have e1:128+(c.toNat%128+128*m)%128=c.toNat:=by omega
     have e2:(c.toNat%128+128*m)/128=m:=by omega
     rw [Zaa (show 128≤c.toNat%128+128*m by omega),e1,e2];simp
theorem ZI (n:Nat) (r:LU) (h:n≤Zb):Z3 (num n++r)=some (n,r):=by
 have h9:n<128^9:=by unfold Zb at h;omega
 rw [Z3,ZhV 8 n r h9];simp [h]
theorem Zw {b:LU} {n:Nat} {r:LU} (h:Z3 b=some (n,r)):b=num n++r∧n≤Zb:=by
 unfold Z3 at h
 cases hd:dec 9 b with
 | none=>rw [hd] at h;cases h
 | some p=>
  obtain ⟨m,s⟩:=p;rw [hd] at h;simp only at h
  by_cases hm:m≤Zb
  ·rw [if_pos hm] at h
   obtain ⟨rfl,rfl⟩:=Prod.mk.inj (Option.some.inj h);exact ⟨(Zee 9 b _ _ hd).1,hm⟩
  ·rw [if_neg hm] at h;cases h
def acc (l:LU):Nat:=l.foldr (fun c m=>c.toNat%128+128*m) 0
theorem Zbd (l:LU) (c:UInt8):acc (l++[c])=acc l+128^l.length*(c.toNat%128):=by
 induction l with
 | nil=>simp [acc]
 | cons x l ih=>
  have e1:acc (x::l++[c])=x.toNat%128+128*acc (l++[c]):=rfl;have e2:acc (x::l)=x.toNat%128+128*acc l:=rfl;rw [e1,e2,ih,List.length_cons,Nat.pow_succ,Nat.mul_add,Nat.add_assoc,Nat.mul_comm (128^l.length) 128,Nat.mul_assoc]
theorem ZiM (l:LU):acc l<128^l.length:=by
 induction l with
 | nil=>simp [acc]
 | cons x l ih=>
  have e2:acc (x::l)=x.toNat%128+128*acc l:=rfl;rw [e2,List.length_cons,Nat.pow_succ];omega
theorem Z9d: ∀(l:LU) (f:Nat) (r:LU),(∀c∈l,128≤c.toNat)→
  dec (l.length+f) (l++r)=match dec f r with
   | none=>none
   | some (m,q)=>if l≠[]∧m=0 then none else some (acc l+128^l.length*m,q)
 | [],f,r,_=>by
  have e:([]:LU).length+f=f:=by simp
  rw [e,List.nil_append]
  cases dec f r with
  | none=>rfl
  | some p=>simp [acc]
 | x::l,f,r,h=>by
  have e:(x::l).length+f=(l.length+f)+1:=by simp [List.length_cons];omega
  have hx: ¬x.toNat<128:=by have:=h x (by simp);omega
  rw [e,List.cons_append];simp only [dec];rw [if_neg hx,Z9d l f r (fun c hc=>h c (by simp [hc]))]
  cases dec f r with
  | none=>rfl
  | some p=>
   obtain ⟨m,q⟩:=p;have e2:acc (x::l)=x.toNat%128+128*acc l:=rfl;have hp:0<128^l.length:=Nat.pow_pos (by omega)
   by_cases hm:m=0
   ·subst hm
    by_cases hl:l=[]
    ·subst hl
     simp [acc]
    ·simp [hl]
   ·have hne: ¬(acc l+128^l.length*m=0):=by
     have:0<128^l.length*m:=Nat.mul_pos hp (by omega);omega
    simp only [hm,and_false,if_false,hne];simp only [e2,List.length_cons,Nat.pow_succ,Nat.mul_add]
    congr 2
    rw [Nat.mul_comm (128^l.length) 128,Nat.mul_assoc];omega
theorem Z9e: ∀(f:Nat) (l:LU),(∀c∈l,128≤c.toNat)→dec f l=none
 | 0,l,_=>by cases l<;>rfl
 | f+1,[],_=>rfl
 | f+1,x::l,h=>by
  have hx: ¬x.toNat<128:=by have:=h x (by simp);omega
  simp only [dec];rw [if_neg hx,Z9e f l (fun c hc=>h c (by simp [hc]))]
theorem Zg6 (l r:LU) (f:Nat) (hl:f≤l.length) (h: ∀c∈l,128≤c.toNat):dec f (l++r)=none:=by
 induction l generalizing f with
 | nil=>
  obtain rfl:f=0:=by simpa using hl
  cases r<;>rfl
 | cons x l ih=>
  cases f with
  | zero=>rfl
  | succ f=>
   have hx: ¬x.toNat<128:=by have:=h x (by simp);omega
   simp only [List.cons_append,dec];rw [if_neg hx,ih f (by simpa using hl) (fun c hc=>h c (by simp [hc]))]
def Pre (l:LU) (k:Nat):Prop:=k≤l.length∧ ∀c∈l.take k,128≤c.toNat
theorem Pre.zero (l:LU):Pre l 0:=⟨zL _,by simp⟩
theorem Z4P (l:LU) (k:Nat) (h:k<l.length):l.take (k+1)=l.take k++[l[k]]:=by rw [List.take_succ_eq_append_getElem h]
theorem Pre.succ {l:LU} {k:Nat} (h:Pre l k) (hk:k<l.length) (hc:128≤(l[k]).toNat):Pre l (k+1):=
 ⟨hk,fun c hc'=>by
  rw [Z4P l k hk,List.mem_append] at hc';rcases hc' with hc' | hc'
  ·exact h.2 c hc'
  ·rw [List.mem_singleton.1 hc'];exact hc⟩
theorem Zac {l:LU} (h:Pre l 9):Z3 l=none:=by
 have e:=Zg6 (l.take 9) (l.drop 9) 9 (by rw [List.length_take];have:=h.1;omega) h.2;rw [List.take_append_drop] at e;unfold Z3;rw [e]
theorem Zbe {l:LU} (h:Pre l l.length):Z3 l=none:=by
 have e:=Z9e 9 l (by have:=h.2;rwa [List.take_length] at this);unfold Z3;rw [e]
theorem Zg7 {l:LU} {k:Nat} (h:Pre l k) (hk:k<l.length) (h9:k<9) (hc:(l[k]).toNat<128):
  dec 9 l=if 0<k∧(l[k]).toNat=0 then none else some (acc (l.take k)+128^k*(l[k]).toNat,l.drop (k+1)):=by
 have hl:(l.take k).length=k:=by rw [List.length_take];omega
 obtain ⟨f,hf⟩: ∃f,9=k+(f+1):=⟨8-k,by omega⟩;have e:=Z9d (l.take k) (f+1) (l.drop k) h.2;rw [List.take_append_drop,hl,←hf,List.drop_eq_getElem_cons hk] at e;rw [dec.eq_3,if_pos hc] at e;simp only at e;rw [e];have:(l.take k≠[])↔0<k:=by
  rw [←List.length_pos_iff,hl]
 by_cases h0:0<k∧(l[k]).toNat=0
 ·rw [if_pos h0,if_pos ⟨this.2 h0.1,h0.2⟩]
 ·rw [if_neg h0,if_neg (fun hh=>h0 ⟨this.1 hh.1,hh.2⟩)]
theorem Z7j {l:LU} {k:Nat} (h:Pre l k) (hk:k<l.length) (h9:k<9) (hp:0<k) (hc:(l[k]).toNat=0):Z3 l=none:=by
 unfold Z3;rw [Zg7 h hk h9 (by omega),if_pos ⟨hp,hc⟩]
theorem Zd2 {l:LU} {k:Nat} (h:Pre l k) (hk:k<l.length) (h9:k<9) (hc:(l[k]).toNat<128) (hn: ¬(0<k∧(l[k]).toNat=0)):
  Z3 l=if acc (l.take (k+1))≤Zb then some (acc (l.take (k+1)),l.drop (k+1)) else none:=by
 unfold Z3;have hl:(l.take k).length=k:=by rw [List.length_take];omega
 rw [Zg7 h hk h9 hc,if_neg hn,Z4P l k hk,Zbd,hl,Nat.mod_eq_of_lt hc]
theorem Zbf {l:LU} {k:Nat} (hk:k<l.length):acc (l.take (k+1))=acc (l.take k)+128^k*((l[k]).toNat%128):=by
 have hl:(l.take k).length=k:=by rw [List.length_take];omega
 rw [Z4P l k hk,Zbd,hl]
theorem Z6r (l:LU) (k:Nat) (hk:k≤l.length):acc (l.take k)<128^k:=by
 have:=ZiM (l.take k);rwa [List.length_take,Nat.min_eq_left hk] at this
def text (l:LU):LU:=num l.length++l
def ZE (b:LU) (most:Int):Option (LU×LU):=
 match Z3 b with
 | none=>none
 | some (n,r)=>if (n:Int)≤most∧n≤r.length then some (r.take n,r.drop n) else none
theorem Z2D (l r:LU) (most:Int) (h:(l.length:Int)≤most) (h2:l.length≤Zb):ZE (text l++r) most=some (l,r):=by
 unfold ZE text;rw [List.append_assoc,ZI _ _ h2];simp [h]
theorem Z0c {b:LU} {most:Int} {l r:LU} (h:ZE b most=some (l,r)):b=text l++r∧(l.length:Int)≤most∧l.length≤Zb:=by
 unfold ZE at h
 cases hd:Z3 b with
 | none=>rw [hd] at h;cases h
 | some p=>
  obtain ⟨n,s⟩:=p;rw [hd] at h;simp only at h
  by_cases hc:(n:Int)≤most∧n≤s.length
  ·rw [if_pos hc] at h
   obtain ⟨rfl,rfl⟩:=Prod.mk.inj (Option.some.inj h);obtain ⟨rfl,h2⟩:=Zw hd;have e:(s.take n).length=n:=by rw [List.length_take];omega
   exact ⟨by rw [text,e,List.append_assoc,List.take_append_drop],by rw [e];exact hc.1,by rw [e];exact h2⟩
  ·rw [if_neg hc] at h;cases h
def Zm (n:Int):Nat:=(min (max n 0) 4611686018427387903).toNat
theorem Z1c (n:Int):Zm n≤Zb:=by unfold Zm Zb;omega
end Go.Dol
namespace Go.Proofs.YtecpbcmpncgokaaGreat
open Go.RowKit Go.Dol
theorem Z1H (A:OA) (l:LU) (c:Nat) (w:World) (hr:Rd w w.heap.size 1 A l.length (bc l)) (hl:l.length≤140737488355328):
  Calls Tryz.prog 93 #[.slice A l.length c] w (RetB 5 w l):=by
 have he:=ZeW
 cases A with
 | none=>
  have h0:=hr.none_zero;obtain rfl:l=[]:=nZ h0;go_in;go_wp2;go_ret;exact ⟨[],none,0,rfl,rfl,World.ownsRow_nil _ _ _ _,bR _ _,lR _,by unfold maxLen;omega⟩
 | some a=>
  go_in;go_wp2_with (at_builtin;refine app8 rfl (.tmp 5) (.tmp 6) rfl w.heap.size _ 0 [] rfl (Z6q w) w.heap.size (some a) l.length c l rfl (hr.alloc (lR _) _) (by omega) (by simp) ?_);intro l' A' c' w' e' h1 hb h2 h3 h4 h5;go_wp2;go_ret;exact ⟨l',A',c',e',rfl,h1,((bR _ _).alloc (lR _) _).trans hb,h4,h5⟩
theorem Z4h (A:OA) (l:LU) (n c:Nat) (w:World) (hn:n=l.length) (hr:Rd w w.heap.size 1 A n (bc l)) (hl:n≤140737488355328):
  Calls Tryz.prog 93 #[.slice A n c] w (RetB 5 w l):=by
 subst hn;exact Z1H A l c w hr hl
theorem Zbg (A:OA) (l:LU) (c:Nat) (A2:OA) (l2:LU) (c2:Nat) (w:World) (hr:Rd w w.heap.size 1 A l.length (bc l)) (hr2:Rd w w.heap.size 1 A2 l2.length (bc l2))
  (hl:l.length+l2.length≤140737488355328):
  Calls Tryz.prog 238 #[.slice A l.length c,.slice A2 l2.length c2] w (RetB 5 w (l++l2)):=by
 go_in;go_wp2_with fail;refine (Z1H A l c w hr (by omega)).mono ?_;rintro e w1 ⟨l1,A1,c1,e1,rfl,h1,hb1,h2,h3⟩;have hle:l1.length≤l.length:=by rw [e1.out];exact lR _
 have hs:=hb1.size;go_wp2_with (at_builtin;refine app8 rfl (.tmp 6) (.tmp 7) rfl w.heap.size _ l1.length l1 rfl h1 w.heap.size A2 l2.length c2 l2 rfl (hr2.below hb1) (by omega) hs ?_);intro l' A' c' w' e' g1 hb g2 g3 g4 g5;go_wp2;go_ret;exact ⟨l',A',c',by unfold Hid at e1 e' ⊢; rw [e',e1],rfl,g1,hb1.trans hb,g4,g5⟩
theorem Zbh (A:OA) (l:LU) (c:Nat) (s:BA) (w:World) (hr:Rd w w.heap.size 1 A l.length (bc l))
  (hl:l.length+s.size≤140737488355328):
  Calls Tryz.prog 272 #[.slice A l.length c,.string s] w (RetB 5 w (l++s.data.toList)):=by
 go_in;go_wp2_with fail;refine (Z1H A l c w hr (by omega)).mono ?_;rintro e w1 ⟨l1,A1,c1,e1,rfl,h1,hb1,h2,h3⟩;have hle:l1.length≤l.length:=by rw [e1.out];exact lR _
 have hs:=hb1.size;go_wp2_with (at_builtin;refine Zd0 rfl (.tmp 6) (.tmp 7) rfl w.heap.size _ l1.length l1 rfl h1 s rfl (by omega) hs ?_);intro l' A' c' w' e' g1 hb g2 g4 g5;go_wp2;go_ret;exact ⟨l',A',c',by unfold Hid at e1 e' ⊢; rw [e',e1],rfl,g1,hb1.trans hb,g4,g5⟩
def ZiN (N:Nat) (w:World) (n v:Value) (wr:World):Prop:=
 ∃(m:Nat) (l:LU) (A:OA) (c:Nat),n= .int .i64 m∧v= .slice A l.length c∧wr.ownsRow w.heap.size 5 1 (.slice A l.length c) l.length (bc l)∧Hid (l++num m=num N)∧Below w.heap.size w wr∧m≤N
theorem Zd3 (n:Int): ∃M:Int,(∀w:World,(Builtin.max_ #[3,3] 3 #[.int .i64 n,.int .i64 0]).run Tryz.prog w= .ok (.int .i64 M) w)∧
  (∀w:World,(Builtin.min_ #[3,3] 3 #[.int .i64 M,.int .i64 4611686018427387903]).run Tryz.prog w= .ok (.int .i64 (Zm n:Nat)) w):=by
 refine ⟨if 0>n then 0 else n,fun w=>run_max_int2 _ _ _ _ _ _ _,fun w=> ?_⟩;rw [run_min_int2]
 congr 2
 unfold Zm;split<;>split<;>omega
theorem Zz (A:OA) (l:LU) (c:Nat) (n:Int) (w:World) (hr:Rd w w.heap.size 1 A l.length (bc l)) (hl:l.length+9≤140737488355328):
  Calls Tryz.prog 167 #[.slice A l.length c,.int .i64 n] w (RetB 5 w (l++num (Zm n))):=by
 obtain ⟨M,hM1,hM2⟩:=Zd3 n;obtain ⟨N,hNe⟩: ∃N,N=Zm n:=⟨_,rfl⟩;have HN:Hid (N≤Zb):=by rw [hNe];exact Z1c n
 rw [←hNe] at hM2 ⊢;clear hNe;go_in;go_wp2_with fail;clear hM1 hM2;go_loopw [1,5] (fun n' v wr=>ZiN N w n' v wr) (fun n' _ _=>(intOf n').toNat)
 case atStart=>exact ⟨N,[],none,0,rfl,rfl,World.ownsRow_nil _ _ _ _,rfl,bR _ _,lR _⟩
 case round=>
  obtain ⟨m,l1,A1,c1,rfl,rfl,h1,h2,h3,h4⟩:=hrel;have hle:l1.length+(num m).length≤9:=by
   have e1:(l1++num m).length=(num N).length:=by rw [h2.out]
   have e2:=Z5 8 N (by have:=HN.out;unfold Zb at this;omega);rw [List.length_append] at e1;omega
  have hnp:=Zab m;have hle1:l1.length≤8:=by omega
  clear hle hnp;have hs:=h3.size
  by_cases hm:128≤m
  ·have hmi:(128:Int)≤m:=by omega
   have hk:=Zg4 m;have hk0:0≤bits .or .u8 ((m:Int)%256) 128:=by omega
   have hk1:bits .or .u8 ((m:Int)%256) 128<256:=by omega
   have Hk:=qI hk;clear hk;go_wp2_with (at_builtin;refine Z6W rfl (.tmp 13) (.tmp 17) rfl w.heap.size _ l1.length l1 rfl h1 rfl hk0 hk1 (by omega) (by omega) ?_);intro d l' A' c' w' hd e' g1 gb g2 g3 g4 g5;clear hk0 hk1;go_wp2_with fail;refine ⟨⟨m/128,l',A',c',by go_num,rfl,g1,?_,h3.trans gb,by omega⟩,by simp [intOf];omega⟩;have hd':=Z3s hd Hk.out;unfold Hid at*;rw [e',hd',←h2,Zaa hm];simp
  ·have hmi:(m:Int)<128:=by omega
   go_wp2_with (at_builtin;refine Z6W rfl (.tmp 20) (.tmp 23) rfl w.heap.size _ l1.length l1 rfl h1 rfl (by omega) (by omega) (by omega) (by omega) ?_);intro d l' A' c' w' hd e' g1 gb g2 g3 g4 g5;have hb:=h3.trans gb;have hs':=hb.size;have hle':l'.length≤9:=by rw [e'.out,List.length_append];simp;omega
   go_wp2_with fail;refine (Zbg A l c A' l' c' w' (hr.belowW hb (lR _) |>.more hs') (Rd.of_own g1) (by omega)).mono ?_;rintro e w2 ⟨l2,A2,c2,e2,rfl,p1,pb,p2,p3⟩;go_wp2_with fail;go_ret;refine ⟨l2,A2,c2,?_,rfl,p1.base hs',hb.trans (pb.mono hs'),p2,p3⟩;have hd':=Z3s (n:=m) hd (by omega);unfold Hid at*;rw [e2,e',hd',←h2,Z5U (by omega)]
theorem Zd4 {k:Nat} (h:k≤Zb):Zm (k:Int)=k:=by unfold Zm;unfold Zb at h;omega
theorem Z0w (A:OA) (l:LU) (c:Nat) (s:BA) (w:World) (hr:Rd w w.heap.size 1 A l.length (bc l)) (hl:l.length+9+s.size≤140737488355328):
  Calls Tryz.prog 253 #[.slice A l.length c,.string s] w (RetB 5 w (l++text s.data.toList)):=by
 have es:s.data.toList.length=s.size:=by rw [Array.length_toList];rfl
 have hm:s.size≤Zb:=by unfold Zb;omega
 have Hc:=qI (Zd4 hm);have Hm:=qI hm;have Es:=qI es;clear hm es;go_in;go_wp2_with fail;refine (Zz A l c s.size w hr (by omega)).mono ?_;rintro e w1 ⟨l1,A1,c1,e1,rfl,h1,hb1,h2,h3⟩;have hle:l1.length≤l.length+9:=by
  have e2:=Z5 8 s.size (by have:=Hm.out;unfold Zb at this;omega);rw [e1.out,List.length_append,Hc.out];omega
 have hs:=hb1.size;go_wp2_with fail;refine (Zbh A1 l1 c1 s w1 (Rd.of_own h1) (by omega)).mono ?_;rintro e w2 ⟨l2,A2,c2,e2,rfl,p1,pb,p2,p3⟩;go_wp2_with fail;go_ret;refine ⟨l2,A2,c2,?_,rfl,p1.base hs,hb1.trans (pb.mono hs),p2,p3⟩;unfold Hid at*;rw [e2,e1,Hc,text,Es,List.append_assoc]
end Go.Proofs.YtecpbcmpncgokaaGreat
namespace Go.Proofs.YtecpbcmpncgokaaGreat
open Go.RowKit Go.Dol
def ZhW (l:LU) (n used i:Value):Prop:=
 ∃k m:Nat,n= .int .u64 m∧used= .int .i64 0∧i= .int .i64 k∧Pre l k∧k≤9∧Hid (m=acc (l.take k))
theorem ZW (A:OA) (l:LU) (c:Nat) (w:World) (hr:Rd w w.heap.size 1 A l.length (bc l)) (hl:l.length≤140737488355328) (hc:l.length≤c):
  Calls Tryz.prog 209 #[.slice A l.length c] w (ZiG 5 w (Z3 l)):=by
 go_in;go_wp2_with fail;go_step3;go_wp2_with fail;go_step3;go_wp2_with fail;go_loop [5,6,11] (fun n used i=>ZhW l n used i) (fun _ _ i=>9-(intOf i).toNat)
 case atStart=>exact ⟨0,0,rfl,rfl,rfl,Pre.zero l,by omega,by simp [Hid,acc]⟩
 case round=>
  obtain ⟨k,m,rfl,rfl,rfl,hp,hk9,hm⟩:=hrel;have hkl:=hp.1;have HP:=qI hp;clear hp
  by_cases hlt:k<l.length
  ·obtain ⟨b,off,rfl,hb,hcell⟩:=hr.at_ (by omega)
   have hcx:=hcell k _ (Z0s l k hlt);obtain ⟨x,hx⟩: ∃x,x=(l[k]).toNat:=⟨_,rfl⟩;have hx256:x<256:=by have:=(l[k]).toNat_lt;omega
   rw [←hx] at hcx;have HX:=qI hx;clear hx hcell
   by_cases h9:k=9
   ·subst h9
    go_wp2_with fail;go_ret3;rw [Zac HP.out];exact ⟨rfl,bR _ _⟩
   ·have hk8:k<9:=by omega
    clear h9 hk9
    by_cases hx128:x<128
    ·by_cases hxk:x=0∧0<k
     ·obtain ⟨hx0,hk0⟩:=hxk
      have HX0:=qI hx0;have hxi:(x:Int)<1:=by omega
      have hki:(0:Int)<k:=by omega
      clear hx0;go_wp2_with fail;go_ret3;rw [Z7j HP.out hlt hk8 hk0 (by rw [←HX.out];exact HX0.out)];exact ⟨rfl,bR _ _⟩
     ·have hax:bits .and .u8 (x:Int) 127=(x:Int):=by rw [Za3 x hx256,Nat.mod_eq_of_lt hx128]
      obtain ⟨z,m',hz1,hz2,hz3⟩:=Za4 m x k hk8 (by rw [hm.out];exact Z6r l k hkl) hx128;have hm':m'=acc (l.take (k+1)):=by rw [Zbf hlt,hz3,hm.out,←HX.out,Nat.mod_eq_of_lt hx128]
      have HT:Hid (Z3 l=if m'≤Zb then some (m',l.drop (k+1)) else none):=by
       have:=Zd2 HP.out hlt hk8 (by rw [←HX.out];exact hx128) (by rw [←HX.out];omega);rwa [←hm'] at this
      clear hz3 hm';have hxc:x=0∧k=0∨1≤x:=by omega
      clear hxk;rcases hxc with ⟨hx0,hk0⟩ | hx1
      ·have hxi:(x:Int)<1:=by omega
       have hki:(k:Int)<1:=by omega
       have hk1:((k:Int)+1==0)=false:=beq_eq_false_iff_ne.2 (by omega);have hax0:bits .and .u8 0 127=0:=by decide
       have hz20:bits .or .u64 (m:Int) 0=(m':Int):=by
        rw [hx0] at hz1;have h0:(0:Int)=z:=by rw [←hz1];simp [IntKind.wrap_u64]
        rw [←hz2,←h0]
       clear hx0 hk0 hax hz1 hz2
       by_cases hmm:m'≤Zb
       ·have hmi:decide ((4611686018427387903:Int)<m')=false:=by unfold Zb at hmm;simp;omega
        have hmj:(m':Int)≤4611686018427387903:=by unfold Zb at hmm;omega
        have ht:=hr.tail (k:=k+1) hlt hc;have HT2:Hid (Z3 l=some (m',l.drop (k+1))):=by have:=HT.out;rwa [if_pos hmm] at this
        clear hmm HT
        by_cases hcap:c=k+1
        ·rw [if_pos hcap] at ht
         have HC:=qI hcap;go_wp2_with fail;refine (Z4h _ (l.drop (k+1)) _ _ w (by simp) ht (by omega)).mono ?_;rintro e w1 ⟨l1,A1,c1,e1,rfl,h1,hb1,h2,h3⟩;go_wp2_with fail;go_ret3;rw [HT2.out];exact ⟨l1,A1,c1,e1,rfl,h1,hb1,h2,h3⟩
        ·rw [if_neg hcap] at ht
         have ht':Rd w w.heap.size 1 (some ⟨b,off+(k+1),none⟩) (l.length-(k+1)) (bc (l.drop (k+1))):=by simpa [Addr.add_lit] using ht
         clear ht;go_wp2_with fail;refine (Z4h _ (l.drop (k+1)) _ _ w (by simp) ht' (by omega)).mono ?_;rintro e w1 ⟨l1,A1,c1,e1,rfl,h1,hb1,h2,h3⟩;go_wp2_with fail;go_ret3;rw [HT2.out];exact ⟨l1,A1,c1,e1,rfl,h1,hb1,h2,h3⟩
       ·have hmi:decide ((4611686018427387903:Int)<m')=true:=by unfold Zb at hmm;simp;omega
        have HT2:Hid (Z3 l=none):=by have:=HT.out;rwa [if_neg hmm] at this
        clear hmm HT;go_wp2_with fail;go_ret3;rw [HT2.out];exact ⟨rfl,bR _ _⟩
      ·have hxi:(1:Int)≤x:=by omega
       have hxj:(x:Int)<128:=by omega
       have hk1:((k:Int)+1==0)=false:=beq_eq_false_iff_ne.2 (by omega);clear hx1
       by_cases hmm:m'≤Zb
       ·have hmi:decide ((4611686018427387903:Int)<m')=false:=by unfold Zb at hmm;simp;omega
        have hmj:(m':Int)≤4611686018427387903:=by unfold Zb at hmm;omega
        have ht:=hr.tail (k:=k+1) hlt hc;have HT2:Hid (Z3 l=some (m',l.drop (k+1))):=by have:=HT.out;rwa [if_pos hmm] at this
        clear hmm HT
        by_cases hcap:c=k+1
        ·rw [if_pos hcap] at ht
         have HC:=qI hcap;go_wp2_with fail;refine (Z4h _ (l.drop (k+1)) _ _ w (by simp) ht (by omega)).mono ?_;rintro e w1 ⟨l1,A1,c1,e1,rfl,h1,hb1,h2,h3⟩;go_wp2_with fail;go_ret3;rw [HT2.out];exact ⟨l1,A1,c1,e1,rfl,h1,hb1,h2,h3⟩
        ·rw [if_neg hcap] at ht
         have ht':Rd w w.heap.size 1 (some ⟨b,off+(k+1),none⟩) (l.length-(k+1)) (bc (l.drop (k+1))):=by simpa [Addr.add_lit] using ht
         clear ht;go_wp2_with fail;refine (Z4h _ (l.drop (k+1)) _ _ w (by simp) ht' (by omega)).mono ?_;rintro e w1 ⟨l1,A1,c1,e1,rfl,h1,hb1,h2,h3⟩;go_wp2_with fail;go_ret3;rw [HT2.out];exact ⟨l1,A1,c1,e1,rfl,h1,hb1,h2,h3⟩
       ·have hmi:decide ((4611686018427387903:Int)<m')=true:=by unfold Zb at hmm;simp;omega
        have HT2:Hid (Z3 l=none):=by have:=HT.out;rwa [if_neg hmm] at this
        clear hmm HT;go_wp2_with fail;go_ret3;rw [HT2.out];exact ⟨rfl,bR _ _⟩
    ·have hax:bits .and .u8 (x:Int) 127=((x%128:Nat):Int):=Za3 x hx256
     obtain ⟨y,hy⟩: ∃y,y=x%128:=⟨_,rfl⟩;have hy128:y<128:=by omega
     rw [←hy] at hax;have HY:=qI hy;clear hy;obtain ⟨z,m',hz1,hz2,hz3⟩:=Za4 m y k hk8 (by rw [hm.out];exact Z6r l k hkl) hy128;have hm':Hid (m'=acc (l.take (k+1))):=by unfold Hid;rw [Zbf hlt,hz3,hm.out,←HX.out,←HY.out]
     clear hz3;have hxi:(128:Int)≤x:=by omega
     have HP':Hid (Pre l (k+1)):=HP.out.succ hlt (by rw [←HX.out];omega);go_wp2_with fail;exact ⟨⟨k+1,m',rfl,rfl,by go_num,HP'.out,by omega,hm'⟩,by simp [intOf];omega⟩
  ·have hkk:k=l.length:=by omega
   have HK:=qI hkk;clear hkk;go_wp2_with fail;go_ret3;rw [Zbe (by have:=HP.out;rwa [HK.out] at this)];exact ⟨rfl,bR _ _⟩
end Go.Proofs.YtecpbcmpncgokaaGreat
namespace Go.Proofs.YtecpbcmpncgokaaGreat
open Go.RowKit Go.Dol
end Go.Proofs.YtecpbcmpncgokaaGreat
namespace Go.Proofs.YtecpbcmpncgokaaGreat
open Go.RowKit Go.Dol
def Zbi (w:World) (r:Option (LU×LU)) (e:Ending) (w':World):Prop:=
 match r with
 | none=>e= .returned (.tuple #[.string ⟨#[]⟩,.slice none 0 0,.int .i64 2])∧Below w.heap.size w w'
 | some (s,q)=> ∃(q':LU) (A:OA) (c:Nat),Hid (q'=q)∧e= .returned (.tuple #[.string ⟨s.toArray⟩,.slice A q'.length c,.int .i64 0])∧Seg w' w.heap.size 5 1 A q'.length c (bc q')∧Below w.heap.size w w'
theorem Z5j (A:OA) (l:LU) (c:Nat) (most:Int) (w:World) (hr:Rd w w.heap.size 1 A l.length (bc l)) (hl:l.length≤140737488355328) (hc:l.length≤c):
  Calls Tryz.prog 255 #[.slice A l.length c,.int .i64 most] w (Zbi w (ZE l most)):=by
 cases ht:Z3 l with
 | none=>
  have HE:Hid (ZE l most=none):=by unfold Hid ZE;rw [ht]
  have HT:=qI ht;clear ht;go_in;go_wp2_with fail;refine (ZW A l c w hr hl hc).mono ?_;intro e w1 h1;rw [HT.out] at h1;obtain ⟨rfl,hb1⟩:=h1;go_wp2_with fail;go_ret3;rw [HE.out];exact ⟨rfl,hb1⟩
 | some p=>
  obtain ⟨n,q⟩:=p;have hn:=(Zw ht).2;unfold Zb at hn;have hni:(n:Int)≤4611686018427387903:=by omega
  have HE:Hid (ZE l most=if (n:Int)≤most∧n≤q.length then some (q.take n,q.drop n) else none):=by unfold Hid ZE;rw [ht]
  have HT:=qI ht;clear ht hn;have hcase:most<(n:Int)∨((n:Int)≤most∧q.length<n)∨((n:Int)≤most∧n≤q.length):=by omega
  rcases hcase with h0 | ⟨h0,h00⟩ | ⟨h0,h00⟩
  ·have HE2:Hid (ZE l most=none):=by have:=HE.out;rwa [if_neg (by omega)] at this
   clear HE;have hd:decide (most<(n:Int))=true:=by simpa using h0
   go_in;go_wp2_with fail;refine (ZW A l c w hr hl hc).mono ?_;intro e w1 h1;rw [HT.out] at h1;obtain ⟨q1,A1,c1,e1,rfl,h1,hb1,h2,h3⟩:=h1;go_wp2_with fail;go_ret3;rw [HE2.out];exact ⟨rfl,hb1⟩
  ·have HE2:Hid (ZE l most=none):=by have:=HE.out;rwa [if_neg (by omega)] at this
   clear HE;have hd:decide (most<(n:Int))=false:=by simpa using h0
   go_in;go_wp2_with fail;refine (ZW A l c w hr hl hc).mono ?_;intro e w1 h1;rw [HT.out] at h1;obtain ⟨q1,A1,c1,e1,rfl,h1,hb1,h2,h3⟩:=h1;have hd2:decide (q1.length<n)=true:=by rw [e1.out];simpa using h00
   have hd3:decide ((q1.length:Int)<(n:Int))=true:=by rw [e1.out];simpa using h00
   go_wp2_with fail;go_ret3;rw [HE2.out];exact ⟨rfl,hb1⟩
  ·have HE2:Hid (ZE l most=some (q.take n,q.drop n)):=by have:=HE.out;rwa [if_pos ⟨h0,h00⟩] at this
   clear HE;have hd:decide (most<(n:Int))=false:=by simpa using h0
   go_in;go_wp2_with fail;refine (ZW A l c w hr hl hc).mono ?_;intro e w1 h1;rw [HT.out] at h1;obtain ⟨q1,A1,c1,e1,rfl,h1,hb1,h2,h3⟩:=h1;have hnq:n≤q1.length:=by rw [e1.out];exact h00
   have hd2:decide (q1.length<n)=false:=by simpa using hnq
   have hd3:decide ((q1.length:Int)<(n:Int))=false:=by simpa using hnq
   have hr1:=Rd.of_own h1;have ht:=((Seg.of_own h1).tail8 hnq);have hcv1: ∀k,(convert 36 9 (.slice A1 n c1)).run Tryz.prog (w1.drewN k)= .ok (.string ⟨(q1.take n).toArray⟩) (w1.drewN k):=fun k=>Z2C _ _ _ _ Tryz.underlying36 Tryz.underlying5 Tryz.underlying9 _ A1 n c1 (q1.take n) ((hr1.head hnq).drewN k);have hcv2:(convert 36 9 (.slice A1 n c1)).run Tryz.prog w1.drew= .ok (.string ⟨(q1.take n).toArray⟩) w1.drew:=Z2C _ _ _ _ Tryz.underlying36 Tryz.underlying5 Tryz.underlying9 _ A1 n c1 (q1.take n) (hr1.head hnq).drew;have hnc:n≤c1:=by omega
   by_cases hcap:c1=n
   ·clear ht
    subst hcap;go_wp2_with fail;go_quiet (fail);go_wp2_with fail;go_ret3;rw [HE2.out];cases e1.out;exact ⟨[],A1,0,(List.drop_eq_nil_of_le (by omega)).symm,rfl,Seg.nil,Below.drewN' hb1 _⟩
   ·rw [if_neg hcap] at ht
    go_wp2_with fail;go_quiet (fail);go_wp2_with fail;go_ret3;rw [HE2.out];cases e1.out;exact ⟨q.drop _,_,_,rfl,by rw [List.length_drop];rfl,by rw [List.length_drop];exact ht.drewN _,Below.drewN' hb1 _⟩
end Go.Proofs.YtecpbcmpncgokaaGreat
