/- The walks of the library's functions that copy bytes: slices.Clone, slices.Grow (of nil), slices.Concat. Conditions: bytes that are made fit 2^47. The walks of the layer 'disk', its third part: may a file that is there be touched; reading; a new disk; the power. Conditions: lengths below 2^47. What keeps a disk in good order, in plain Lean. No program is in sight. Conditions: none beyond what each lemma names. -/
import Derived.Test.YtecpbcmpncgokaaGreatWordsA
import Derived.Lib.AppendZerosOnto
import Derived.Test.YtecpbcmpncgokaaGreatShort
import Derived.Test.YtecpbcmpncgokaaGreatDisk3
set_option maxRecDepth 100000
set_option maxHeartbeats 1600000
set_option linter.unusedVariables false
namespace Go.Proofs.YtecpbcmpncgokaaGreat
open Go.RowKit Go.Dol
theorem Z35 (B:Nat) (A:OA) (l:LU) (n c:Nat) (hn:n=l.length) (w:World) (hr:Rd w B 1 A n (bc l)) (hl:n≤140737488355328):
  Calls Tryz.prog 93 #[.slice A n c] w (RetB 5 w l):=by
 have hq:=ZcD w A n c
 cases A with
 | none=>
  have h0:=hr.none_zero;have HL:Hid (l=[]):=nZ (by omega);clear hr hn;subst h0;have hq0:(binOp .eql 36 (.slice none 0 c) (.slice none 0 0)).run Tryz.prog w= .ok (.bool true) w:=hq;clear hq;go_in;go_wp2_with fail;go_ret;exact ⟨[],none,0,HL.out.symm,rfl,World.ownsRow_nil _ _ _ _,bR _ _,lR _,zL _⟩
 | some a=>
  have hq0:(binOp .eql 36 (.slice (some a) n c) (.slice none 0 0)).run Tryz.prog w= .ok (.bool false) w:=hq;have hb0:Below w.heap.size w (w.alloc (.cells #[] 5)):=(bR _ _).alloc (lR _) _;have ho:=Z0B w;have hr1:=(hr.more (Nat.le_max_left B 0)).more (lR _);have hr2:Rd (w.alloc (.cells #[] 5)) (w.alloc (.cells #[] 5)).heap.size 1 (some a) n (bc l):=by
   refine ⟨hr.len,fun h0=> ?_⟩;obtain ⟨b,off,e,hb,hcell⟩:=hr.at_ h0;have h1:=hcell 0 _ (Z09 l 0 (by omega));have hlt:b<w.heap.size:=by
    rcases Nat.lt_or_ge b w.heap.size with h | h
    ·exact h
    ·rw [World.cell?,Array.getElem?_eq_none h] at h1
     cases h1
   refine ⟨b,off,e,by simp;omega,fun j u hu=> ?_⟩;rw [World.cell?_alloc_lt _ _ _ hlt];exact hcell j u hu
  clear hq hr1 hr hn;go_in;go_wp2_with (at_builtin;refine app8 rfl (.tmp 5) (.tmp 6) rfl w.heap.size _ 0 [] rfl ho _ (some a) n c l rfl hr2 (by omega) (by simp) ?_);intro l' A' c' w' he ho' hb' hg' _ h1 h2;go_wp2_with fail;go_ret;exact ⟨l',A',c',he,rfl,ho',hb0.trans hb',h1,h2⟩
theorem Z83 (k:Nat) (w:World) (hk:k≤140737488355328):
  Calls Tryz.prog 174 #[.slice none 0 0,.int .i64 (k:Nat)] w fun e w'=> ∃(A:OA) (c:Nat),e= .returned (.slice A 0 c)∧w'.ownsRow w.heap.size 5 1 (.slice A 0 c) 0 (bc [])∧Below w.heap.size w w':=by
 have d1:decide ((k:Int)<0)=false:=qF (by omega);have f1:IntKind.i64.wrap ((k:Int)-0)=k:=qJ _ (by omega);rcases Nat.eq_zero_or_pos k with h0 | h0
 ·have hK:=qI h0
  have d2:decide ((k:Int)>0)=false:=qF (by omega);have d2':decide ((0:Int)<(k:Int))=false:=qF (by omega);have d2n:decide (0<k)=false:=qF (by omega);clear h0;go_in;go_wp2_with fail;go_ret;exact ⟨none,0,rfl,World.ownsRow_nil _ _ _ _,bR _ _⟩
 ·have d2:decide ((k:Int)>0)=true:=dT (by omega)
  have d2':decide ((0:Int)<(k:Int))=true:=dT (by omega);have d2n:decide (0<k)=true:=dT h0;obtain ⟨i0,hi,hz0,hz1,hz2⟩:=info_parts Z2d;have hold:(Builtin.firstCells i0.size 0 (.slice none 0 0)).run Tryz.prog w.drew= .ok (#[]:Array Value) w.drew:=by rw [hz1];simp [Builtin.firstCells]
  have hfit:=growslice_fits (need:=0+k) (old:=0) (by omega) (show (0+k)*1≤140737488355328 by omega);have hr:=Lib.run_append_grow_zeros (P:=Tryz.prog) (ty:=36) w 36 3 5 i0 _ .i64 .i64 Tryz.underlying36 Tryz.underlying3 hi hz0 none 0 0 [] hold k h0 (by omega) (by omega) (by omega) (by rw [hz2];omega) (by rw [hz2];exact hfit);have hge:=grownCap_ge w (0+k) 0 5;have hcm:grownCap w (0+k) 0 5≤maxLen:=grownCap_le_maxLen w (0+k) 0 5 (by unfold maxLen;omega);obtain ⟨C,hC⟩: ∃C,C=grownCap w (0+k) 0 5:=⟨_,rfl⟩;rw [←hC] at hr hge hcm;obtain ⟨cs,hcs⟩: ∃cs,cs=(([]:List Value).toArray++Builtin.zeroCells (Value.int .u8 0).cells k++Builtin.zeroCells (Value.int .u8 0).cells (C-(0+k))):=⟨_,rfl⟩;rw [←hcs] at hr;have hsz:cs.size=C:=by rw [hcs];simp [Builtin.zeroCells,Value.cells];omega
  have hsl:(Instr.sliceAt 36 (.slice (some ⟨w.heap.size,0,none⟩) (0+k) C) none (some (.int .i64 0)) none).run Tryz.prog (w.drew.alloc (.cells cs 5))= .ok (.slice (some ⟨w.heap.size,0,none⟩) 0 C) (w.drew.alloc (.cells cs 5)):=by
   rw [run_sliceAt_slice _ _ _ _ _ _ (by kernel_rfl),run_slice_h _ _ _ _ _ (by kernel_rfl) _ _ (by omega) (by omega),Z6Y];simp [sliced,Result.andThen,Addr.add]
  clear hC hcs hold hfit;go_in;go_wp2_with (at_builtin;refine Lib.wpList_append_run w rfl _ _ _ _ rfl _ _ rfl rfl _ _ hr ?_);go_ret;refine ⟨_,_,rfl,⟨by simp [bc],.inr ⟨w.heap.size,C,cs,rfl,lR _,?_,zL _,hcm,by omega,by simp [bc]⟩⟩,((bR _ _).alloc (lR _) _).drew⟩;exact heap_alloc_new w _
def catc (ls:List (LU×OA×Nat)):List Value:=ls.map fun x=> .slice x.2.1 x.1.length x.2.2
def catL (ls:List (LU×OA×Nat)):LU:=ls.flatMap (·.1)
theorem Z4g {ls:List (LU×OA×Nat)} {k:Nat} {x:LU×OA×Nat} (h:ls[k]?=some x):catL (ls.take (k+1))=catL (ls.take k)++x.1:=by
 unfold catL;rw [List.take_add_one,h,List.flatMap_append];simp
theorem Z6P (ls:List (LU×OA×Nat)) (k:Nat):(catL (ls.take k)).length≤(catL ls).length:=by
 unfold catL
 conv=>rhs;rw [←List.take_append_drop k ls]
 rw [List.flatMap_append,List.length_append];omega
def Zgu (ls:List (LU×OA×Nat)) (w:World) (z i:Value) (wr:World):Prop:=∃ k s:Nat,z= .int .i64 s∧i= .int .i64 k∧k≤ls.length∧Hid (s=(catL (ls.take k)).length)∧w=wr
def ZfP (ls:List (LU×OA×Nat)) (w:World) (z i:Value) (wr:World):Prop:=
 ∃(k:Nat) (l1:LU) (A1:OA) (c1:Nat),z= .slice A1 l1.length c1∧i= .int .i64 k∧k≤ls.length∧wr.ownsRow w.heap.size 5 1 (.slice A1 l1.length c1) l1.length (bc l1)∧Hid (l1=catL (ls.take k))∧Below w.heap.size w wr
theorem Z9c (A:OA) (ls:List (LU×OA×Nat)) (n c:Nat) (hn:n=ls.length) (w:World) (hr:Rd w w.heap.size 1 A n (catc ls)) (hl:(catL ls).length≤140737488355328) (hnl:n≤140737488355328)
  (hR:Hid (∀x∈ls,Rd w w.heap.size 1 x.2.1 x.1.length (bc x.1))):
  Calls Tryz.prog 109 #[.slice A n c] w (RetB 5 w (catL ls)):=by
 have HN:=qI hn;clear hn;go_in;go_wp2_with fail;go_loopw [3,11] (fun z i wr=>Zgu ls w z i wr) (fun _ i _=>n-(intOf i).toNat)
 case atStart=>exact ⟨0,0,rfl,rfl,zL _,qI rfl,rfl⟩
 case round=>
  obtain ⟨k,s,rfl,rfl,hk,hs,rfl⟩:=hrel;have hkn:k≤n:=by rw [HN.out];exact hk
  have hsl:s≤(catL ls).length:=by rw [hs.out];exact Z6P ls k
  by_cases hlt:k<n
  ·have hd:decide ((k:Int)<(n:Int))=true:=dT (by omega)
   obtain ⟨b,off,rfl,hb,hcell⟩:=hr.at_ (by omega);have hlt2:k<ls.length:=by rw [←HN.out];exact hlt
   obtain ⟨x,hx⟩: ∃x,ls[k]?=some x:=⟨ls[k],gE hlt2⟩;obtain ⟨lx,Ax,cx⟩:=x;have hx1:(catc ls)[k]?=some (.slice Ax lx.length cx):=by simp [catc,hx]
   have k1:=hcell k _ hx1;have hsx:s+lx.length≤(catL ls).length:=by
    have h1:=Z6P ls (k+1);rw [Z4g hx,List.length_append,←hs.out] at h1;exact h1
   have f1:IntKind.i64.wrap ((s:Int)+(lx.length:Int))=((s+lx.length:Nat):Int):=by rw [qJ _ (by omega)];omega
   have d1:decide (((s+lx.length:Nat):Int)<0)=false:=qF (by omega);have HX:=qI hx;clear hx hx1 hcell hr;go_wp2_with fail;refine ⟨⟨k+1,s+lx.length,rfl,by go_num,by omega,qI ?_,rfl⟩,by simp [intOf];omega⟩;rw [Z4g HX.out,List.length_append,←hs.out]
  ·have hd:decide ((k:Int)<(n:Int))=false:=qF (by omega)
   have hs2:Hid (s=(catL ls).length):=by
    have h1:=hs.out;rw [List.take_of_length_le (by rw [←HN.out];omega)] at h1;exact h1
   have hs47:s≤140737488355328:=by omega
   go_wp2_with fail;refine (Z83 s _ (by omega)).mono ?_;rintro e w1 ⟨A1,c1,rfl,ho,hb1⟩;go_wp2_with fail;have hw1:=hb1.size;go_loopw [6,27] (fun z i wr=>ZfP ls w z i wr) (fun _ i _=>n-(intOf i).toNat)
   case atStart=>exact ⟨0,[],A1,c1,rfl,rfl,zL _,ho,qI rfl,hb1⟩
   case round=>
    clear ho hb1;obtain ⟨k',l1,A2,c2,rfl,rfl,hk',ho,hl1,hbl⟩:=hrel;have hkn':k'≤n:=by rw [HN.out];exact hk'
    have hs1:=hbl.size;have hl1l:l1.length≤(catL ls).length:=by rw [hl1.out];exact Z6P ls k'
    by_cases hlt:k'<n
    ·have hd:decide ((k':Int)<(n:Int))=true:=dT (by omega)
     have hr2:=hr.belowW hbl (lR _);obtain ⟨b,off,rfl,hb,hcell⟩:=hr2.at_ (by omega);have hlt2:k'<ls.length:=by rw [←HN.out];exact hlt
     obtain ⟨x,hx⟩: ∃x,ls[k']?=some x:=⟨ls[k'],gE hlt2⟩;obtain ⟨lx,Ax,cx⟩:=x;have hx1:(catc ls)[k']?=some (.slice Ax lx.length cx):=by simp [catc,hx]
     have k1:=hcell k' _ hx1;have hrx:=(hR.out _ (List.mem_of_getElem? hx)).belowW hbl (lR _);have hsx:l1.length+lx.length≤(catL ls).length:=by
      have h1:=Z6P ls (k'+1);rw [Z4g hx,List.length_append,←hl1.out] at h1;exact h1
     have hsx2:l1.length+lx.length≤140737488355328:=by omega
     have HX:=qI hx;clear hx hx1 hcell hr hr2;go_wp2_with (at_builtin;refine app8 rfl (.tmp 31) (.tmp 32) rfl w.heap.size _ l1.length l1 rfl ho _ Ax lx.length cx lx rfl hrx hsx2 hs1 ?_);intro l' A' c' w' he ho' hb' hg' _ h1 h2;go_wp2_with fail;refine ⟨⟨k'+1,l',A',c',rfl,by go_num,by omega,ho',qI ?_,hbl.trans hb'⟩,by simp [intOf];omega⟩;rw [Z4g HX.out,←hl1.out];exact he.out
    ·have hd:decide ((k':Int)<(n:Int))=false:=qF (by omega)
     go_wp2_with fail;go_ret;obtain ⟨q1,q2⟩:=Z3w ho;refine ⟨l1,A2,c2,qI ?_,rfl,ho,hbl,q1,q2⟩;have h1:=hl1.out;rw [List.take_of_length_le (by rw [←HN.out];omega)] at h1;exact h1
end Go.Proofs.YtecpbcmpncgokaaGreat
set_option maxRecDepth 100000
set_option maxHeartbeats 800000
set_option linter.unusedVariables false
namespace Go.Proofs.YtecpbcmpncgokaaGreat
open Go.RowKit Go.Dol
section
variable {w w':World} {g m:Nat} {D:Dk}
theorem Dsk.own (h:Dsk w g m D) {base:Nat} {T:TypeId} {size:Nat} {v:Value} {n:Nat} {xs:List Value} (ho:w.ownsRow base T size v n xs) (h1:145≠T) (h2:T≠5) (hg:w.grownBy w' v.ownBlock):Dsk w' g m D:=by
 obtain ⟨al,hB,hM,hF⟩:=h;exact ⟨al,hB.grown hg (own_ne ho hB h1).symm,hM.grown hg (hM.own_ne ho).symm,hF.keep hg (Other.own ho h2 (zL _))⟩
theorem Z3I (h:Dsk w g m D) (hO:InOrder D.l) (base:Nat) (Ao:OA) (os:List BA) (no co:Nat) (hno:no=os.length) (hos:os.length≤4) (n:BA) (ho:w.ownsRow base 9 1 (.slice Ao no co) no (sc os)) (hb:base≤w.heap.size) (hn:n.size≤maxLen):
  Calls Tryz.prog 103 #[.pointer (some ⟨g,0,none⟩),.string n,.slice Ao no co] w fun e w'=>e= .returned (.int .i64 (thD D os n))∧Below base w w'∧Dsk w' g m D:=by
 subst hno;obtain ⟨t,ht⟩: ∃t,t=thD D os n:=⟨_,rfl⟩;rw [←ht];have hb1:Below base w (w.alloc (.cells #[.string n] 9)):=(bR _ _).alloc hb _;have ho1:=ho.alloc (.cells #[.string n] 9);have hD1:=h.below ((bR _ _).alloc (lR _) (.cells #[.string n] 9));have hr1:=Rd.new1 w 9 (.string n);have hs1:=hb1.size;have hbs:base≤(w.alloc (.cells #[.string n] 9)).heap.size:=by omega
 go_in;go_wp2_with (at_builtin;refine ZeS rfl (.tmp 11) (.tmp 13) 38 9 _ 16 rfl Tryz.underlying38 Zdz rfl base _ os.length (sc os) rfl ho1 _ _ 1 1 [.string n] rfl hr1 (by intro u hu;obtain rfl:=List.mem_singleton.1 hu;rfl) (by unfold maxLen;omega) (by omega) hbs ?_);intro A2 c2 w2 ho2 hb2 hg2 h3 h4;have hD2:=hD1.own ho1 (by decide) (by decide) hg2;have hr2:=Rd.of_own ho2;have e2:sc os++[.string n]=sc (os++[n]):=by simp [sc]
 rw [e2] at hr2;have hlen:os.length+1=(os++[n]).length:=by simp
 have hb02:=hb1.trans hb2;obtain ⟨k0,k1,k2,k3,k4,k5⟩:=hD2.cells;obtain ⟨r,hr⟩: ∃r,r=rdD D (os++[n]):=⟨_,rfl⟩;have HR:=qI hr;have HL:=qI hlen;clear hr e2 hlen hr1 ho1 hD1 hb1 ho hb hb2 hg2
 by_cases hr0:r=0
 ·have HT:Hid (t=if (Z4 D.l n).isSome=true then 0 else 3):=by
   unfold Hid thD at*;rw [ht,←HR,hr0];simp
  clear ht;rcases hD2.find hO n hn with ⟨hl,hf,_⟩ | ⟨b,A,c,hl,hF,hc,hcm,hf,_⟩
  ·have HT2:Hid (t=3):=by unfold Hid at *; rw [HT,hl];rfl
   have hf0:=hf w2 rfl;clear hf HT;go_wp2_with ((go_at_call 107;refine (Z2x hD2 _ A2 (os++[n]) _ c2 HL.out hr2 (by simp;omega)).mono ?_;rw [←HR.out,hr0];rintro e w' ⟨rfl,rfl⟩));go_ret;rw [HT2.out];exact ⟨rfl,hb02,hD2⟩
  ·have HT2:Hid (t=0):=by unfold Hid at *; rw [HT,hl];rfl
   have hf0:=hf w2 rfl;clear hf HT;go_wp2_with ((go_at_call 107;refine (Z2x hD2 _ A2 (os++[n]) _ c2 HL.out hr2 (by simp;omega)).mono ?_;rw [←HR.out,hr0];rintro e w' ⟨rfl,rfl⟩));go_ret;rw [HT2.out];exact ⟨rfl,hb02,hD2⟩
 ·have HT:Hid (t=r):=by
   unfold Hid thD at*;rw [ht,←HR,if_pos hr0]
  have hq:(r==0)=false:=beq_eq_false_iff_ne.2 hr0;clear ht hr0;go_wp2_with ((go_at_call 107;refine (Z2x hD2 _ A2 (os++[n]) _ c2 HL.out hr2 (by simp;omega)).mono ?_;rw [←HR.out];rintro e w' ⟨rfl,rfl⟩));go_ret;rw [HT.out];exact ⟨rfl,hb02,hD2⟩
def Zci (w:World) (r:LU×Int) (e:Ending) (w':World):Prop:=
 ∃(l':LU) (A:OA) (c:Nat),Hid (l'=r.1)∧e= .returned (.tuple #[.slice A l'.length c,.int .i64 r.2])∧w'.ownsRow w.heap.size 5 1 (.slice A l'.length c) l'.length (bc l')∧Below w.heap.size w w'
theorem ZY (h:Dsk w g m D) (hO:InOrder D.l) (n:BA) (hL: ∀b,Z4 D.l n=some b→b.length≤140737488355328):
  Calls Tryz.prog 40 #[.pointer (some ⟨g,0,none⟩),.string n] w (Zci w (Zq D n)):=by
 have hb1:Below w.heap.size w (w.alloc (.cells #[.string n] 9)):=(bR _ _).alloc (lR _) _;have hD1:=h.below hb1;obtain ⟨k0,k1,k2,k3,k4,k5⟩:=hD1.cells;have hr1:Rd (w.alloc (.cells #[.string n] 9)) (w.heap.size+1) 1 (some ⟨w.heap.size,0,none⟩) [n].length (sc [n]):=Rd.new1 w 9 (.string n)
 cases hB:Z8 n with
 | false=>
  have HF:Hid (Zq D n=([],1)):=by unfold Hid Zq;rw [if_pos hB]
  have HB:Hid ([n].all Z8=false):=by unfold Hid;simp [hB]
  clear hB hL;go_in
  go_wp2_with (first
   | (go_at_call 88;refine (ZA h).mono ?_;rintro e w' ⟨rfl,rfl⟩)
   | (go_at_call 101;refine (Z0G _ _ [n] 1 _ hr1 (by simp)).mono ?_;rw [HB.out];rintro e w' ⟨rfl,rfl⟩))
  go_ret2;rw [HF.out];exact ⟨[],none,0,rfl,rfl,World.ownsRow_nil _ _ _ _,hb1⟩
 | true=>
  have hn:=Z05 hB;have HB:Hid ([n].all Z8=true):=by unfold Hid;simp [hB]
  rcases hD1.find hO n (by unfold maxLen;omega) with ⟨hl,hf,_⟩ | ⟨b,A,c,hl,hF,hc,hcm,hf,_⟩
  ·have HF:Hid (Zq D n=([],3)):=by unfold Hid Zq;rw [if_neg (by rw [hB];decide),hl.out]
   have hf0:=hf (w.alloc (.cells #[.string n] 9)) rfl;clear hf hB hL;go_in
   go_wp2_with (first
    | (go_at_call 88;refine (ZA h).mono ?_;rintro e w' ⟨rfl,rfl⟩)
    | (go_at_call 101;refine (Z0G _ _ [n] 1 _ hr1 (by simp)).mono ?_;rw [HB.out];rintro e w' ⟨rfl,rfl⟩))
   go_ret2;rw [HF.out];exact ⟨[],none,0,rfl,rfl,World.ownsRow_nil _ _ _ _,hb1⟩
  ·have HF:Hid (Zq D n=(b,0)):=by unfold Hid Zq;rw [if_neg (by rw [hB];decide),hl.out]
   have hb:=hL b hl.out;have hf0:=hf (w.alloc (.cells #[.string n] 9)) rfl;clear hf hB hL;go_in
   go_wp2_with (first
    | (go_at_call 88;refine (ZA h).mono ?_;rintro e w' ⟨rfl,rfl⟩)
    | (go_at_call 101;refine (Z0G _ _ [n] 1 _ hr1 (by simp)).mono ?_;rw [HB.out];rintro e w' ⟨rfl,rfl⟩)
    | (go_at_call 93;refine (Z35 _ A b b.length c rfl _ hF.1 hb).mono ?_;rintro e w2 ⟨l',A',c',he,rfl,ho,hb2,_,_⟩))
   go_ret2;rw [HF.out];exact ⟨l',A',c',he,rfl,ho.base (by simp),hb1.trans (hb2.mono (by simp))⟩
def newD (cap:Int):Dk:=⟨cap,[],0,-1,false⟩
theorem Z75 (cap:Int) (w:World) (h1:0≤cap) (h2:cap≤1099511627776):
  Calls Tryz.prog 38 #[.int .i64 cap] w fun e w'=> ∃g m,e= .returned (.tuple #[.pointer (some ⟨g,0,none⟩),.int .i64 0])∧Dsk w' g m (newD cap)∧w.heap.size≤g∧w.heap.size≤m∧Below w.heap.size w w':=by
 have d1:decide (cap<0)=false:=qF (by omega);have d2:decide (cap>1099511627776)=false:=qF (by omega);have d2':decide (1099511627776<cap)=false:=qF (by omega);have hmm:=@run_makeMap Tryz.prog;go_in;go_wp2_with fail;go_ret2;have hb1:Below w.heap.size w (w.alloc (.map #[] 0)):=(bR _ _).alloc (lR _) _;have hM:=MapL.new (P:=Tryz.prog) (k:=9) w;have e1:frD (newD cap)=cap:=by
  show IntKind.i64.wrap (cap-0)=cap
  rw [Int.sub_zero];exact qJ _ (by omega)
 have h:=Blk.new (w.alloc (.map #[] 0)) 145 (Z5K cap w.heap.size (frD (newD cap)) 0 (-1) false);rw [e1] at h;rw [World.size_alloc] at h;refine ⟨w.heap.size+1,w.heap.size,rfl,⟨[],?_,hM.alloc _,Fls.nil _⟩,Nat.le_succ _,lR _,hb1.alloc (by simp) _⟩;rw [e1];exact h
theorem Za8 (cap:Int) (w:World) (h:cap<0∨1099511627776<cap):
  Calls Tryz.prog 38 #[.int .i64 cap] w fun e w'=>e= .returned (.tuple #[.pointer none,.int .i64 1])∧w'=w:=by
 rcases h with h | h
 ·have d1:decide (cap<0)=true:=dT (by omega)
  go_in;go_wp2_with fail;go_ret2;exact ⟨rfl,rfl⟩
 ·have d1:decide (cap<0)=false:=qF (by omega)
  have d2:decide (cap>1099511627776)=true:=dT (by omega);have d2':decide (1099511627776<cap)=true:=dT (by omega);go_in;go_wp2_with fail;go_ret2;exact ⟨rfl,rfl⟩
def Z0C (w:World) (g m:Nat) (r:Int×Dk) (e:Ending) (w':World):Prop:=e= .returned (.int .i64 r.1)∧Dsk w' g m r.2∧Tw w w' g m
theorem Dsk.turn (h:Dsk w g m D) {D':Dk} (hl:D'.l=D.l) (hB':Blk w' g 145 (Z5K D'.cap m (frD D') D'.done D'.left D'.dark)) (hg:w.grownBy w' (some g)):Dsk w' g m D':=by
 obtain ⟨al,hB,hM,hF⟩:=h;refine ⟨al,hB',hM.grown hg (fun e=> ?_),?_⟩
 ·injection e with e
  exact hM.blk_ne hB e.symm
 ·rw [hl]
  exact hF.keep hg (Other.blk hB (by decide) (zL _))
theorem Z8x (h:Dsk w g m D) (k:Int):Calls Tryz.prog 25 #[.pointer (some ⟨g,0,none⟩),.int .i64 k] w (Z0C w g m (cutD D k)):=by
 obtain ⟨k0,k1,k2,k3,k4,k5⟩:=h.cells;have z4:=h.free 4
 by_cases hk:k<0
 ·have d1:decide (k<0)=true:=dT hk
  have HF:Hid (cutD D k=(1,D)):=if_pos hk;clear hk;go_in;go_wp2_with (go_at_call 88;refine (ZA h).mono ?_;rintro e w' ⟨rfl,hw⟩;obtain rfl:=hw.symm);go_ret;rw [HF.out];exact ⟨rfl,h,Tw.refl _ _ _⟩
 ·have d1:decide (k<0)=false:=qF hk
  cases hd:D.dark with
  | true=>
   have HF:Hid (cutD D k=(0,D)):=by unfold Hid cutD;rw [if_neg hk,if_pos hd]
   rw [hd] at k5;clear hk;go_in;go_wp2_with (go_at_call 88;refine (ZA h).mono ?_;rintro e w' ⟨rfl,hw⟩;obtain rfl:=hw.symm);go_ret;rw [HF.out];exact ⟨rfl,h,Tw.refl _ _ _⟩
  | false=>
   have HF:Hid (cutD D k=(0,{ D with left:=k })):=by unfold Hid cutD;rw [if_neg hk,if_neg (by rw [hd];decide)]
   rw [hd] at k5;clear hk;go_in;go_wp2_with (go_at_call 88;refine (ZA h).mono ?_;rintro e w' ⟨rfl,hw⟩;obtain rfl:=hw.symm);go_ret;rw [HF.out];have hg:w.grownBy (w.setCell ⟨g,4,none⟩ (.int .i64 k)) (some g):=Z0 (gR w _) 4 _;obtain ⟨al,hB,_⟩:=id h;exact ⟨rfl,h.turn (D':={ D with left:=k }) rfl (hB.set 4 _) hg,Tw.grown hg⟩
theorem ZdB (h:Dsk w g m D):Calls Tryz.prog 27 #[.pointer (some ⟨g,0,none⟩)] w fun e w'=>e= .returned (.tuple #[])∧Dsk w' g m (onD D)∧Tw w w' g m:=by
 obtain ⟨k0,k1,k2,k3,k4,k5⟩:=h.cells;have z4:=h.free 4;have z5:=h.free 5;go_in;go_wp2_with (go_at_call 88;refine (ZA h).mono ?_;rintro e w' ⟨rfl,hw⟩;obtain rfl:=hw.symm);go_end0;have hg:w.grownBy ((w.setCell ⟨g,5,none⟩ (.bool false)).setCell ⟨g,4,none⟩ (.int .i64 (-1))) (some g):=Z0 (Z0 (gR w _) 5 _) 4 _;obtain ⟨al,hB,_⟩:=id h;exact ⟨rfl,h.turn (D':=onD D) rfl ((hB.set 5 _).set 4 _) hg,Tw.grown hg⟩
end
end Go.Proofs.YtecpbcmpncgokaaGreat
set_option linter.unusedVariables false
namespace Go.Dol
open Go.RowKit
structure OkD (D:Dk):Prop where
 ord:InOrder D.l
 cap0:0≤D.cap
 cap1:D.cap≤1099511627776
 room:Zo D.l≤D.cap
 left0: -1≤D.left
 left1:D.left≤9223372036854775807
 names: ∀f∈D.l,Z8 f.1=true
theorem ZeY {x:Int} (h: -9223372036854775808≤x) (h2:x≤9223372036854775807):IntKind.i64.wrap x=x:=qJ _ ⟨h,h2⟩
theorem Z3J (x y:Int):IntKind.i64.wrap (IntKind.i64.wrap x-y)=IntKind.i64.wrap (x-y):=by
 simp only [IntKind.wrap,IntKind.bits,IntKind.signed];simp;split<;>split<;>split<;>omega
theorem OkD.free {D:Dk} (h:OkD D):frD D=D.cap-Zo D.l:=by
 have h1:=Z5g D.l;have h2:=h.cap1;have h3:=h.room;exact ZeY (by omega) (by omega)
theorem Z2O {D D':Dk} {more:Int} (hc:D'.cap=D.cap) (hl:Zo D'.l=Zo D.l+more):frD D'=IntKind.i64.wrap (frD D-more):=by
 unfold frD;rw [Z3J,hc,hl]
 congr 1
 omega
theorem OkD.look {D:Dk} (h:OkD D) {n:BA} {b:LU} (hb:Z4 D.l n=some b):16+(n.size:Int)+b.length≤D.cap:=by
 have h1:=Z39 hb;have h2:=Z5g (Zi D.l n);have h3:=h.room;unfold Z2n at h1;simp only at h1;omega
theorem Z1z {l:List Fil} (h:InOrder l) (n:BA) (b:LU):Zo (putF l n b)=Zo l+(match Z4 l n with | none=>16+(n.size:Int)+b.length | some c=>(b.length:Int)-c.length):=by
 rw [Z8B]
 cases hn:Z4 l n with
 | none=>
  rw [Z0h hn];unfold Z2n;simp only;omega
 | some c=>
  have:=Z39 hn;unfold Z2n at this ⊢;simp only at this ⊢;omega
theorem Z3K {l:List Fil} {n:BA} {b:LU} (h:Z4 l n=some b):Zo (Zi l n)=Zo l-(16+(n.size:Int)+b.length):=by
 have:=Z39 h;unfold Z2n at this;simp only at this;omega
theorem Z2P {l:List Fil} (h: ∀f∈l,Z8 f.1=true) {n:BA} (hn:Z8 n=true) (b:LU): ∀f∈putF l n b,Z8 f.1=true:=by
 intro f hf;rcases Z38 f hf with e | hm
 ·rw [e]
  exact hn
 ·exact h f hm
theorem Z36 {l:List Fil} (h: ∀f∈l,Z8 f.1=true) (n:BA): ∀f∈Zi l n,Z8 f.1=true:=fun f hf=>h f (Z2R f hf)
theorem OkD.spend {D:Dk} (h:OkD D) {l':List Fil} (h1:InOrder l') (h2:Zo l'≤D.cap) (h3: ∀f∈l',Z8 f.1=true):OkD (Zw D l').2:=by
 have a0:=h.left0;have a1:=h.left1;unfold Zw;split
 ·exact ⟨h.ord,h.cap0,h.cap1,h.room,by simp,by simp,h.names⟩
 ·refine ⟨h1,h.cap0,h.cap1,h2,?_,?_,h3⟩<;>simp only<;>split<;>omega
theorem OkD.app {D:Dk} (h:OkD D) (n:BA) (b:LU):OkD (appD D n b).2:=by
 unfold appD;split
 ·exact h
 ·rename_i h1
  split
  ·exact h
  ·unfold Z1c
   split
   ·exact h
   ·rename_i h3
    have hn:Z8 n=true:=by
     cases hB:Z8 n with
     | true=>rfl
     | false=>exact absurd (.inr hB) h1
    refine h.spend (Z0g h.ord) ?_ (Z2P h.names hn _);rw [h.free] at h3;have hp:=Z1z h.ord n ((Z4 D.l n).getD []++b);have hr:=h.room;unfold ZX at h3
    cases hl:Z4 D.l n with
    | none=>
     rw [hl] at hp h3;simp only [Option.getD_none,List.nil_append] at hp h3 ⊢;rw [hp];omega
    | some c=>
     rw [hl] at hp h3;simp only [Option.getD_some,List.length_append] at hp h3 ⊢;rw [hp];omega
theorem OkD.rem {D:Dk} (h:OkD D) (n:BA):OkD (remD D n).2:=by
 unfold remD;split
 ·exact h
 ·refine h.spend (ZI h.ord) ?_ (Z36 h.names n)
  have hr:=h.room
  cases hl:Z4 D.l n with
  | none=>rw [Z0h hl];exact hr
  | some b=>have:=Z3K hl;omega
theorem OkD.sync {D:Dk} (h:OkD D) (n:BA):OkD (ZM D n).2:=by
 unfold ZM;split
 ·exact h
 ·exact h.spend h.ord h.room h.names
theorem Z1A {D:Dk} {n:BA} (h:ZZ D n=0):Z8 n=true∧D.dark=false∧ ∃b,Z4 D.l n=some b:=by
 unfold ZZ at h
 cases hB:Z8 n with
 | false=>rw [if_pos hB] at h;cases h
 | true=>
  cases hd:D.dark with
  | true=>rw [if_neg (by rw [hB];decide),if_pos hd] at h;cases h
  | false=>
   rw [if_neg (by rw [hB];decide),if_neg (by rw [hd];decide)] at h
   cases hl:Z4 D.l n with
   | none=>rw [hl] at h;cases h
   | some b=>exact ⟨rfl,rfl,b,rfl⟩
def Z1N (D:Dk) (a b:BA):Int:=if a=b then 0 else (b.size:Int)-a.size-(match Z4 D.l b with | none=>0 | some c=>16+(b.size:Int)+c.length)
theorem Z8y {D:Dk} (h:InOrder D.l) {a b:BA} {c:LU} (ha:Z4 D.l a=some c):Zo (putF (Zi D.l a) b c)=Zo D.l+Z1N D a b:=by
 have h1:=Z1z (ZI (n:=a) h) b c;have h2:=Z3K ha;rw [h1,h2,Z1b h];unfold Z1N
 by_cases hab:a=b
 ·subst hab
  rw [if_pos rfl,if_pos rfl];simp only;omega
 ·rw [if_neg (fun e=>hab e.symm),if_neg hab]
  cases Z4 D.l b with
  | none=>simp only;omega
  | some d=>simp only;omega
theorem Za9 {D:Dk} {a b:BA} {c:LU} (ha:Z4 D.l a=some c) (hb:Z8 b=true) (hna:Z8 a=true):
  (0<Z1N D a b∧frD D<Z1N D a b)↔(0<Z1O D a b∧frD D<Z1O D a b):=by
 have hb1:b.size≤200:=by
  unfold Z8 at hb;simp only [Bool.and_eq_true,decide_eq_true_eq] at hb;exact hb.1.2
 unfold Z1N Z1O
 by_cases hab:a=b
 ·subst hab
  rw [if_pos rfl,ha]
 ·rw [if_neg hab]
  cases hl:Z4 D.l b with
  | none=>simp only;omega
  | some d=>simp only;omega
theorem OkD.ren {D:Dk} (h:OkD D) (a b:BA):OkD (renD D a b).2:=by
 unfold renD;split
 ·exact h
 ·rename_i h1
  split
  ·exact h
  ·rename_i h2
   obtain ⟨hna,_,c,hc⟩:=Z1A (Decidable.not_not.1 h2);have hnb:Z8 b=true:=by
    cases hB:Z8 b with
    | true=>rfl
    | false=>exact absurd (.inr hB) h1
   unfold Z1c;split
   ·exact h
   ·rename_i h3
    rw [hc,Option.getD_some];refine h.spend (Z0g (ZI h.ord)) ?_ (Z2P (Z36 h.names a) hnb _);rw [←Za9 hc hnb hna,h.free] at h3;have:=Z8y h.ord (b:=b) hc;have hr:=h.room;omega
structure OkG (L B:Nat) (D:Dk):Prop where
 ord:InOrder D.l
 cap0:0≤D.cap
 cap1:D.cap≤1099511627776
 left0: -1≤D.left
 left1:D.left≤9223372036854775807
 names: ∀f∈D.l,Z8 f.1=true
 len:D.l.length≤L
 bytes: ∀f∈D.l,f.2.length≤B
abbrev OkW (D:Dk):Prop:=OkG 3518437208880 140737488355264 D
theorem OkW.small {D:Dk} (h:OkW D) {n:BA} {b:LU} (hb:Z4 D.l n=some b):b.length≤140737488355264:=h.bytes _ ((Zu h.ord).1 hb)
theorem OkW.small' {D:Dk} (h:OkW D) {n:BA} {b:LU} (hb:Z4 D.l n=some b):b.length≤140737488355328:=by have:=h.small hb;omega
theorem OkW.named {D:Dk} (h:OkW D) {n:BA} {b:LU} (hb:Z4 D.l n=some b):Z8 n=true:=h.names _ ((Zu h.ord).1 hb)
theorem OkD.toW {D:Dk} (h:OkD D):OkW D:=by
 have h1: ∀l:List Fil,16*(l.length:Int)≤Zo l:=by
  intro l
  induction l with
  | nil=>show (16*0:Int)≤0;omega
  | cons f r ih=>have:=Z8A f;simp only [Zo,List.length_cons];omega
 have h2:=h1 D.l;have h3:=h.room;have h4:=h.cap1;refine ⟨h.ord,h.cap0,h.cap1,h.left0,h.left1,h.names,by omega,fun f hf=> ?_⟩;have h5:=h.look ((Zu h.ord).2 (by exact hf):Z4 D.l f.1=some f.2);omega
instance {D:Dk}:Coe (OkD D) (OkW D):=⟨OkD.toW⟩
end Go.Dol
