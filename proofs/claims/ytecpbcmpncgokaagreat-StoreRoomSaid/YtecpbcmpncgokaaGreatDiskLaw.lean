/- The walks of the layer 'disk', its second part: what is asked of a disk that no write turns. Conditions: names below 2^63, lengths below 2^47. The walks of the library's functions that copy bytes: slices.Clone, slices.Grow (of nil), slices.Concat. Conditions: bytes that are made fit 2^47. The walks of the layer 'disk', its third part: may a file that is there be touched; reading; a new disk; the power. Conditions: lengths below 2^47. What keeps a disk in good order, in plain Lean. No program is in sight. Conditions: none beyond what each lemma names. -/
import Derived.Test.YtecpbcmpncgokaaGreatDisk2
import Derived.Test.YtecpbcmpncgokaaGreatWordsA
import Derived.Laws.Cover3
import Derived.Test.YtecpbcmpncgokaaGreatShort
import Derived.Lib.AppendZerosOnto
set_option maxRecDepth 100000
set_option maxHeartbeats 800000
set_option linter.unusedVariables false
namespace Go.Dol
open Go.RowKit
def rdD (D:Dk) (ns:List BA):Int:=if ns.all Z4=false then 1 else if D.dark=true then 5 else 0
def thD (D:Dk) (ns:List BA) (n:BA):Int:=if rdD D (ns++[n])≠0 then rdD D (ns++[n]) else if (Z1 D.l n).isSome=true then 0 else 3
def Z2g (D:Dk) (n:BA):Int:=match Z1 D.l n with | none=>0 | some b=>16+n.size+b.length
theorem Zdd (x:Int):IntKind.i64.wrap (IntKind.i64.wrap x)=IntKind.i64.wrap x:=by
 simp only [IntKind.wrap,IntKind.bits,IntKind.signed];simp;split<;>split<;>omega
theorem Z03 {n:BA} (h:Z4 n=true):n.size≤200:=by
 unfold Z4 at h;simp only [Bool.and_eq_true,decide_eq_true_eq] at h;exact h.1.2
end Go.Dol
namespace Go.Proofs.YtecpbcmpncgokaaGreat
open Go.RowKit Go.Dol
theorem Zgg:(Tryz.prog.info? 9).map (fun i=>(i.zero,i.size,i.bytes))=some (some (.string ⟨#[]⟩),1,16):=by kernel_rfl
theorem Zgh (m:Nat) (w:World):(binOp .neq 140 (.map (some m)) (.map none)).run Tryz.prog w= .ok (.bool true) w:=run_neq_map_nil w _ _ _ _ Tryz.underlying140
theorem Dsk.cells {w:World} {g m:Nat} {D:Dk} (h:Dsk w g m D):w.cell? ⟨g,0,none⟩=some (.int .i64 D.cap)∧w.cell? ⟨g,1,none⟩=some (.map (some m))∧w.cell? ⟨g,2,none⟩=some (.int .i64 (frD D))∧
  w.cell? ⟨g,3,none⟩=some (.int .i64 (opsD D.done))∧w.cell? ⟨g,4,none⟩=some (.int .i64 D.left)∧w.cell? ⟨g,5,none⟩=some (.bool D.dark):=by
 obtain ⟨al,hB,_⟩:=h;exact ⟨by rw [hB.cell];rfl,by rw [hB.cell];rfl,by rw [hB.cell];rfl,by rw [hB.cell];rfl,by rw [hB.cell];rfl,by rw [hB.cell];rfl⟩
theorem Dsk.free {w:World} {g m:Nat} {D:Dk} (h:Dsk w g m D) (i:Nat):w.frozen? ⟨g,i,none⟩=false:=by
 obtain ⟨al,hB,_⟩:=h;exact hB.free i
section
variable {w:World} {g m:Nat} {D:Dk}
theorem Z04 (h:Dsk w g m D):Calls Tryz.prog 88 #[.pointer (some ⟨g,0,none⟩)] w fun e w'=>e= .returned (.bool true)∧w'=w:=by
 obtain ⟨k0,k1,k2,k3,k4,k5⟩:=h.cells;have hm:=Zgh m w;go_in;go_wp2_with fail;go_ret;exact ⟨rfl,rfl⟩
theorem Z2w (h:Dsk w g m D) (B:Nat) (A:OA) (ns:List BA) (n c:Nat) (hn:n=ns.length) (hr:Rd w B 1 A n (sc ns)) (hl:ns.length≤140737488355328):
  Calls Tryz.prog 107 #[.pointer (some ⟨g,0,none⟩),.slice A n c] w fun e w'=>e= .returned (.int .i64 (rdD D ns))∧w'=w:=by
 subst hn;obtain ⟨k0,k1,k2,k3,k4,k5⟩:=h.cells;obtain ⟨r,hr0⟩: ∃r,r=rdD D ns:=⟨_,rfl⟩;rw [←hr0]
 cases hB:ns.all Z4 with
 | false=>
  have HF:Hid (r=1):=by unfold Hid rdD at *; rw [hr0,if_pos hB]
  clear hr0;have HB:=qI hB;clear hB;go_in
  go_wp2_with (first
   | (go_at_call 88;refine (Z04 h).mono ?_;rintro e w' ⟨rfl,rfl⟩)
   | (go_at_call 101;refine (Z0J B A ns c _ hr hl).mono ?_;rw [HB.out];rintro e w' ⟨rfl,rfl⟩))
  go_ret;rw [HF.out];exact ⟨rfl,rfl⟩
 | true=>
  cases hd:D.dark with
  | true=>
   have HF:Hid (r=5):=by unfold Hid rdD at *; rw [hr0,if_neg (by rw [hB];decide),if_pos hd]
   have HB:=qI hB;clear hr0 hB;rw [hd] at k5;go_in
   go_wp2_with (first
    | (go_at_call 88;refine (Z04 h).mono ?_;rintro e w' ⟨rfl,rfl⟩)
    | (go_at_call 101;refine (Z0J B A ns c _ hr hl).mono ?_;rw [HB.out];rintro e w' ⟨rfl,rfl⟩))
   go_ret;rw [HF.out];exact ⟨rfl,rfl⟩
  | false=>
   have HF:Hid (r=0):=by unfold Hid rdD at *; rw [hr0,if_neg (by rw [hB];decide),if_neg (by rw [hd];decide)]
   have HB:=qI hB;clear hr0 hB;rw [hd] at k5;go_in
   go_wp2_with (first
    | (go_at_call 88;refine (Z04 h).mono ?_;rintro e w' ⟨rfl,rfl⟩)
    | (go_at_call 101;refine (Z0J B A ns c _ hr hl).mono ?_;rw [HB.out];rintro e w' ⟨rfl,rfl⟩))
   go_ret;rw [HF.out];exact ⟨rfl,rfl⟩
theorem Z7v (h:Dsk w g m D) (hO:InOrder D.l) (n:BA) (hn:n.size≤140737488355328) (hL: ∀b,Z1 D.l n=some b→b.length≤140737488355328):
  Calls Tryz.prog 105 #[.pointer (some ⟨g,0,none⟩),.string n] w fun e w'=>e= .returned (.int .i64 (Z2g D n))∧w'=w:=by
 obtain ⟨k0,k1,k2,k3,k4,k5⟩:=h.cells;have hnm:n.size≤maxLen:=by unfold maxLen;omega
 rcases h.find hO n hnm with ⟨hl,hf,_⟩ | ⟨b,A,c,hl,hF,hc,hcm,hf,_⟩
 ·have HF:Hid (Z2g D n=0):=by unfold Hid Z2g;rw [hl.out]
  have hf0:=hf w rfl;clear hf;go_in;go_wp2_with fail;go_ret;rw [HF.out];exact ⟨rfl,rfl⟩
 ·have HF:Hid (Z2g D n=16+n.size+b.length):=by unfold Hid Z2g;rw [hl.out]
  have hb:=hL b hl.out;have f1:IntKind.i64.wrap (16+(n.size:Int))=16+(n.size:Int):=qJ _ (by omega);have f2:IntKind.i64.wrap (16+(n.size:Int)+(b.length:Int))=16+(n.size:Int)+(b.length:Int):=qJ _ (by omega);have hf0:=hf w rfl;clear hf hL;go_in;go_wp2_with fail;go_ret;rw [HF.out];exact ⟨rfl,rfl⟩
theorem Z0n (h:Dsk w g m D) (hO:InOrder D.l) (n:BA) (hn:n.size≤maxLen):
  Calls Tryz.prog 116 #[.pointer (some ⟨g,0,none⟩),.string n] w fun e w'=>e= .returned (.bool (Z1 D.l n).isSome)∧w'=w:=by
 obtain ⟨k0,k1,k2,k3,k4,k5⟩:=h.cells;rcases h.find hO n hn with ⟨hl,hf,_⟩ | ⟨b,A,c,hl,hF,hc,hcm,hf,_⟩
 ·have hf0:=hf w rfl
  clear hf;go_in;go_wp2_with (go_at_call 88;refine (Z04 h).mono ?_;rintro e w' ⟨rfl,rfl⟩);go_ret;rw [hl.out];exact ⟨rfl,rfl⟩
 ·have hf0:=hf w rfl
  clear hf;go_in;go_wp2_with (go_at_call 88;refine (Z04 h).mono ?_;rintro e w' ⟨rfl,rfl⟩);go_ret;rw [hl.out];exact ⟨rfl,rfl⟩
theorem Z32 (h:Dsk w g m D):Calls Tryz.prog 163 #[.pointer (some ⟨g,0,none⟩)] w fun e w'=>e= .returned (.int .i64 (frD D))∧w'=w:=by
 obtain ⟨k0,k1,k2,k3,k4,k5⟩:=h.cells;go_in;go_wp2_with (go_at_call 88;refine (Z04 h).mono ?_;rintro e w' ⟨rfl,rfl⟩);go_ret;exact ⟨rfl,rfl⟩
theorem Z28 (h:Dsk w g m D):Calls Tryz.prog 162 #[.pointer (some ⟨g,0,none⟩)] w fun e w'=>e= .returned (.bool D.dark)∧w'=w:=by
 obtain ⟨k0,k1,k2,k3,k4,k5⟩:=h.cells;go_in;go_wp2_with (go_at_call 88;refine (Z04 h).mono ?_;rintro e w' ⟨rfl,rfl⟩);go_ret;exact ⟨rfl,rfl⟩
theorem Z5X (h:Dsk w g m D):Calls Tryz.prog 29 #[.pointer (some ⟨g,0,none⟩)] w fun e w'=>e= .returned (.int .i64 (opsD D.done))∧w'=w:=by
 obtain ⟨k0,k1,k2,k3,k4,k5⟩:=h.cells;have hL:Calls Tryz.prog 89 #[.pointer (some ⟨g,3,none⟩)] w fun e w'=>e= .returned (.int .i64 (opsD D.done))∧w'=w:=by
  have hl:=run_call_load (P:=Tryz.prog) Tryz.func156 (by kernel_rfl) (by kernel_rfl) (by kernel_rfl) .i64 (by kernel_rfl) k3;go_in;go_wp2_with fail;go_ret;exact ⟨rfl,rfl⟩
 have hcv: ∀x:Nat,(convert 2 3 (.int .i64 (opsD x))).run Tryz.prog w= .ok (.int .i64 (opsD x)) w:=fun x=>by unfold opsD;simp [go_sem,Zdd]
 go_in
 go_wp2_with (first
  | (go_at_call 88;refine (Z04 h).mono ?_;rintro e w' ⟨rfl,rfl⟩)
  | (go_at_call 89;refine hL.mono ?_;rintro e w' ⟨rfl,rfl⟩))
 go_ret;exact ⟨rfl,rfl⟩
end
end Go.Proofs.YtecpbcmpncgokaaGreat
set_option maxRecDepth 100000
set_option maxHeartbeats 1600000
set_option linter.unusedVariables false
namespace Go.Proofs.YtecpbcmpncgokaaGreat
open Go.RowKit Go.Dol
theorem Z33 (B:Nat) (A:OA) (l:LU) (n c:Nat) (hn:n=l.length) (w:World) (hr:Rd w B 1 A n (bc l)) (hl:n≤140737488355328):
  Calls Tryz.prog 93 #[.slice A n c] w (RetB 5 w l):=by
 have hq:=ZeW w A n c
 cases A with
 | none=>
  have h0:=hr.none_zero;have HL:Hid (l=[]):=nZ (by omega);clear hr hn;subst h0;have hq0:(binOp .eql 36 (.slice none 0 c) (.slice none 0 0)).run Tryz.prog w= .ok (.bool true) w:=hq;clear hq;go_in;go_wp2_with fail;go_ret;exact ⟨[],none,0,HL.out.symm,rfl,World.ownsRow_nil _ _ _ _,bR _ _,lR _,zL _⟩
 | some a=>
  have hq0:(binOp .eql 36 (.slice (some a) n c) (.slice none 0 0)).run Tryz.prog w= .ok (.bool false) w:=hq;have hb0:Below w.heap.size w (w.alloc (.cells #[] 5)):=(bR _ _).alloc (lR _) _;have ho:=Z6q w;have hr1:=(hr.more (Nat.le_max_left B 0)).more (lR _);have hr2:Rd (w.alloc (.cells #[] 5)) (w.alloc (.cells #[] 5)).heap.size 1 (some a) n (bc l):=by
   refine ⟨hr.len,fun h0=> ?_⟩;obtain ⟨b,off,e,hb,hcell⟩:=hr.at_ h0;have h1:=hcell 0 _ (Z0s l 0 (by omega));have hlt:b<w.heap.size:=by
    rcases Nat.lt_or_ge b w.heap.size with h | h
    ·exact h
    ·rw [World.cell?,Array.getElem?_eq_none h] at h1
     cases h1
   refine ⟨b,off,e,by simp;omega,fun j u hu=> ?_⟩;rw [World.cell?_alloc_lt _ _ _ hlt];exact hcell j u hu
  clear hq hr1 hr hn;go_in;go_wp2_with (at_builtin;refine app8 rfl (.tmp 5) (.tmp 6) rfl w.heap.size _ 0 [] rfl ho _ (some a) n c l rfl hr2 (by omega) (by simp) ?_);intro l' A' c' w' he ho' hb' hg' _ h1 h2;go_wp2_with fail;go_ret;exact ⟨l',A',c',he,rfl,ho',hb0.trans hb',h1,h2⟩
theorem Z8L (k:Nat) (w:World) (hk:k≤140737488355328):
  Calls Tryz.prog 174 #[.slice none 0 0,.int .i64 (k:Nat)] w fun e w'=> ∃(A:OA) (c:Nat),e= .returned (.slice A 0 c)∧w'.ownsRow w.heap.size 5 1 (.slice A 0 c) 0 (bc [])∧Below w.heap.size w w':=by
 have d1:decide ((k:Int)<0)=false:=qF (by omega);have f1:IntKind.i64.wrap ((k:Int)-0)=k:=qJ _ (by omega);rcases Nat.eq_zero_or_pos k with h0 | h0
 ·have hK:=qI h0
  have d2:decide ((k:Int)>0)=false:=qF (by omega);have d2':decide ((0:Int)<(k:Int))=false:=qF (by omega);have d2n:decide (0<k)=false:=qF (by omega);clear h0;go_in;go_wp2_with fail;go_ret;exact ⟨none,0,rfl,World.ownsRow_nil _ _ _ _,bR _ _⟩
 ·have d2:decide ((k:Int)>0)=true:=dT (by omega)
  have d2':decide ((0:Int)<(k:Int))=true:=dT (by omega);have d2n:decide (0<k)=true:=dT h0;obtain ⟨i0,hi,hz0,hz1,hz2⟩:=info_parts Z1q;have hold:(Builtin.firstCells i0.size 0 (.slice none 0 0)).run Tryz.prog w.drew= .ok (#[]:Array Value) w.drew:=by rw [hz1];simp [Builtin.firstCells]
  have hfit:=growslice_fits (need:=0+k) (old:=0) (by omega) (show (0+k)*1≤140737488355328 by omega);have hr:=Lib.run_append_grow_zeros (P:=Tryz.prog) (ty:=36) w 36 3 5 i0 _ .i64 .i64 Tryz.underlying36 Tryz.underlying3 hi hz0 none 0 0 [] hold k h0 (by omega) (by omega) (by omega) (by rw [hz2];omega) (by rw [hz2];exact hfit);have hge:=grownCap_ge w (0+k) 0 5;have hcm:grownCap w (0+k) 0 5≤maxLen:=grownCap_le_maxLen w (0+k) 0 5 (by unfold maxLen;omega);obtain ⟨C,hC⟩: ∃C,C=grownCap w (0+k) 0 5:=⟨_,rfl⟩;rw [←hC] at hr hge hcm;obtain ⟨cs,hcs⟩: ∃cs,cs=(([]:List Value).toArray++Builtin.zeroCells (Value.int .u8 0).cells k++Builtin.zeroCells (Value.int .u8 0).cells (C-(0+k))):=⟨_,rfl⟩;rw [←hcs] at hr;have hsz:cs.size=C:=by rw [hcs];simp [Builtin.zeroCells,Value.cells];omega
  have hsl:(Instr.sliceAt 36 (.slice (some ⟨w.heap.size,0,none⟩) (0+k) C) none (some (.int .i64 0)) none).run Tryz.prog (w.drew.alloc (.cells cs 5))= .ok (.slice (some ⟨w.heap.size,0,none⟩) 0 C) (w.drew.alloc (.cells cs 5)):=by
   rw [run_sliceAt_slice _ _ _ _ _ _ (by kernel_rfl),run_slice_h _ _ _ _ _ (by kernel_rfl) _ _ (by omega) (by omega),Z7h];simp [sliced,Result.andThen,Addr.add]
  clear hC hcs hold hfit;go_in;go_wp2_with (at_builtin;refine Lib.wpList_append_run w rfl _ _ _ _ rfl _ _ rfl rfl _ _ hr ?_);go_ret;refine ⟨_,_,rfl,⟨by simp [bc],.inr ⟨w.heap.size,C,cs,rfl,lR _,?_,zL _,hcm,by omega,by simp [bc]⟩⟩,((bR _ _).alloc (lR _) _).drew⟩;exact heap_alloc_new w _
def catc (ls:List (LU×OA×Nat)):List Value:=ls.map fun x=> .slice x.2.1 x.1.length x.2.2
def catL (ls:List (LU×OA×Nat)):LU:=ls.flatMap (·.1)
theorem Z4k {ls:List (LU×OA×Nat)} {k:Nat} {x:LU×OA×Nat} (h:ls[k]?=some x):catL (ls.take (k+1))=catL (ls.take k)++x.1:=by
 unfold catL;rw [List.take_add_one,h,List.flatMap_append];simp
theorem Z79 (ls:List (LU×OA×Nat)) (k:Nat):(catL (ls.take k)).length≤(catL ls).length:=by
 unfold catL
 conv=>rhs;rw [←List.take_append_drop k ls]
 rw [List.flatMap_append,List.length_append];omega
def ZjF (ls:List (LU×OA×Nat)) (w:World) (z i:Value) (wr:World):Prop:=∃ k s:Nat,z= .int .i64 s∧i= .int .i64 k∧k≤ls.length∧Hid (s=(catL (ls.take k)).length)∧w=wr
def ZiW (ls:List (LU×OA×Nat)) (w:World) (z i:Value) (wr:World):Prop:=
 ∃(k:Nat) (l1:LU) (A1:OA) (c1:Nat),z= .slice A1 l1.length c1∧i= .int .i64 k∧k≤ls.length∧wr.ownsRow w.heap.size 5 1 (.slice A1 l1.length c1) l1.length (bc l1)∧Hid (l1=catL (ls.take k))∧Below w.heap.size w wr
theorem Zal (A:OA) (ls:List (LU×OA×Nat)) (n c:Nat) (hn:n=ls.length) (w:World) (hr:Rd w w.heap.size 1 A n (catc ls)) (hl:(catL ls).length≤140737488355328) (hnl:n≤140737488355328)
  (hR:Hid (∀x∈ls,Rd w w.heap.size 1 x.2.1 x.1.length (bc x.1))):
  Calls Tryz.prog 109 #[.slice A n c] w (RetB 5 w (catL ls)):=by
 have HN:=qI hn;clear hn;go_in;go_wp2_with fail;go_loopw [3,11] (fun z i wr=>ZjF ls w z i wr) (fun _ i _=>n-(intOf i).toNat)
 case atStart=>exact ⟨0,0,rfl,rfl,zL _,qI rfl,rfl⟩
 case round=>
  obtain ⟨k,s,rfl,rfl,hk,hs,rfl⟩:=hrel;have hkn:k≤n:=by rw [HN.out];exact hk
  have hsl:s≤(catL ls).length:=by rw [hs.out];exact Z79 ls k
  by_cases hlt:k<n
  ·have hd:decide ((k:Int)<(n:Int))=true:=dT (by omega)
   obtain ⟨b,off,rfl,hb,hcell⟩:=hr.at_ (by omega);have hlt2:k<ls.length:=by rw [←HN.out];exact hlt
   obtain ⟨x,hx⟩: ∃x,ls[k]?=some x:=⟨ls[k],gE hlt2⟩;obtain ⟨lx,Ax,cx⟩:=x;have hx1:(catc ls)[k]?=some (.slice Ax lx.length cx):=by simp [catc,hx]
   have k1:=hcell k _ hx1;have hsx:s+lx.length≤(catL ls).length:=by
    have h1:=Z79 ls (k+1);rw [Z4k hx,List.length_append,←hs.out] at h1;exact h1
   have f1:IntKind.i64.wrap ((s:Int)+(lx.length:Int))=((s+lx.length:Nat):Int):=by rw [qJ _ (by omega)];omega
   have d1:decide (((s+lx.length:Nat):Int)<0)=false:=qF (by omega);have HX:=qI hx;clear hx hx1 hcell hr;go_wp2_with fail;refine ⟨⟨k+1,s+lx.length,rfl,by go_num,by omega,qI ?_,rfl⟩,by simp [intOf];omega⟩;rw [Z4k HX.out,List.length_append,←hs.out]
  ·have hd:decide ((k:Int)<(n:Int))=false:=qF (by omega)
   have hs2:Hid (s=(catL ls).length):=by
    have h1:=hs.out;rw [List.take_of_length_le (by rw [←HN.out];omega)] at h1;exact h1
   have hs47:s≤140737488355328:=by omega
   go_wp2_with fail;refine (Z8L s _ (by omega)).mono ?_;rintro e w1 ⟨A1,c1,rfl,ho,hb1⟩;go_wp2_with fail;have hw1:=hb1.size;go_loopw [6,27] (fun z i wr=>ZiW ls w z i wr) (fun _ i _=>n-(intOf i).toNat)
   case atStart=>exact ⟨0,[],A1,c1,rfl,rfl,zL _,ho,qI rfl,hb1⟩
   case round=>
    clear ho hb1;obtain ⟨k',l1,A2,c2,rfl,rfl,hk',ho,hl1,hbl⟩:=hrel;have hkn':k'≤n:=by rw [HN.out];exact hk'
    have hs1:=hbl.size;have hl1l:l1.length≤(catL ls).length:=by rw [hl1.out];exact Z79 ls k'
    by_cases hlt:k'<n
    ·have hd:decide ((k':Int)<(n:Int))=true:=dT (by omega)
     have hr2:=hr.belowW hbl (lR _);obtain ⟨b,off,rfl,hb,hcell⟩:=hr2.at_ (by omega);have hlt2:k'<ls.length:=by rw [←HN.out];exact hlt
     obtain ⟨x,hx⟩: ∃x,ls[k']?=some x:=⟨ls[k'],gE hlt2⟩;obtain ⟨lx,Ax,cx⟩:=x;have hx1:(catc ls)[k']?=some (.slice Ax lx.length cx):=by simp [catc,hx]
     have k1:=hcell k' _ hx1;have hrx:=(hR.out _ (List.mem_of_getElem? hx)).belowW hbl (lR _);have hsx:l1.length+lx.length≤(catL ls).length:=by
      have h1:=Z79 ls (k'+1);rw [Z4k hx,List.length_append,←hl1.out] at h1;exact h1
     have hsx2:l1.length+lx.length≤140737488355328:=by omega
     have HX:=qI hx;clear hx hx1 hcell hr hr2;go_wp2_with (at_builtin;refine app8 rfl (.tmp 31) (.tmp 32) rfl w.heap.size _ l1.length l1 rfl ho _ Ax lx.length cx lx rfl hrx hsx2 hs1 ?_);intro l' A' c' w' he ho' hb' hg' _ h1 h2;go_wp2_with fail;refine ⟨⟨k'+1,l',A',c',rfl,by go_num,by omega,ho',qI ?_,hbl.trans hb'⟩,by simp [intOf];omega⟩;rw [Z4k HX.out,←hl1.out];exact he.out
    ·have hd:decide ((k':Int)<(n:Int))=false:=qF (by omega)
     go_wp2_with fail;go_ret;obtain ⟨q1,q2⟩:=Z5i ho;refine ⟨l1,A2,c2,qI ?_,rfl,ho,hbl,q1,q2⟩;have h1:=hl1.out;rw [List.take_of_length_le (by rw [←HN.out];omega)] at h1;exact h1
end Go.Proofs.YtecpbcmpncgokaaGreat
set_option maxRecDepth 100000
set_option maxHeartbeats 800000
set_option linter.unusedVariables false
namespace Go.Proofs.YtecpbcmpncgokaaGreat
open Go.RowKit Go.Dol
section
variable {w w':World} {g m:Nat} {D:Dk}
theorem Dsk.own (h:Dsk w g m D) {base:Nat} {T:TypeId} {size:Nat} {v:Value} {n:Nat} {xs:List Value} (ho:w.ownsRow base T size v n xs) (h1:145≠T) (h2:T≠5) (hg:w.grownBy w' v.ownBlock):Dsk w' g m D:=by
 obtain ⟨al,hB,hM,hF⟩:=h;exact ⟨al,hB.grown hg (own_ne ho hB h1).symm,hM.grown hg (hM.own_ne ho).symm,hF.keep hg (Other.own ho h2 (zL _))⟩
theorem Z3D (h:Dsk w g m D) (hO:InOrder D.l) (base:Nat) (Ao:OA) (os:List BA) (no co:Nat) (hno:no=os.length) (hos:os.length≤4) (n:BA) (ho:w.ownsRow base 9 1 (.slice Ao no co) no (sc os)) (hb:base≤w.heap.size) (hn:n.size≤maxLen):
  Calls Tryz.prog 103 #[.pointer (some ⟨g,0,none⟩),.string n,.slice Ao no co] w fun e w'=>e= .returned (.int .i64 (thD D os n))∧Below base w w'∧Dsk w' g m D:=by
 subst hno;obtain ⟨t,ht⟩: ∃t,t=thD D os n:=⟨_,rfl⟩;rw [←ht];have hb1:Below base w (w.alloc (.cells #[.string n] 9)):=(bR _ _).alloc hb _;have ho1:=ho.alloc (.cells #[.string n] 9);have hD1:=h.below ((bR _ _).alloc (lR _) (.cells #[.string n] 9));have hr1:=Rd.new1 w 9 (.string n);have hs1:=hb1.size;have hbs:base≤(w.alloc (.cells #[.string n] 9)).heap.size:=by omega
 go_in;go_wp2_with (at_builtin;refine ZeX rfl (.tmp 11) (.tmp 13) 38 9 _ 16 rfl Tryz.underlying38 Zgg rfl base _ os.length (sc os) rfl ho1 _ _ 1 1 [.string n] rfl hr1 (by intro u hu;obtain rfl:=List.mem_singleton.1 hu;rfl) (by unfold maxLen;omega) (by omega) hbs ?_);intro A2 c2 w2 ho2 hb2 hg2 h3 h4;have hD2:=hD1.own ho1 (by decide) (by decide) hg2;have hr2:=Rd.of_own ho2;have e2:sc os++[.string n]=sc (os++[n]):=by simp [sc]
 rw [e2] at hr2;have hlen:os.length+1=(os++[n]).length:=by simp
 have hb02:=hb1.trans hb2;obtain ⟨k0,k1,k2,k3,k4,k5⟩:=hD2.cells;obtain ⟨r,hr⟩: ∃r,r=rdD D (os++[n]):=⟨_,rfl⟩;have HR:=qI hr;have HL:=qI hlen;clear hr e2 hlen hr1 ho1 hD1 hb1 ho hb hb2 hg2
 by_cases hr0:r=0
 ·have HT:Hid (t=if (Z1 D.l n).isSome=true then 0 else 3):=by
   unfold Hid thD at*;rw [ht,←HR,hr0];simp
  clear ht;rcases hD2.find hO n hn with ⟨hl,hf,_⟩ | ⟨b,A,c,hl,hF,hc,hcm,hf,_⟩
  ·have HT2:Hid (t=3):=by unfold Hid at *; rw [HT,hl];rfl
   have hf0:=hf w2 rfl;clear hf HT;go_wp2_with ((go_at_call 107;refine (Z2w hD2 _ A2 (os++[n]) _ c2 HL.out hr2 (by simp;omega)).mono ?_;rw [←HR.out,hr0];rintro e w' ⟨rfl,rfl⟩));go_ret;rw [HT2.out];exact ⟨rfl,hb02,hD2⟩
  ·have HT2:Hid (t=0):=by unfold Hid at *; rw [HT,hl];rfl
   have hf0:=hf w2 rfl;clear hf HT;go_wp2_with ((go_at_call 107;refine (Z2w hD2 _ A2 (os++[n]) _ c2 HL.out hr2 (by simp;omega)).mono ?_;rw [←HR.out,hr0];rintro e w' ⟨rfl,rfl⟩));go_ret;rw [HT2.out];exact ⟨rfl,hb02,hD2⟩
 ·have HT:Hid (t=r):=by
   unfold Hid thD at*;rw [ht,←HR,if_pos hr0]
  have hq:(r==0)=false:=beq_eq_false_iff_ne.2 hr0;clear ht hr0;go_wp2_with ((go_at_call 107;refine (Z2w hD2 _ A2 (os++[n]) _ c2 HL.out hr2 (by simp;omega)).mono ?_;rw [←HR.out];rintro e w' ⟨rfl,rfl⟩));go_ret;rw [HT.out];exact ⟨rfl,hb02,hD2⟩
def Zi4 (w:World) (r:LU×Int) (e:Ending) (w':World):Prop:=
 ∃(l':LU) (A:OA) (c:Nat),Hid (l'=r.1)∧e= .returned (.tuple #[.slice A l'.length c,.int .i64 r.2])∧w'.ownsRow w.heap.size 5 1 (.slice A l'.length c) l'.length (bc l')∧Below w.heap.size w w'
theorem ZS (h:Dsk w g m D) (hO:InOrder D.l) (n:BA) (hL: ∀b,Z1 D.l n=some b→b.length≤140737488355328):
  Calls Tryz.prog 40 #[.pointer (some ⟨g,0,none⟩),.string n] w (Zi4 w (ZF D n)):=by
 have hb1:Below w.heap.size w (w.alloc (.cells #[.string n] 9)):=(bR _ _).alloc (lR _) _;have hD1:=h.below hb1;obtain ⟨k0,k1,k2,k3,k4,k5⟩:=hD1.cells;have hr1:Rd (w.alloc (.cells #[.string n] 9)) (w.heap.size+1) 1 (some ⟨w.heap.size,0,none⟩) [n].length (sc [n]):=Rd.new1 w 9 (.string n)
 cases hB:Z4 n with
 | false=>
  have HF:Hid (ZF D n=([],1)):=by unfold Hid ZF;rw [if_pos hB]
  have HB:Hid ([n].all Z4=false):=by unfold Hid;simp [hB]
  clear hB hL;go_in
  go_wp2_with (first
   | (go_at_call 88;refine (Z04 h).mono ?_;rintro e w' ⟨rfl,rfl⟩)
   | (go_at_call 101;refine (Z0J _ _ [n] 1 _ hr1 (by simp)).mono ?_;rw [HB.out];rintro e w' ⟨rfl,rfl⟩))
  go_ret2;rw [HF.out];exact ⟨[],none,0,rfl,rfl,World.ownsRow_nil _ _ _ _,hb1⟩
 | true=>
  have hn:=Z03 hB;have HB:Hid ([n].all Z4=true):=by unfold Hid;simp [hB]
  rcases hD1.find hO n (by unfold maxLen;omega) with ⟨hl,hf,_⟩ | ⟨b,A,c,hl,hF,hc,hcm,hf,_⟩
  ·have HF:Hid (ZF D n=([],3)):=by unfold Hid ZF;rw [if_neg (by rw [hB];decide),hl.out]
   have hf0:=hf (w.alloc (.cells #[.string n] 9)) rfl;clear hf hB hL;go_in
   go_wp2_with (first
    | (go_at_call 88;refine (Z04 h).mono ?_;rintro e w' ⟨rfl,rfl⟩)
    | (go_at_call 101;refine (Z0J _ _ [n] 1 _ hr1 (by simp)).mono ?_;rw [HB.out];rintro e w' ⟨rfl,rfl⟩))
   go_ret2;rw [HF.out];exact ⟨[],none,0,rfl,rfl,World.ownsRow_nil _ _ _ _,hb1⟩
  ·have HF:Hid (ZF D n=(b,0)):=by unfold Hid ZF;rw [if_neg (by rw [hB];decide),hl.out]
   have hb:=hL b hl.out;have hf0:=hf (w.alloc (.cells #[.string n] 9)) rfl;clear hf hB hL;go_in
   go_wp2_with (first
    | (go_at_call 88;refine (Z04 h).mono ?_;rintro e w' ⟨rfl,rfl⟩)
    | (go_at_call 101;refine (Z0J _ _ [n] 1 _ hr1 (by simp)).mono ?_;rw [HB.out];rintro e w' ⟨rfl,rfl⟩)
    | (go_at_call 93;refine (Z33 _ A b b.length c rfl _ hF.1 hb).mono ?_;rintro e w2 ⟨l',A',c',he,rfl,ho,hb2,_,_⟩))
   go_ret2;rw [HF.out];exact ⟨l',A',c',he,rfl,ho.base (by simp),hb1.trans (hb2.mono (by simp))⟩
def newD (cap:Int):Dk:=⟨cap,[],0,-1,false⟩
theorem Z4Q (cap:Int) (w:World) (h1:0≤cap) (h2:cap≤1099511627776):
  Calls Tryz.prog 38 #[.int .i64 cap] w fun e w'=> ∃g m,e= .returned (.tuple #[.pointer (some ⟨g,0,none⟩),.int .i64 0])∧Dsk w' g m (newD cap)∧w.heap.size≤g∧w.heap.size≤m∧Below w.heap.size w w':=by
 have d1:decide (cap<0)=false:=qF (by omega);have d2:decide (cap>1099511627776)=false:=qF (by omega);have d2':decide (1099511627776<cap)=false:=qF (by omega);have hmm:=@run_makeMap Tryz.prog;go_in;go_wp2_with fail;go_ret2;have hb1:Below w.heap.size w (w.alloc (.map #[] 0)):=(bR _ _).alloc (lR _) _;have hM:=MapL.new (P:=Tryz.prog) (k:=9) w;have e1:frD (newD cap)=cap:=by
  show IntKind.i64.wrap (cap-0)=cap
  rw [Int.sub_zero];exact qJ _ (by omega)
 have h:=Blk.new (w.alloc (.map #[] 0)) 145 (Z5W cap w.heap.size (frD (newD cap)) 0 (-1) false);rw [e1] at h;rw [World.size_alloc] at h;refine ⟨w.heap.size+1,w.heap.size,rfl,⟨[],?_,hM.alloc _,Fls.nil _⟩,Nat.le_succ _,lR _,hb1.alloc (by simp) _⟩;rw [e1];exact h
theorem Zbz (cap:Int) (w:World) (h:cap<0∨1099511627776<cap):
  Calls Tryz.prog 38 #[.int .i64 cap] w fun e w'=>e= .returned (.tuple #[.pointer none,.int .i64 1])∧w'=w:=by
 rcases h with h | h
 ·have d1:decide (cap<0)=true:=dT (by omega)
  go_in;go_wp2_with fail;go_ret2;exact ⟨rfl,rfl⟩
 ·have d1:decide (cap<0)=false:=qF (by omega)
  have d2:decide (cap>1099511627776)=true:=dT (by omega);have d2':decide (1099511627776<cap)=true:=dT (by omega);go_in;go_wp2_with fail;go_ret2;exact ⟨rfl,rfl⟩
def Z0D (w:World) (g m:Nat) (r:Int×Dk) (e:Ending) (w':World):Prop:=e= .returned (.int .i64 r.1)∧Dsk w' g m r.2∧Tw w w' g m
theorem Dsk.turn (h:Dsk w g m D) {D':Dk} (hl:D'.l=D.l) (hB':Blk w' g 145 (Z5W D'.cap m (frD D') D'.done D'.left D'.dark)) (hg:w.grownBy w' (some g)):Dsk w' g m D':=by
 obtain ⟨al,hB,hM,hF⟩:=h;refine ⟨al,hB',hM.grown hg (fun e=> ?_),?_⟩
 ·injection e with e
  exact hM.blk_ne hB e.symm
 ·rw [hl]
  exact hF.keep hg (Other.blk hB (by decide) (zL _))
end
end Go.Proofs.YtecpbcmpncgokaaGreat
set_option linter.unusedVariables false
namespace Go.Dol
open Go.RowKit
structure OkD (D:Dk):Prop where
 ord:InOrder D.l
 cap0:0≤D.cap
 cap1:D.cap≤1099511627776
 room:Zg D.l≤D.cap
 left0: -1≤D.left
 left1:D.left≤9223372036854775807
 names: ∀f∈D.l,Z4 f.1=true
theorem Zi5 {x:Int} (h: -9223372036854775808≤x) (h2:x≤9223372036854775807):IntKind.i64.wrap x=x:=qJ _ ⟨h,h2⟩
theorem Zgi (x y:Int):IntKind.i64.wrap (IntKind.i64.wrap x-y)=IntKind.i64.wrap (x-y):=by
 simp only [IntKind.wrap,IntKind.bits,IntKind.signed];simp;split<;>split<;>split<;>omega
theorem OkD.free {D:Dk} (h:OkD D):frD D=D.cap-Zg D.l:=by
 have h1:=Z0o D.l;have h2:=h.cap1;have h3:=h.room;exact Zi5 (by omega) (by omega)
theorem Z2L {D D':Dk} {more:Int} (hc:D'.cap=D.cap) (hl:Zg D'.l=Zg D.l+more):frD D'=IntKind.i64.wrap (frD D-more):=by
 unfold frD;rw [Zgi,hc,hl]
 congr 1
 omega
theorem OkD.look {D:Dk} (h:OkD D) {n:BA} {b:LU} (hb:Z1 D.l n=some b):16+(n.size:Int)+b.length≤D.cap:=by
 have h1:=Z4R hb;have h2:=Z0o (Zr D.l n);have h3:=h.room;unfold Z1n at h1;simp only at h1;omega
theorem OkD.small {D:Dk} (h:OkD D) {n:BA} {b:LU} (hb:Z1 D.l n=some b):b.length≤140737488355328:=by
 have h1:=h.look hb;have h2:=h.cap1;omega
theorem Z1u {l:List Fil} (h:InOrder l) (n:BA) (b:LU):Zg (putF l n b)=Zg l+(match Z1 l n with | none=>16+(n.size:Int)+b.length | some c=>(b.length:Int)-c.length):=by
 rw [Z9q]
 cases hn:Z1 l n with
 | none=>
  rw [Z0x hn];unfold Z1n;simp only;omega
 | some c=>
  have:=Z4R hn;unfold Z1n at this ⊢;simp only at this ⊢;omega
theorem Z3E {l:List Fil} {n:BA} {b:LU} (h:Z1 l n=some b):Zg (Zr l n)=Zg l-(16+(n.size:Int)+b.length):=by
 have:=Z4R h;unfold Z1n at this;simp only at this;omega
theorem Z4l {l:List Fil} (h: ∀f∈l,Z4 f.1=true) {n:BA} (hn:Z4 n=true) (b:LU): ∀f∈putF l n b,Z4 f.1=true:=by
 intro f hf;rcases Z37 f hf with e | hm
 ·rw [e]
  exact hn
 ·exact h f hm
theorem Z34 {l:List Fil} (h: ∀f∈l,Z4 f.1=true) (n:BA): ∀f∈Zr l n,Z4 f.1=true:=fun f hf=>h f (Z3G f hf)
theorem OkD.spend {D:Dk} (h:OkD D) {l':List Fil} (h1:InOrder l') (h2:Zg l'≤D.cap) (h3: ∀f∈l',Z4 f.1=true):OkD (ZY D l').2:=by
 have a0:=h.left0;have a1:=h.left1;unfold ZY;split
 ·exact ⟨h.ord,h.cap0,h.cap1,h.room,by simp,by simp,h.names⟩
 ·refine ⟨h1,h.cap0,h.cap1,h2,?_,?_,h3⟩<;>simp only<;>split<;>omega
theorem OkD.app {D:Dk} (h:OkD D) (n:BA) (b:LU):OkD (appD D n b).2:=by
 unfold appD;split
 ·exact h
 ·rename_i h1
  split
  ·exact h
  ·unfold Z1J
   split
   ·exact h
   ·rename_i h3
    have hn:Z4 n=true:=by
     cases hB:Z4 n with
     | true=>rfl
     | false=>exact absurd (.inr hB) h1
    refine h.spend (Z05 h.ord) ?_ (Z4l h.names hn _);rw [h.free] at h3;have hp:=Z1u h.ord n ((Z1 D.l n).getD []++b);have hr:=h.room;unfold Z0p at h3
    cases hl:Z1 D.l n with
    | none=>
     rw [hl] at hp h3;simp only [Option.getD_none,List.nil_append] at hp h3 ⊢;rw [hp];omega
    | some c=>
     rw [hl] at hp h3;simp only [Option.getD_some,List.length_append] at hp h3 ⊢;rw [hp];omega
theorem OkD.rem {D:Dk} (h:OkD D) (n:BA):OkD (remD D n).2:=by
 unfold remD;split
 ·exact h
 ·refine h.spend (ZG h.ord) ?_ (Z34 h.names n)
  have hr:=h.room
  cases hl:Z1 D.l n with
  | none=>rw [Z0x hl];exact hr
  | some b=>have:=Z3E hl;omega
theorem OkD.sync {D:Dk} (h:OkD D) (n:BA):OkD (Z10 D n).2:=by
 unfold Z10;split
 ·exact h
 ·exact h.spend h.ord h.room h.names
theorem Z35 {D:Dk} {n:BA} (h:Z0j D n=0):Z4 n=true∧D.dark=false∧ ∃b,Z1 D.l n=some b:=by
 unfold Z0j at h
 cases hB:Z4 n with
 | false=>rw [if_pos hB] at h;cases h
 | true=>
  cases hd:D.dark with
  | true=>rw [if_neg (by rw [hB];decide),if_pos hd] at h;cases h
  | false=>
   rw [if_neg (by rw [hB];decide),if_neg (by rw [hd];decide)] at h
   cases hl:Z1 D.l n with
   | none=>rw [hl] at h;cases h
   | some b=>exact ⟨rfl,rfl,b,rfl⟩
def Z1B (D:Dk) (a b:BA):Int:=if a=b then 0 else (b.size:Int)-a.size-(match Z1 D.l b with | none=>0 | some c=>16+(b.size:Int)+c.length)
theorem Z9o {D:Dk} (h:InOrder D.l) {a b:BA} {c:LU} (ha:Z1 D.l a=some c):Zg (putF (Zr D.l a) b c)=Zg D.l+Z1B D a b:=by
 have h1:=Z1u (ZG (n:=a) h) b c;have h2:=Z3E ha;rw [h1,h2,Z0y h];unfold Z1B
 by_cases hab:a=b
 ·subst hab
  rw [if_pos rfl,if_pos rfl];simp only;omega
 ·rw [if_neg (fun e=>hab e.symm),if_neg hab]
  cases Z1 D.l b with
  | none=>simp only;omega
  | some d=>simp only;omega
theorem ZbA {D:Dk} {a b:BA} {c:LU} (ha:Z1 D.l a=some c) (hb:Z4 b=true) (hna:Z4 a=true):
  (0<Z1B D a b∧frD D<Z1B D a b)↔(0<Z39 D a b∧frD D<Z39 D a b):=by
 have hb1:b.size≤200:=by
  unfold Z4 at hb;simp only [Bool.and_eq_true,decide_eq_true_eq] at hb;exact hb.1.2
 unfold Z1B Z39
 by_cases hab:a=b
 ·subst hab
  rw [if_pos rfl,ha]
 ·rw [if_neg hab]
  cases hl:Z1 D.l b with
  | none=>simp only;omega
  | some d=>simp only;omega
theorem OkD.ren {D:Dk} (h:OkD D) (a b:BA):OkD (renD D a b).2:=by
 unfold renD;split
 ·exact h
 ·rename_i h1
  split
  ·exact h
  ·rename_i h2
   obtain ⟨hna,_,c,hc⟩:=Z35 (Decidable.not_not.1 h2);have hnb:Z4 b=true:=by
    cases hB:Z4 b with
    | true=>rfl
    | false=>exact absurd (.inr hB) h1
   unfold Z1J;split
   ·exact h
   ·rename_i h3
    rw [hc,Option.getD_some];refine h.spend (Z05 (ZG h.ord)) ?_ (Z4l (Z34 h.names a) hnb _);rw [←ZbA hc hnb hna,h.free] at h3;have:=Z9o h.ord (b:=b) hc;have hr:=h.room;omega
structure OkG (L B:Nat) (D:Dk):Prop where
 ord:InOrder D.l
 cap0:0≤D.cap
 cap1:D.cap≤1099511627776
 left0: -1≤D.left
 left1:D.left≤9223372036854775807
 names: ∀f∈D.l,Z4 f.1=true
 len:D.l.length≤L
 bytes: ∀f∈D.l,f.2.length≤B
abbrev OkW (D:Dk):Prop:=OkG 3518437208880 140737488355264 D
theorem OkW.small {D:Dk} (h:OkW D) {n:BA} {b:LU} (hb:Z1 D.l n=some b):b.length≤140737488355264:=h.bytes _ ((Zj h.ord).1 hb)
theorem OkW.small' {D:Dk} (h:OkW D) {n:BA} {b:LU} (hb:Z1 D.l n=some b):b.length≤140737488355328:=by have:=h.small hb;omega
theorem OkW.named {D:Dk} (h:OkW D) {n:BA} {b:LU} (hb:Z1 D.l n=some b):Z4 n=true:=h.names _ ((Zj h.ord).1 hb)
theorem OkD.toW {D:Dk} (h:OkD D):OkW D:=by
 have h1: ∀l:List Fil,16*(l.length:Int)≤Zg l:=by
  intro l
  induction l with
  | nil=>show (16*0:Int)≤0;omega
  | cons f r ih=>have:=Z4n f;simp only [Zg,List.length_cons];omega
 have h2:=h1 D.l;have h3:=h.room;have h4:=h.cap1;refine ⟨h.ord,h.cap0,h.cap1,h.left0,h.left1,h.names,by omega,fun f hf=> ?_⟩;have h5:=h.look ((Zj h.ord).2 (by exact hf):Z1 D.l f.1=some f.2);omega
instance {D:Dk}:Coe (OkD D) (OkW D):=⟨OkD.toW⟩
end Go.Dol
