/- The walks of the layer 'safe', its first part: what a save needs; how a name ends. Conditions: lengths below 2^63. What a save does, in plain Lean. No program is in sight. Conditions: none beyond what each lemma names. A map that is known by its entries, as the library's laws want it. Conditions: at most 2^47 entries. A pack in memory: its block, its row of parts, its map of bytes, its ids; the walks of Has, Get, Parts. Conditions: at most 2^40 parts. What layer 'loose' computes, in plain Lean: each object in a file of its own. No program is in sight. Conditions: none. Rows of texts, each once: what is left of equal neighbours; two rising rows with the same texts are one. No program is in sight. Conditions: none beyond what each lemma names. What the layer 'store' computes, in plain Lean: the packs of a disk's files, what is got, kept, built. No program is in sight. Conditions: none. -/
import Derived.Test.YtecpbcmpncgokaaGreatDiskM
import Derived.RangeFuncNested
import Derived.RangeFuncBound
import Derived.RangeFuncCalls
import Derived.RangeFuncLeaves
import Derived.Shelf.Abstract
import Derived.Shelf.RegionOpen
import Derived.OwnWalkIn
import Derived.TacticsInMore
import Derived.LoopNIn
import Derived.LoopIn
import Derived.Test.YtecpbcmpncgokaaGreatShort
import Derived.Test.YtecpbcmpncgokaaGreatWordsA
import Derived.Deep.Onto
import Derived.Shelf.SlIter.Nil
import Derived.Test.YtecpbcmpncgokaaGreatDisk2
import Derived.Test.YtecpbcmpncgokaaGreatCodeA
import Derived.Lib.SlicesCompact
set_option maxRecDepth 100000
set_option maxHeartbeats 1600000
set_option linter.unusedVariables false
namespace Go.Dol
theorem Ziq {s:BA} (h: ¬s.size<1):((s.extract (s.size-1) s.size).toList==[126])=decide (s.data.toList.getLast?=some 126):=by
 have hl:=Zq s;obtain ⟨l,hL⟩: ∃l,l=s.data.toList:=⟨_,rfl⟩;have e1:(s.extract (s.size-1) s.size).toList=l.drop (s.size-1):=by
  rw [ByteArray.toList_eq,ByteArray.data_extract,Array.toList_extract,hL];simp only [List.extract_eq_take_drop];exact List.take_of_length_le (by rw [List.length_drop];omega)
 rw [←hL] at hl;rw [e1,←hL];obtain ⟨k,hk⟩: ∃k,s.size=k+1:=⟨s.size-1,by omega⟩;have hkl:k<l.length:=by omega
 have e2:l.drop k=[l[k]]:=by
  rw [List.drop_eq_getElem_cons hkl,List.drop_eq_nil_of_le (by omega)]
 have e3:l.getLast?=some l[k]:=by
  rw [List.getLast?_eq_getElem?,show l.length-1=k by omega];exact gE hkl
 rw [hk,Nat.add_sub_cancel,e2,e3]
 by_cases hx:l[k]=126<;>simp [hx]
end Go.Dol
namespace Go.Proofs.YtecpbcmpncgokaaGreat
open Go.RowKit Go.Dol
theorem Z2q (n:BA) (k:Int) (w:World) (hn:n.size≤140737488355328) (hk0: -4611686018427387904≤k) (hk:k≤4611686018427387904):
  Calls Tryz.prog 134 #[.string n,.int .i64 k] w fun e w'=>e= .returned (.int .i64 (16+(n.size+1)+max k 0))∧w'=w:=by
 have f1:IntKind.i64.wrap (16+((n.size:Int)+1))=16+((n.size:Int)+1):=qJ _ (by omega);have f2:IntKind.i64.wrap (16+((n.size:Int)+1)+max k 0)=16+((n.size:Int)+1)+max k 0:=qJ _ (by omega);go_in;go_wp2_with fail;go_ret;exact ⟨rfl,rfl⟩
theorem ZaO (s:BA) (w:World) (hn:s.size≤maxLen):
  Calls Tryz.prog 186 #[.string s,.string ⟨#[126]⟩] w fun e w'=>e= .returned (.bool (decide (s.data.toList.getLast?=some 126)))∧w'=w:=by
 by_cases h0:s.size<1
 ·have d1:decide ((s.size:Int)≥1)=false:=qF (by omega)
  have d1':decide ((1:Int)≤(s.size:Int))=false:=qF (by omega);go_in;go_wp2_with fail;go_ret;refine ⟨?_,rfl⟩;have h1:s.data.toList=[]:=nZ (by rw [Zq];omega);rw [h1]
  rfl
 ·have d1:decide ((s.size:Int)≥1)=true:=dT (by omega)
  have d1':decide ((1:Int)≤(s.size:Int))=true:=dT (by omega);have f1:IntKind.i64.wrap ((s.size:Int)-1)=(s.size:Int)-1:=qJ _ (by unfold maxLen at hn;omega);go_in;go_wp2_with fail;go_ret;refine ⟨?_,rfl⟩;rw [Ziq h0]
  rfl
theorem ZQ (s:BA) (w:World) (hn:s.size≤maxLen):
  Calls Tryz.prog 117 #[.string s,.string ⟨#[126]⟩] w fun e w'=>e= .returned (.bool (decide (s.data.toList.getLast?=some 126)))∧w'=w:=by
 have h:=ZaO s w hn;generalize decide (s.data.toList.getLast?=some 126)=r at h ⊢;go_in;go_wp2_with ((go_at_call 186;refine h.mono ?_;rintro e w' ⟨rfl,rfl⟩));go_ret;exact ⟨rfl,rfl⟩
end Go.Proofs.YtecpbcmpncgokaaGreat
namespace Go.Dol
open Go.RowKit
variable {F:Fence} {n:Nat} {P:Program}
def ZeM {α:Type} (F:Fence) (n:Nat) (P:Program) (gf:Nat) (lb:Array Value) (enc:α→Value) (x:Nat) (Pr:List α→α→World→Prop) (Kp:World→World→Prop) (S Sp:List α→Prop) (w:World):Prop:=
 ∀(l:Nat) (J Jx:List α→World→Prop) (W:World),Below w.heap.size w W→(∀pre W u,J pre W→J pre (W.setCell ⟨x,0,none⟩ u))→
  (∀pre y W1,J pre W1→Pr pre y W1→YieldAt F (n-1) P l #[enc y] W1 fun e W'=>(e= .returned (.bool true)∧J (pre++[y]) W'∧Kp W1 W')∨(e= .returned (.bool false)∧Jx (pre++[y]) W'))→
  J [] W→CallsIn F n P gf (#[.func (.yield l) #[] #[]]++lb) W fun e W'=>(∃v,e= .returned v)∧((∃xs,S xs∧J xs W')∨(∃pre,Sp pre∧Jx pre W'))
def Z0X (W:World) (l:Nat):Prop:=∃ o:Go.Obj,W.heap[l]?=some o∧o.isCells=false
structure LoopAt (r:Loop) (D:Nat) (W:World):Prop where
 rec_:W.heap[D+1]?=some (.loop r)
 def_:W.heap[D]?=some (.deferred (some []))
theorem LoopAt.keep {r:Loop} {D B:Nat} {W W':World} (h:LoopAt r D W) (hk:KeepsFrom B W W') (hB:B≤D):LoopAt r D W':=
 ⟨hk.same _ _ (by omega) h.rec_ rfl,hk.same _ _ hB h.def_ rfl⟩
theorem LoopAt.no {r:Loop} {D:Nat} {W:World} (h:LoopAt r D W):Z0X W (D+1):=⟨_,h.rec_,rfl⟩
theorem LoopAt.put {r:Loop} {D:Nat} {W:World} (h:LoopAt r D W) (r':Loop):LoopAt r' D (W.putObj (D+1) (.loop r')):=
 ⟨World.putObj_heap_same (Array.getElem?_eq_some_iff.1 h.rec_).1,(World.putObj_heap_other (by omega)).trans h.def_⟩
theorem LoopAt.cell {r:Loop} {D x:Nat} {W:World} (h:LoopAt r D W) (hx:x<D) (u:Value):LoopAt r D (W.setCell ⟨x,0,none⟩ u):=
 ⟨(Below.heap_setCell W _ u _ (by show D+1≠x;omega)).trans h.rec_,(Below.heap_setCell W _ u _ (by show D≠x;omega)).trans h.def_⟩
theorem Z8d {α:Type} {g:Operand} {p:Tmp} {assign body:Code} {Q:Exit→Act→World→Prop} {a:Act} {w:World}
  (hro:F.round=none) (h1:1≤n) {gf:Nat} {lb:Array Value} (hg:a.eval g= .func (.func gf) #[] lb) (hFg:F.fn gf) (eg: ∀args w,(callFunc gf args).run P w= .ok (.enter gf args) w)
  {enc:α→Value} {x:Nat} {Pr:List α→α→World→Prop} {Kp:World→World→Prop} {S Sp:List α→Prop} {w0:World} (hseq:ZeM F (n-1) P gf lb enc x Pr Kp S Sp w0) (hx:x<w.heap.size)
  (hKt: ∀{A B C:World},Kp A B→Kp B C→Kp A C) (hKb: ∀W l o,w.heap.size≤l→Z0X W l→Kp W (W.putObj l o)) (hb0:Below w0.heap.size w0 w)
  (I Ix:List α→World→Prop) (hI: ∀pre W o,I pre W→I pre (W.alloc o)) (hIp: ∀pre W l o,w.heap.size≤l→Z0X W l→I pre W→I pre (W.putObj l o)) (hIc: ∀pre W u,I pre W→I pre (W.setCell ⟨x,0,none⟩ u)) (hIxp: ∀pre W l o,w.heap.size≤l→Z0X W l→Ix pre W→Ix pre (W.putObj l o))
  (hPr: ∀pre y W l o,w.heap.size≤l→Z0X W l→Pr pre y W→Pr pre y (W.putObj l o)) (h0:I [] w) (q:Tmp)
  (hassign: ∀(l:Nat) (y:α) (W:World) (K:Act→World→Prop),K { tmps:=(a.tmps.setIfInBounds p (enc y)).setIfInBounds q (enc y),defers:=[] } W→assign.wpIn (F.inRound l) (n-1-1) P (Exit.then K (fun _ _ _=>False)) { tmps:=a.tmps.setIfInBounds p (enc y),defers:=[] } W)
  (hbody: ∀(l:Nat) (pre:List α) (y:α) (W:World),I pre W→Pr pre y W→body.wpIn (F.inRound l) (n-1-1) P (fun e _ W'=>match e with | .normal=>KeepsFrom w.heap.size W W'∧Kp W W'∧I (pre++[y]) W' | .ret=>KeepsFrom w.heap.size W W'∧Ix (pre++[y]) W' | _=>False) { tmps:=(a.tmps.setIfInBounds p (enc y)).setIfInBounds q (enc y),defers:=[] } W)
  (hdone: ∀(D:Nat) (xs:List α) (W:World),w.heap.size≤D→S xs→I xs W→W.heap[D]?=some (.deferred (some []))→Q .normal { a with defers:={ target:=.collected D,args:=#[] }::a.defers } W)
  (hstop: ∀(D:Nat) (pre:List α) (W:World),w.heap.size≤D→Sp pre→Ix pre W→W.heap[D]?=some (.deferred (some []))→Code.ret.wpIn F n P Q { a with defers:={ target:=.collected D,args:=#[] }::a.defers } W):
  (Code.rangeFunc g #[p] assign body).wpIn F n P Q a w:=by
 refine wpIn_rangeFunc fun fn hfn=> ?_;rw [hro]
 let R:LoopState→Option Code→Loop:=fun st pe=>{ state:=st,pending:=pe,fn,tmps:=a.tmps,params:=#[p],assign,body,defers:=w.heap.size }
 refine ⟨w.heap.size+1,[{ target:=.collected w.heap.size,args:=#[] }],(w.alloc (.deferred (some []))).alloc (.loop (R .ready none)),{ target:=.fn (.func gf) lb,args:=#[.func (.yield (w.heap.size+1)) #[] #[]] },(w.alloc (.deferred (some []))).alloc (.loop (R .ready none)),gf,
  #[.func (.yield (w.heap.size+1)) #[] #[]]++lb,(w.alloc (.deferred (some []))).alloc (.loop (R .ready none)),run_enterLoop_outer fn a.tmps #[p] assign body,?_,?_,?_,fun _=>h1,?_⟩
 ·simp only [resolve,hg]
  simp [go_sem]
 ·intro f' hf'
  simp only [Target.leads,Option.some.injEq] at hf';rw [←hf'];exact hFg
 ·simp [invoke,go_sem,eg]
 have hA:Below w.heap.size w ((w.alloc (.deferred (some []))).alloc (.loop (R .ready none))):=((bR _ _).alloc (lR _) _).alloc (by simp) _;have hL0:LoopAt (R .ready none) w.heap.size ((w.alloc (.deferred (some []))).alloc (.loop (R .ready none))):=by
  refine ⟨?_,(Below.heap_alloc _ _ _ (by simp)).trans (World.alloc_heap_new w _)⟩;have:=World.alloc_heap_new (w.alloc (.deferred (some []))) (.loop (R .ready none));rwa [World.size_alloc] at this
 refine (hseq (w.heap.size+1) (fun pre W=>I pre W∧LoopAt (R .ready none) w.heap.size W) (fun pre W=>Ix pre W∧LoopAt (R .done (some .ret)) w.heap.size W) _ (hb0.trans (hA.mono hb0.size))
  (fun pre W u h=>⟨hIc pre W u h.1,h.2.cell hx u⟩) ?_ ⟨hI _ _ _ (hI _ _ _ h0),hL0⟩).mono ?_
 ·intro pre y W h hp
  obtain ⟨hi,hl⟩:=h;refine ⟨fn,a.tmps.setIfInBounds p (enc y),assign,body,(run_yield (args:=#[enc y]) hl.rec_ (by rfl)).trans (by simp [R]),?_⟩;refine roundIn_of_wpIn hfn (hassign _ y W _ ?_);refine ⟨_,run_beginRound hl.rec_ rfl,?_⟩;have hl2:=hl.put (R .busy none);refine wpIn_mono (hbody _ pre y _ (hIp _ _ _ _ (by omega) hl.no hi) (hPr _ _ _ _ _ (by omega) hl.no hp)) ?_;intro e a3 W3 hq
  cases e with
  | normal=>
   obtain ⟨hk,hkp,hi3⟩:=hq;have hl3:=hl2.keep hk (lR _);exact ⟨_,_,run_endRound none hl3.rec_,.inl ⟨rfl,⟨hIp _ _ _ _ (by omega) hl3.no hi3,hl3.put _⟩,hKt (hKt (hKb _ _ _ (by omega) hl.no) hkp) (hKb _ _ _ (by omega) hl3.no)⟩⟩
  | ret=>
   obtain ⟨hk,hi3⟩:=hq;have hl3:=hl2.keep hk (lR _);exact ⟨_,_,run_endRound (some .ret) hl3.rec_,.inr ⟨rfl,hIxp _ _ _ _ (by omega) hl3.no hi3,hl3.put _⟩⟩
  | exit id=>exact hq.elim
  | goto t=>exact hq.elim
  | panic c=>exact hq.elim
  | outgrown=>exact hq.elim
 ·rintro e W2 ⟨⟨v,rfl⟩,(⟨xs,hS,hi,hl⟩ | ⟨pre,hS,hi,hl⟩)⟩
  ·exact ⟨none,_,run_endLoop hl.rec_ (by simp [R]),hdone _ xs _ (lR _) hS (hIp _ _ _ _ (by omega) hl.no hi) (hl.put _).def_⟩
  ·exact ⟨some .ret,_,run_endLoop hl.rec_ (by simp [R]),hstop _ pre _ (lR _) hS (hIxp _ _ _ _ (by omega) hl.no hi) (hl.put _).def_⟩
end Go.Dol
namespace Go.Dol
open Go.RowKit
def Z0r (l:LU):List (LU):=if h:l.length=0 then [] else l.take 64::Z0r (l.drop 64)
termination_by l.length
decreasing_by simp only [List.length_drop];omega
def Zn (l:LU):List (LU):=if l.length=0 then [[]] else Z0r l
def Z2H (first:Bool) (l:LU):List (LU):=if first=true then Zn l else Z0r l
theorem ZcA {first:Bool} {l:LU} (h:first=true∨0<l.length):Z2H first l=l.take 64::Z2H false (l.drop 64):=by
 have hG:0<l.length→Z0r l=l.take 64::Z0r (l.drop 64):=fun h=>by rw [Z0r,dif_neg (by omega)]
 cases first with
 | true=>
  simp only [Z2H,if_true,Bool.false_eq_true,if_false];unfold Zn
  by_cases h0:l.length=0
  ·rw [if_pos h0,nZ h0]
   have:Z0r ([]:LU)=[]:=by rw [Z0r];rfl
   simp [this]
  ·rw [if_neg h0]
   exact hG (by omega)
 | false=>
  rcases h with h | h
  ·cases h
  ·simp only [Z2H,Bool.false_eq_true,if_false]
   exact hG h
theorem ZdS {l:LU} (h:l.length=0):Z2H false l=[]:=by
 unfold Z2H;rw [if_neg (by decide),Z0r,dif_pos h]
structure Chunk where
 l:LU
 A:OA
 c:Nat
def Chunk.val (y:Chunk):Value:=.slice y.A y.l.length y.c
def lenC (x:Nat) (W:World):Nat:=lenV ((W.cell? ⟨x,0,none⟩).getD undef)
def ZcB:Value→Nat
 | .bool true=>1
 | _=>0
end Go.Dol
namespace Go.Proofs.YtecpbcmpncgokaaGreat
open Go.RowKit Go.Dol Go.Shelf
attribute [local go_sem] Oper.semAt_some
def ChPr (b:LU) (B:Nat) (pre:List Chunk) (y:Chunk) (W:World):Prop:=y.l.length≤64∧Far W B y.A y.l∧y.l.length≤y.c∧y.c≤maxLen∧ ∃r,Zn b=pre.map (·.l)++y.l::r
def ChK (B x:Nat) (W W':World):Prop:=(∀u,Blk W x 36 [u]→Blk W' x 36 [u])∧ ∀A l,Far W B A l→Far W' B A l
def ZjV (b:LU) (B x:Nat) (J:List Chunk→World→Prop) (f:Value) (wr:World):Prop:=
 ∃(first:Bool) (pre:List Chunk) (q:LU) (A:OA) (c:Nat),f= .bool first∧Blk wr x 36 [.slice A q.length c]∧Far wr B A q∧q.length≤c∧c≤maxLen∧Hid (J pre wr)∧Hid (Zn b=pre.map (·.l)++Z2H first q)
theorem Z8e (F:Fence) (n:Nat) (hF:F.fn 235) (hro:F.round=none) (hn:1≤n) (x B:Nat) (b:LU) (A:OA) (c:Nat) (w:World) (hX:Blk w x 36 [.slice A b.length c]) (hf:Far w B A b) (hc:b.length≤c) (hcm:c≤maxLen) (hBx:B≤x):
  ZeM F n Tryz.prog 235 #[.pointer (some ⟨x,0,none⟩)] Chunk.val x (ChPr b B) (ChK B x) (fun xs=>xs.map (·.l)=Zn b) (fun pre=> ∃r,Zn b=pre.map (·.l)++r) w:=by
 intro l J Jx W hW hJc hY h0;have hX0:=hX.below hW hX.lt;have hf0:=hf.below hW;have HJ:=qI h0;clear hX hf h0 hW;refine callsIn_of_wp Tryz.func235 rfl hF ?_ hro;simp only [Tryz.ntmps235,List.size_toArray,List.length_cons,List.length_nil,Nat.reduceAdd,Nat.reduceSub,Array.replicate_succ,Array.replicate_zero,List.push_toArray,List.append_toArray,List.nil_append,List.cons_append]
 gi_wp2
 gi_loopw [3] (fun f wr=>ZjV b B x J f wr) (fun f wr=>lenC x wr+ZcB f)
 case atStart=>exact ⟨true,[],b,A,c,rfl,hX0,hf0,hc,hcm,HJ,qI (by simp [Z2H])⟩
 case round=>
  clear hX0 hf0 HJ;obtain ⟨first,pre,q,A2,c2,rfl,hX2,hf2,hc2,hcm2,hJ2,hR2⟩:=hrel;have k0:wr.cell? ⟨x,0,none⟩=some (.slice A2 q.length c2):=by rw [hX2.cell];rfl
  by_cases hgo:first=true∨0<q.length
  ·obtain ⟨k,hk⟩: ∃k,k=min q.length 64:=⟨_,rfl⟩
   have hkI:min (q.length:Int) 64=(k:Nat):=by omega
   have hkq:k≤q.length:=by omega
   obtain ⟨mm,em,jm,jm',⟨rm,km,km'⟩,_,sm⟩:=Zd1 (k:=k) (min (q.length:Int) 64) hkI hf2.1 hkq hc2 hcm2;obtain ⟨q',A',c',eq,jq,jq',hq',_,sq,_,sn⟩:=Z0b (k:=k) (min (q.length:Int) 64) hkI hf2.1 hkq hc2 hcm2;have et:q.take k=q.take 64:=by
    by_cases h6:q.length≤64
    ·rw [List.take_of_length_le (by omega),List.take_of_length_le h6]
    ·rw [show k=64 by omega]
   have ed:q.drop k=q.drop 64:=by
    by_cases h6:q.length≤64
    ·rw [List.drop_eq_nil_of_le (by omega),List.drop_eq_nil_of_le h6]
    ·rw [show k=64 by omega]
   have hnext:=ZcA hgo;have hP:ChPr b B pre ⟨mm,A2,c2⟩ wr:=by
    refine ⟨by show mm.length≤64;omega,hf2.piece (k:=0) ⟨rm,km,km'⟩ (lR _) (by show mm.length+0≤q.length;omega) rfl,km,km',Z2H false (q.drop 64),?_⟩;rw [hR2.out,hnext];show pre.map (·.l)++q.take 64::_=pre.map (·.l)++mm::_
    rw [em.out,et]
   obtain ⟨fn,tmps,assign,body,hy,hRn⟩:=hY pre ⟨mm,A2,c2⟩ wr hJ2.out hP;change (Instr.yield l #[.slice A2 mm.length c2]).run Tryz.prog wr= .ok (.round l fn tmps assign body) wr at hy;have hfq:Far wr B A' q':=hf2.piece (k:=0) hq' (lR _) (by omega) sq;have hmeas:(first=true→True)∧q'.length+ZcB (.bool false)<q.length+ZcB (.bool first):=by
    refine ⟨fun _=>trivial,?_⟩;rcases hgo with rfl | hgo
    ·simp only [ZcB];omega
    ·have h6:q'.length<q.length:=by rw [eq.out,List.length_drop];omega
     cases first<;>simp only [ZcB]<;>omega
   have hT:Hid (Zn b=(pre++[(⟨mm,A2,c2⟩:Chunk)]).map (·.l)++Z2H false q'):=by
    unfold Hid;rw [hR2.out,hnext,eq.out,ed,List.map_append];simp only [List.map_cons,List.map_nil,List.append_assoc,List.cons_append,List.nil_append];rw [em.out,et]
   have hEQ:=qI hk;clear hk hkI et ed hnext hP
   cases first with
   | true=>
    clear hgo
    gi_wp2
    refine hRn.mono ?_;rintro e W3 (⟨rfl,hJ3,hk3⟩ | ⟨rfl,hJx3⟩)
    ·have hX3:=hk3.1 _ hX2
     have hf4:=hk3.2 _ _ hfq;have e0:W3.cell? ⟨x,0,none⟩=some (.slice A2 q.length c2):=by rw [hX3.cell];rfl
     have z0:=hX3.free 0
     gi_wp2
     have hX4:=hX3.set 0 (.slice A' q'.length c');refine ⟨⟨false,pre++[⟨mm,A2,c2⟩],q',A',c',rfl,hX4,?_,hq'.2.1,hq'.2.2,qI (hJc _ _ _ hJ3),hT⟩,?_⟩
     ·exact hf4.keep (Z0 (gR W3 _) 0 _) (Other.blk hX3 (by decide) hBx)
     ·have e1:lenC x wr=q.length:=by unfold lenC;rw [k0];rfl
      have e2:lenC x (W3.setCell ⟨x,0,none⟩ (.slice A' q'.length c'))=q'.length:=by unfold lenC;rw [hX4.cell];rfl
      rw [e1,e2];exact hmeas.2
    ·gi_wp2
     refine bodyPost_ret (results_none (by rfl) _ _ _) rfl ?_;exact ⟨⟨_,rfl⟩,.inr ⟨pre++[⟨mm,A2,c2⟩],⟨_,hT.out⟩,hJx3⟩⟩
   | false=>
    have d0:0<q.length:=hgo.resolve_left (by decide);have d1:decide ((q.length:Int)>0)=true:=dT (by omega);have d2:decide ((0:Int)<(q.length:Int))=true:=dT (by omega);have d3:decide (0<q.length)=true:=dT d0;clear hgo
    gi_wp2
    refine hRn.mono ?_;rintro e W3 (⟨rfl,hJ3,hk3⟩ | ⟨rfl,hJx3⟩)
    ·have hX3:=hk3.1 _ hX2
     have hf4:=hk3.2 _ _ hfq;have e0:W3.cell? ⟨x,0,none⟩=some (.slice A2 q.length c2):=by rw [hX3.cell];rfl
     have z0:=hX3.free 0
     gi_wp2
     have hX4:=hX3.set 0 (.slice A' q'.length c');refine ⟨⟨false,pre++[⟨mm,A2,c2⟩],q',A',c',rfl,hX4,?_,hq'.2.1,hq'.2.2,qI (hJc _ _ _ hJ3),hT⟩,?_⟩
     ·exact hf4.keep (Z0 (gR W3 _) 0 _) (Other.blk hX3 (by decide) hBx)
     ·have e1:lenC x wr=q.length:=by unfold lenC;rw [k0];rfl
      have e2:lenC x (W3.setCell ⟨x,0,none⟩ (.slice A' q'.length c'))=q'.length:=by unfold lenC;rw [hX4.cell];rfl
      rw [e1,e2];exact hmeas.2
    ·gi_wp2
     refine bodyPost_ret (results_none (by rfl) _ _ _) rfl ?_;exact ⟨⟨_,rfl⟩,.inr ⟨pre++[⟨mm,A2,c2⟩],⟨_,hT.out⟩,hJx3⟩⟩
  ·obtain rfl:first=false:=by cases first with | true=>exact absurd (.inl rfl) hgo | false=>rfl
   have hq0:Hid (q.length=0):=by unfold Hid;omega
   have d1:decide ((q.length:Int)>0)=false:=qF (by omega);have d2:decide ((0:Int)<(q.length:Int))=false:=qF (by omega);have d3:decide (0<q.length)=false:=qF (by omega);clear hgo
   gi_wp2
   go_end0;refine ⟨⟨_,rfl⟩,.inl ⟨pre,?_,hJ2.out⟩⟩;have h1:=hR2.out;rw [ZdS hq0.out,List.append_nil] at h1;exact h1.symm
end Go.Proofs.YtecpbcmpncgokaaGreat
set_option linter.unusedVariables false
namespace Go.Dol
open Go.RowKit
def shd (n:BA):BA:=n++⟨#[126]⟩
def ZO (n:BA):Bool:=decide (n.data.toList.getLast?=some 126)
def ZH (D:Dk) (s:BA):List (LU)→Int×Dk
 | []=>(0,D)
 | c::r=>if (appD D s c).1≠0 then appD D s c else ZH (appD D s c).2 s r
def lstD (D:Dk) (n:BA):Int×Dk:=if (Z10 D (shd n)).1≠0 then Z10 D (shd n) else renD (Z10 D (shd n)).2 (shd n) n
def Z20 (D:Dk) (n:BA) (b:LU):Int×Dk:=if (ZH D (shd n) (Zn b)).1≠0 then ZH D (shd n) (Zn b) else lstD (ZH D (shd n) (Zn b)).2 n
def Z2X (D:Dk) (n:BA) (b:LU):Int×Dk:=if frD D<16+((n.size:Int)+1)+b.length then (4,D) else Z20 D n b
def ZR (D:Dk) (n:BA) (b:LU):Int×Dk:=
 if Z4 (shd n)=false∨n.size=0∨ZO n=true then (1,D) else if D.dark=true then (5,D) else
  if (Z1 D.l (shd n)).isSome=true then (if (remD D (shd n)).1≠0 then remD D (shd n) else Z2X (remD D (shd n)).2 n b) else Z2X D n b
theorem Z0O (D:Dk) (s:BA) (c:LU) (r:List (LU)):ZH D s (c::r)=if (appD D s c).1≠0 then appD D s c else ZH (appD D s c).2 s r:=rfl
theorem Z0a (n:BA):(shd n).size=n.size+1:=by
 unfold shd;rw [ByteArray.size_append]
 rfl
theorem Z6J {D:Dk} {s:BA} {l:List (LU)} {c:LU} (h:(ZH D s l).1=0):ZH D s (l++[c])=appD (ZH D s l).2 s c:=by
 induction l generalizing D with
 | nil=>
  show (if (appD D s c).1≠0 then appD D s c else (0,(appD D s c).2))=appD D s c
  split
  ·rfl
  ·rename_i h1
   have h2:(appD D s c).1=0:=Decidable.not_not.1 h1;rw [←h2]
 | cons d r ih=>
  rw [List.cons_append,Z0O];rw [Z0O] at h ⊢
  by_cases h1:(appD D s d).1≠0
  ·rw [if_pos h1] at h
   exact absurd h h1
  ·rw [if_neg h1] at h
   rw [if_neg h1,if_neg h1];exact ih h
theorem Z6K {D:Dk} {s:BA} {l r:List (LU)} (h:(ZH D s l).1≠0):ZH D s (l++r)=ZH D s l:=by
 induction l generalizing D with
 | nil=>exact absurd rfl h
 | cons d q ih=>
  rw [List.cons_append,Z0O];rw [Z0O] at h ⊢
  by_cases h1:(appD D s d).1≠0
  ·rw [if_pos h1,if_pos h1]
  ·rw [if_neg h1] at h
   rw [if_neg h1,if_neg h1];exact ih h
end Go.Dol
set_option linter.unusedVariables false
namespace Go.Dol
open Go.RowKit Go.MapKept Go.Maps
open Go.WideElems (Fit rd rg)
theorem MapL.owns {P:Program} {k:TypeId} {w:World} {B:Nat} {al:List (Value×Value)} (hk:P.underlying k=some .string) (h:MapL P k w B al) (hl:al.length≤maxLen):
  ∃D0:DataW Unit,w.ownsMap P k (fun _=>some (.nil,[])) B al.length D0∧Maps.size D0=al.length∧ ∀ns:List BA,al.map Prod.fst=ns.map Value.string→(strKeys D0).Perm (ns.map fun n=>n.data.toList):=by
 obtain ⟨es,clock,hb,hS,hK,hal⟩:=h;have hlen:es.toList.length=al.length:=by rw [←hal,List.length_map]
 have hsz:es.size=al.length:=by rw [←hlen,Array.length_toList]
 have hp:=WideShapes.sorted_perm (H:=Unit) (es.toList.map (rg P k fun _=>some (.nil,[])));refine ⟨_,⟨es,clock,hb,⟨by omega,hS,fun x hx=> ?_⟩,by omega,rfl⟩,?_,fun ns hns=> ?_⟩
 ·obtain ⟨l,hl⟩:=hK x hx
  exact ⟨(l,.nil),by simp [rd,hl]⟩
 ·rw [size_eq,hp.length_eq,List.length_map,hlen]
 ·show (((es.toList.map (rg P k fun _=>some (.nil,[]))).foldr DataW.insert []).map fun p=>strOf p.1).Perm _
  refine (hp.map _).trans ?_;rw [List.map_map];have e:es.toList.map ((fun p=>strOf p.1)∘rg P k fun _=>some ((.nil:DataW Unit),[]))=ns.map fun n=>n.data.toList:=by
   have h1:es.toList.map (fun e=>e.key)=ns.map Value.string:=by
    rw [←hns,←hal,List.map_map]
    rfl
   have h2: ∀(l:List MapEntry) (m:List BA),(∀x∈l,∃t,keyOf P k x.key=some t)→l.map (fun e=>e.key)=m.map Value.string→l.map ((fun p=>strOf p.1)∘rg P k fun _=>some ((.nil:DataW Unit),[]))=m.map fun n=>n.data.toList:=by
    intro l
    induction l with
    | nil=>
     intro m _ hm
     cases m with
     | nil=>rfl
     | cons a b=>cases hm
    | cons x r ih=>
     intro m hx hm
     cases m with
     | nil=>cases hm
     | cons a b=>
      simp only [List.map_cons,List.cons.injEq] at hm ⊢;refine ⟨?_,ih b (fun y hy=>hx y (List.mem_cons_of_mem _ hy)) hm.2⟩;obtain ⟨t,ht⟩:=hx x (List.mem_cons_self ..);obtain ⟨s,hs1,hs2,_⟩:=Maps.keyOf_str hk ht;have hv:a=⟨s.toArray⟩:=by
       have:=hm.1.symm.trans hs1;injection this
      simp only [Function.comp,rg,rd,ht,hs2,Option.bind_some,Option.map_some,Option.getD_some,strOf];rw [hv]
   exact h2 _ _ hK h1
  rw [e]
end Go.Dol
set_option maxRecDepth 100000
set_option maxHeartbeats 800000
set_option linter.unusedVariables false
namespace Go.Dol
open Go.RowKit
structure PtA where
 p:Pt
 A:OA
 c:Nat
def idS (l:LU):BA:=⟨l.toArray⟩
def PtA.cells (x:PtA):List Value:=[.string (idS x.p.id),.int .i64 (x.p.kind:Nat),.int .i64 (x.p.depth:Nat),.int .i64 (x.p.size:Nat)]
def ptc (l:List PtA):List Value:=l.flatMap PtA.cells
def ptm (l:List PtA):List (Value×Value):=l.map fun x=>(.string (idS x.p.id),.slice x.A x.p.raw.length x.c)
def ptp (l:List PtA):List Pt:=l.map PtA.p
theorem Zij (l:List PtA): ∀u∈ptc l,u.oneCell'=true:=by
 intro u hu;obtain ⟨x,_,hx⟩:=List.mem_flatMap.1 hu;simp only [PtA.cells,List.mem_cons,List.not_mem_nil,or_false] at hx;rcases hx with rfl | rfl | rfl | rfl<;>rfl
theorem Z2l (l:LU):(idS l).data.toList=l:=by simp [idS]
theorem ZdH {l:LU} {s:BA}:idS l=s↔l=s.data.toList:=by
 constructor
 ·intro h;rw [←h];simp [idS]
 ·intro h;rw [h];cases s;simp [idS]
def Z1Y (l:List Pt) (s:LU):Option Pt:=l.find? fun p=>decide (p.id=s)
def getP (l:List Pt) (s:BA):Except Int (LU):=if s.size=32 then (match Z1Y l s.data.toList with | none=> .error 6 | some p=> .ok p.raw) else .error 1
def Z3W (l:List (LU)):List (LU):=l.mergeSort fun x y=>decide (x≤y)
def idsL (l:List Pt):List BA:=(Z3W (l.map (·.id))).map idS
theorem Z6F (l:List Pt):(idsL l).length=l.length:=by simp [idsL,Z3W,List.length_mergeSort]
theorem Z1w {w w':World} {base:Nat} {e:TypeId} {size:Nat} {v:Value} {n:Nat} {xs:List Value} (h:w.ownsRow base e size v n xs) (hk: ∀k,base≤k→k<w.heap.size→w'.heap[k]?=w.heap[k]?):w'.ownsRow base e size v n xs:=by
 refine ⟨h.1,?_⟩;rcases h.2 with h1 | ⟨g,cap,cur,rfl,h2,h3,h4⟩
 ·exact .inl h1
 ·exact .inr ⟨g,cap,cur,rfl,h2,(hk g h2 (Array.getElem?_eq_some_iff.1 h3).1).trans h3,h4⟩
end Go.Dol
namespace Go.Proofs.YtecpbcmpncgokaaGreat
open Go.RowKit Go.Dol
def B8 (w:World) (base:Nat) (A:OA) (l:LU):Prop:=Far w 0 A l∧(0<l.length→ ∀k,Z9 A=some k→base≤k)
theorem B8.nil {w:World} {base:Nat} {A:OA}:B8 w base A []:=⟨Far.nil,fun h=>absurd h (by decide)⟩
theorem B8.own {w:World} {base:Nat} {A:OA} {l:LU} {c:Nat} (h:w.ownsRow base 5 1 (.slice A l.length c) l.length (bc l)):B8 w base A l:=by
 refine ⟨Far.of_seg (Seg.of_own h),fun hn k hk=> ?_⟩;rcases h.2 with ⟨h1,h0⟩ | ⟨g,cap,cur,h1,h2,_⟩
 ·omega
 ·injection h1 with h1
  rw [h1] at hk;injection hk with hk
  have e:g=k:=hk;omega
theorem B8.rd {w:World} {base:Nat} {A:OA} {l:LU} (h:B8 w base A l):Rd w w.heap.size 1 A l.length (bc l):=h.1.1
theorem B8.lower {w:World} {base base':Nat} {A:OA} {l:LU} (h:B8 w base A l) (hb:base'≤base):B8 w base' A l:=⟨h.1,fun hn k hk=>lT hb (h.2 hn k hk)⟩
theorem B8.grown {w w':World} {base:Nat} {A:OA} {l:LU} (h:B8 w base A l) {row:Option Nat} (hg:w.grownBy w' row) (hr:Other w 0 row):B8 w' base A l:=⟨h.1.keep hg hr,h.2⟩
theorem B8.keepB {w w':World} {base:Nat} {A:OA} {l:LU} (h:B8 w base A l) (hk: ∀k,base≤k→k<w.heap.size→w'.heap[k]?=w.heap[k]?) (hs:w.heap.size≤w'.heap.size):B8 w' base A l:=by
 rcases Nat.eq_zero_or_pos l.length with h0 | h0
 ·obtain rfl:l=[]:=nZ h0
  exact B8.nil
 obtain ⟨b,off,e,hb,hc⟩:=h.1.1.at_ h0;have hsb:Z9 A=some b:=by rw [e];rfl
 have hbb:=h.2 h0 b hsb;refine ⟨⟨⟨h.1.1.len,fun _=>⟨b,off,e,Nat.lt_of_lt_of_le hb hs,fun j u hu=>(World.cell?_of_block (hk b hbb hb)).trans (hc j u hu)⟩⟩,fun _ k hk2=> ?_⟩,h.2⟩;rw [hsb] at hk2;injection hk2 with hk2
 subst hk2;rw [hk b hbb hb];exact h.1.2 h0 b hsb
structure Pck (w:World) (base g:Nat) (l:List PtA) (A:OA) (c m:Nat) (d:Int) (vi:Value):Prop where
 blk:Blk w g 205 [.slice A l.length c,.map (some m),.int .u32 d,.int .i32 0,.int .u32 0,vi]
 gb:base≤g
 mb:base≤m
 parts:w.ownsRow base 306 4 (.slice A l.length c) l.length (ptc l)
 map:MapL Tryz.prog 9 w m (ptm l)
 raws: ∀x∈l,B8 w base x.A x.p.raw∧x.p.raw.length≤x.c∧x.c≤maxLen
 ids:d=0∧vi= .slice none 0 0∨d=1∧ ∃Ai ci,vi= .slice Ai l.length ci∧w.ownsRow base 9 1 (.slice Ai l.length ci) l.length (pc (idsL (ptp l)))
section
variable {w w':World} {base g:Nat} {l:List PtA} {A:OA} {c m:Nat} {d:Int} {vi:Value}
theorem Pck.keep (h:Pck w base g l A c m d vi) (hk: ∀k,base≤k→k<w.heap.size→w'.heap[k]?=w.heap[k]?) (hs:w.heap.size≤w'.heap.size):Pck w' base g l A c m d vi:=
 ⟨h.blk.keepB (hk g h.gb h.blk.lt),h.gb,h.mb,Z1w h.parts hk,h.map.keepB (hk m h.mb h.map.lt),fun x hx=>⟨(h.raws x hx).1.keepB hk hs,(h.raws x hx).2⟩,by
  rcases h.ids with h1 | ⟨h1,Ai,ci,h2,h3⟩
  ·exact .inl h1
  ·exact .inr ⟨h1,Ai,ci,h2,Z1w h3 hk⟩⟩
theorem Pck.below (h:Pck w base g l A c m d vi) (hb:Below w.heap.size w w'):Pck w' base g l A c m d vi:=h.keep (fun k _ hk=>hb.block k hk) hb.size
theorem Pck.cells (h:Pck w base g l A c m d vi):w.cell? ⟨g,0,none⟩=some (.slice A l.length c)∧w.cell? ⟨g,1,none⟩=some (.map (some m))∧w.cell? ⟨g,2,none⟩=some (.int .u32 d)∧w.cell? ⟨g,3,none⟩=some (.int .i32 0)∧w.cell? ⟨g,5,none⟩=some vi:=
 ⟨by rw [h.blk.cell];rfl,by rw [h.blk.cell];rfl,by rw [h.blk.cell];rfl,by rw [h.blk.cell];rfl,by rw [h.blk.cell];rfl⟩
theorem ZaI (w:World):(zeroValue 36).run Tryz.prog w= .ok (.slice none 0 0) w:=by kernel_rfl
theorem Z2V:Go.Maps.Keyed Tryz.prog 9:=Go.Maps.string_keyed Tryz.underlying9
theorem Zik {l:List PtA} {s:BA} {v:Value} (hn:(l.map fun x=>x.p.id).Nodup) (h:(Value.string s,v)∈ptm l): ∃x∈l,v= .slice x.A x.p.raw.length x.c∧Z1Y (ptp l) s.data.toList=some x.p:=by
 obtain ⟨x,hx,e⟩:=List.mem_map.1 h;injection e with e1 e2
 injection e1 with e1
 refine ⟨x,hx,e2.symm,?_⟩;have hid:x.p.id=s.data.toList:=ZdH.1 e1;clear h e1 e2
 induction l with
 | nil=>cases hx
 | cons y l ih=>
  unfold Z1Y ptp;rw [List.map_cons,List.find?_cons];rw [List.map_cons,List.nodup_cons] at hn;rcases List.mem_cons.1 hx with rfl | hx
  ·rw [dT hid]
  ·have: ¬y.p.id=s.data.toList:=fun e=>hn.1 (List.mem_map.2 ⟨x,hx,by rw [hid,e]⟩)
   rw [qF this];exact ih hn.2 hx
theorem ZgS {l:List PtA} {s:BA} (h: ∀p∈ptm l,p.1≠Value.string s):Z1Y (ptp l) s.data.toList=none:=by
 unfold Z1Y ptp;rw [List.find?_eq_none];intro p hp;obtain ⟨x,hx,rfl⟩:=List.mem_map.1 hp;have:=h _ (List.mem_map.2 ⟨x,hx,rfl⟩);simp only [decide_eq_true_eq];intro e;exact this (congrArg Value.string (ZdH.2 e))
theorem Pck.nodup (h:Pck w base g l A c m d vi):(l.map fun x=>x.p.id).Nodup:=by
 have h1:=h.map.nodup;unfold ptm at h1;rw [List.map_map] at h1;have h2:(l.map fun x=>x.p.id).map (fun s=>Value.string (idS s))=l.map (Prod.fst∘fun x=>(Value.string (idS x.p.id),Value.slice x.A x.p.raw.length x.c)):=by rw [List.map_map];rfl
 rw [←h2] at h1;exact List.Pairwise.of_map _ (fun a b h e=>h (congrArg (fun s=>Value.string (idS s)) e)) h1
theorem Pck.look (h:Pck w base g l A c m d vi) (s:BA) (hs:s.size≤maxLen):
  (Z1Y (ptp l) s.data.toList=none∧(∀w',w'.heap[m]?=w.heap[m]?→(Instr.lookup 140 (.map (some m)) (.string s) true).run Tryz.prog w'= .ok (.tuple #[.slice none 0 0,.bool false]) w'))∨
  ∃x∈l,Z1Y (ptp l) s.data.toList=some x.p∧(∀w',w'.heap[m]?=w.heap[m]?→(Instr.lookup 140 (.map (some m)) (.string s) true).run Tryz.prog w'= .ok (.tuple #[.slice x.A x.p.raw.length x.c,.bool true]) w')∧
   (∀w',w'.heap[m]?=w.heap[m]?→(Instr.lookup 140 (.map (some m)) (.string s) false).run Tryz.prog w'= .ok (.slice x.A x.p.raw.length x.c) w'):=by
 have hkey:=WideMaps.keyOf_string_mk Tryz.underlying9 hs;have hn:=h.nodup;rcases h.map.look Z2V Tryz.underlying140 (ZaI w) hkey true with ⟨h1,_⟩ | ⟨v,h1,_⟩
 ·refine .inl ⟨ZgS h1,fun w' hw=> ?_⟩
  rcases (h.map.keepB hw).look Z2V Tryz.underlying140 (ZaI w') hkey true with ⟨_,h3⟩ | ⟨v,h3,_⟩
  ·exact h3
  ·exact absurd rfl (h1 _ h3)
 ·obtain ⟨x,hx,rfl,hl⟩:=Zik hn h1
  refine .inr ⟨x,hx,hl,fun w' hw=> ?_,fun w' hw=> ?_⟩
  ·rcases (h.map.keepB hw).look Z2V Tryz.underlying140 (ZaI w') hkey true with ⟨h3,_⟩ | ⟨v,h3,h4⟩
   ·exact absurd rfl (h3 _ h1)
   ·rw [Go.Proofs.YtecpbcmpncgokaaGreat.key_one h.map.nodup h3 h1] at h4
    exact h4
  ·rcases (h.map.keepB hw).look Z2V Tryz.underlying140 (ZaI w') hkey false with ⟨h3,_⟩ | ⟨v,h3,h4⟩
   ·exact absurd rfl (h3 _ h1)
   ·rw [Go.Proofs.YtecpbcmpncgokaaGreat.key_one h.map.nodup h3 h1] at h4
    exact h4
theorem Z9N (h:Pck w base g l A c m d vi) (s:BA) (hs:s.size≤maxLen):Calls Tryz.prog 86 #[.pointer (some ⟨g,0,none⟩),.string s] w fun e w'=>e= .returned (.bool (Z1Y (ptp l) s.data.toList).isSome)∧w'=w:=by
 obtain ⟨k0,k1,_⟩:=h.cells;rcases h.look s hs with ⟨hn,hl⟩ | ⟨x,hx,hn,hl,_⟩
 ·have hl0:=hl w rfl
  rw [hn];clear hl hn;go_in;go_wp2_with fail;go_ret;exact ⟨rfl,rfl⟩
 ·have hl0:=hl w rfl
  rw [hn];clear hl hn;go_in;go_wp2_with fail;go_ret;exact ⟨rfl,rfl⟩
def ZdI (w:World) (r:Except Int (LU)) (e:Ending) (w':World):Prop:=
 Below w.heap.size w w'∧match r with
  | .error k=>e= .returned (.tuple #[.slice none 0 0,.int .i64 k])
  | .ok p=> ∃(q:LU) (A:OA) (c:Nat),Hid (q=p)∧e= .returned (.tuple #[.slice A q.length c,.int .i64 0])∧w'.ownsRow w.heap.size 5 1 (.slice A q.length c) q.length (bc q)∧q.length≤c∧c≤maxLen
theorem Zfw (h:Pck w base g l A c m d vi) (s:BA) (hs:s.size≤maxLen) (hsz: ∀x∈l,x.p.raw.length≤140737488351232):Calls Tryz.prog 87 #[.pointer (some ⟨g,0,none⟩),.string s] w (ZdI w (getP (ptp l) s)):=by
 obtain ⟨k0,k1,_⟩:=h.cells;have HH:=qI (Z9N h s hs);unfold getP
 by_cases h32:s.size=32
 ·have d1:((s.size:Int)!=32)=false:=by simp;omega
  rw [if_pos h32];rcases h.look s hs with ⟨hn,hl⟩ | ⟨x,hx,hn,_,hl⟩
  ·rw [hn] at HH ⊢
   clear hl;have d2:(none:Option Pt).isSome=false:=rfl;rw [d2] at HH;go_in;go_wp2_with (go_at_call 86;refine HH.out.mono ?_;rintro e w' ⟨rfl,hw⟩;obtain rfl:=hw.symm);go_ret2;exact ⟨bR _ _,rfl⟩
  ·rw [hn] at HH ⊢
   have d2:(some x.p).isSome=true:=rfl;rw [d2] at HH;have hl0:=hl w rfl;have HC:=qI (Z1H x.A x.p.raw x.c w (h.raws x hx).1.rd (by have:=hsz x hx;omega));clear hl;go_in;go_wp2_with (first | (go_at_call 86;refine HH.out.mono ?_;rintro e w' ⟨rfl,hw⟩;obtain rfl:=hw.symm) | (go_at_call 93;refine HC.out.mono ?_;rintro e w' ⟨q,A1,c1,hq,rfl,ho,hb,i1,i2⟩));go_ret2;exact ⟨hb,q,A1,c1,hq,rfl,ho,i1,i2⟩
 ·have d1:((s.size:Int)!=32)=true:=by simp;omega
  rw [if_neg h32];go_in;go_wp2_with fail;go_ret2;exact ⟨bR _ _,rfl⟩
end
end Go.Proofs.YtecpbcmpncgokaaGreat
set_option linter.unusedVariables false
namespace Go.Dol
def Zc (id:BA):BA:=⟨#[111,47]⟩++⟨(Z16 id.data.toList).toArray⟩
theorem Z09 (id:BA):(Zc id).data.toList=111::47::Z16 id.data.toList:=by
 unfold Zc;rw [ByteArray.data_append];simp
theorem Z2j (id:BA):(Zc id).size=2+2*id.size:=by
 have h:=congrArg List.length (Z09 id);rw [List.length_cons,List.length_cons,Z1p] at h;have h1:(Zc id).data.toList.length=(Zc id).size:=by rw [Array.length_toList];rfl
 have h2:id.data.toList.length=id.size:=by rw [Array.length_toList];rfl
 omega
theorem Z29 {a b:BA} (h:Zc a=Zc b):a=b:=by
 have h1:=Z09 a;rw [h,Z09 b] at h1;injection h1 with _ h1
 injection h1 with _ h1
 exact Z3F (Zfc h1).symm
def getO (ge:BA→BA→Bool) (D:Dk) (id:BA):Except Int (LU):=
 if id.size≠32 then .error 1 else match Z1 D.l (Zc id) with
  | none=> .error 6
  | some b=>match Z2o b 2097152 with
   | none=> .error 2
   | some raw=>if ZC raw=id.data.toList∧Zd ge raw=true then .ok raw else .error 2
def idO (raw:LU):BA:=idS (ZC raw)
theorem ZM (raw:LU):(idO raw).size=32:=by
 show (ZC raw).toArray.size=32
 rw [List.size_toArray,ZX]
def putO (ge:BA→BA→Bool) (D:Dk) (raw:LU):Except Int BA×Dk:=
 if Zd ge raw=false then (.error 1,D) else
 match getO ge D (idO raw) with
 | .ok b=>if b=raw then (.ok (idO raw),D) else (.error 7,D)
 | .error k=>if k=2 then (.error 2,D) else
  if (ZR D (Zc (idO raw)) (Zt raw)).1≠0 then (.error (ZR D (Zc (idO raw)) (Zt raw)).1,(ZR D (Zc (idO raw)) (Zt raw)).2) else (.ok (idO raw),(ZR D (Zc (idO raw)) (Zt raw)).2)
def dropO (D:Dk) (id:BA):Int×Dk:=if id.size≠32 then (1,D) else if (Z1 D.l (Zc id)).isSome=true then remD D (Zc id) else (6,D)
def Z0u (n:BA):Option BA:=
 match n.data.toList with
 | 111::47::t=>match Z0f t with
  | none=>none
  | some q=>if q.length=32 then some (idS q) else none
 | _=>none
def idsO (D:Dk):List BA:=(D.l.map (·.1)).filterMap Z0u
end Go.Dol
set_option linter.unusedVariables false
namespace Go.Dol
open Go.RowKit
def Z12:List (LU)→List (LU)
 | []=>[]
 | [x]=>[x]
 | x::y::r=>if x=y then Z12 (y::r) else x::Z12 (y::r)
theorem Z4B: ∀(l:List (LU)) (z:LU),z∈Z12 l↔z∈l
 | [],z=>by simp [Z12]
 | [x],z=>by simp [Z12]
 | x::y::r,z=>by
  rw [Z12];split
  ·rename_i h
   rw [Z4B (y::r) z,h];simp
  ·rw [List.mem_cons,Z4B (y::r) z,←List.mem_cons]
theorem ZcX {a b:LU} (h:a≤b):a<b∨a=b:=by
 rcases Decidable.em (a<b) with h1 | h1
 ·exact .inl h1
 ·exact .inr (List.le_antisymm h (List.not_lt.1 h1))
theorem ZcY: ∀(l:List (LU)),l.Pairwise (fun a b=>a≤b)→(Z12 l).Pairwise fun a b=>a<b
 | [],_=>List.Pairwise.nil
 | [x],_=>List.pairwise_singleton ..
 | x::y::r,h=>by
  have h2:=List.pairwise_cons.1 h;have ih:=ZcY (y::r) h2.2;rw [Z12];split
  ·exact ih
  ·rename_i hne
   refine List.pairwise_cons.2 ⟨fun z hz=> ?_,ih⟩;have hz2:=(Z4B _ _).1 hz;have hxy:x<y:=by
    rcases ZcX (h2.1 y (List.mem_cons_self ..)) with h3 | h3
    ·exact h3
    ·exact absurd h3 hne
   rcases List.mem_cons.1 hz2 with e | hz3
   ·rw [e]
    exact hxy
   ·have h4:=(List.pairwise_cons.1 h2.2).1 z hz3
    rcases ZcX h4 with h5 | h5
    ·exact List.lt_trans hxy h5
    ·rw [←h5]
     exact hxy
theorem Z8y: ∀{a b:List (LU)},a.Pairwise (fun x y=>x<y)→b.Pairwise (fun x y=>x<y)→(∀z,z∈a↔z∈b)→a=b
 | [],[],_,_,_=>rfl
 | [],y::b,_,_,h=>by cases (h y).2 (List.mem_cons_self ..)
 | x::a,[],_,_,h=>by cases (h x).1 (List.mem_cons_self ..)
 | x::a,y::b,ha,hb,h=>by
  have ha2:=List.pairwise_cons.1 ha;have hb2:=List.pairwise_cons.1 hb;have hxy:x=y:=by
   rcases List.mem_cons.1 ((h x).1 (List.mem_cons_self ..)) with e | h1
   ·exact e
   ·rcases List.mem_cons.1 ((h y).2 (List.mem_cons_self ..)) with e | h2
    ·exact e.symm
    ·exact absurd (List.lt_trans (ha2.1 y h2) (hb2.1 x h1)) (List.lt_irrefl _)
  subst hxy
  congr 1
  refine Z8y ha2.2 hb2.2 fun z=>⟨fun hz=> ?_,fun hz=> ?_⟩
  ·rcases List.mem_cons.1 ((h z).1 (List.mem_cons_of_mem _ hz)) with e | h1
   ·exact absurd (ha2.1 z hz) (by rw [e];exact List.lt_irrefl _)
   ·exact h1
  ·rcases List.mem_cons.1 ((h z).2 (List.mem_cons_of_mem _ hz)) with e | h1
   ·exact absurd (hb2.1 z hz) (by rw [e];exact List.lt_irrefl _)
   ·exact h1
theorem ZhT (l:List (LU)):(Z3W l).Pairwise fun a b=>a≤b:=by
 have tr: ∀a b c:LU,decide (a≤b)=true→decide (b≤c)=true→decide (a≤c)=true:=fun a b c h1 h2=>dT (List.le_trans (of_decide_eq_true h1) (of_decide_eq_true h2));have to: ∀a b:LU,(decide (a≤b)||decide (b≤a))=true:=fun a b=>by
  rcases List.le_total a b with h | h<;>simp [h]
 exact (List.pairwise_mergeSort tr to l).imp fun h=>of_decide_eq_true h
theorem Z6o (l:List (LU)) (z:LU):z∈Z3W l↔z∈l:=(List.mergeSort_perm l _).mem_iff
def setL (l:List (LU)):List (LU):=Z12 (Z3W l)
theorem Z5S (l:List (LU)) (z:LU):z∈setL l↔z∈l:=(Z4B _ _).trans (Z6o _ _)
theorem Zba (l:List (LU)):(setL l).Pairwise fun a b=>a<b:=ZcY _ (ZhT l)
theorem ZcZ {a b:List (LU)} (h: ∀z,z∈a↔z∈b):setL a=setL b:=Z8y (Zba a) (Zba b) fun z=>by rw [Z5S,Z5S];exact h z
theorem Z8z: ∀(l:List (LU)) (y:LU),Z12 (l++[y])=if l.getLast?=some y then Z12 l else Z12 l++[y]
 | [],y=>by simp [Z12]
 | [x],y=>by
  by_cases h:x=y
  ·simp [Z12,h]
  ·simp [Z12,h]
 | x::z::r,y=>by
  have ih:=Z8z (z::r) y;rw [List.cons_append,List.cons_append,Z12,←List.cons_append,ih];have hl:(x::z::r).getLast?=(z::r).getLast?:=by simp [List.getLast?_cons_cons]
  rw [hl,Z12]
  by_cases h:(z::r).getLast?=some y
  ·rw [if_pos h,if_pos h]
  ·rw [if_neg h,if_neg h]
   split<;>simp
theorem Zbb (l:List (LU)):Lib.compact l=Z12 l:=by
 unfold Lib.compact;have key: ∀m,m≤l.length→Lib.compactUpTo l.toArray m=Z12 (l.take m):=by
  intro m
  induction m with
  | zero=>intro _;simp [Lib.compactUpTo,Z12]
  | succ m ih=>
   intro hm;rw [Lib.compactUpTo_succ,ih (by omega)];have hml:m<l.length:=by omega
   rw [List.take_succ_eq_append_getElem hml,Z8z];have e1:l.toArray[m]! =l[m]:=by simp [hml]
   by_cases h0:m=0
   ·subst h0
    simp [Lib.keeps,Z12,hml]
   ·have e2:l.toArray[m-1]! =l[m-1]:=by simp [show m-1<l.length by omega]
    have e3:(l.take m).getLast?=some l[m-1]:=by
     rw [List.getLast?_eq_getElem?,List.length_take,List.getElem?_take,Nat.min_eq_left (by omega),if_pos (by omega)];exact gE (by omega)
    rw [e3]
    by_cases h:l[m]=l[m-1]
    ·rw [Lib.keeps_neg (d:=l.toArray) (m:=m) (by omega) (by rw [e1,e2];exact h)]
     simp only [Bool.false_eq_true,if_false,List.append_nil];rw [if_pos (by rw [h])]
    ·rw [Lib.keeps_pos (d:=l.toArray) (m:=m) (by rw [e1,e2];exact h)]
     simp only [if_true];rw [if_neg (fun e=>h (by injection e with e;exact e.symm)),e1]
 have:=key l.length (lR _);rw [List.take_length] at this;exact this
end Go.Dol
set_option linter.unusedVariables false
namespace Go.Dol
open Go.RowKit
def Z0I (n:BA):Bool:=decide (n.data.toList.take 2=[112,47])&& !ZO n
def Zu (b:LU):BA:=⟨#[112,47]⟩++⟨(Z16 (b.drop (b.length-32))).toArray⟩
abbrev Pk:=BA×List Pt
def Zv (ge:BA→BA→Bool):List Fil→Option (List Pk)
 | []=>some []
 | f::r=>if Z0I f.1=true then match Z0M ge f.2 with
   | none=>none
   | some ps=>if Zu f.2=f.1 then (Zv ge r).map ((f.1,ps):: ·) else none
  else Zv ge r
def idsK (P:List Pk):List BA:=(setL (P.flatMap fun p=>p.2.map (·.id))).map idS
def Z4N:List Pk→BA→Option (LU)
 | [],_=>none
 | p::r,id=>match Z1Y p.2 id.data.toList with
  | some x=>some x.raw
  | none=>Z4N r id
def getS (ge:BA→BA→Bool) (D:Dk) (P:List Pk) (id:BA):Except Int (LU):=match getO ge D id with
 | .ok b=> .ok b
 | .error k=>if k=6 then (match Z4N P id with | some r=> .ok r | none=> .error 6) else .error k
def putS (ge:BA→BA→Bool) (D:Dk) (P:List Pk) (raw:LU):Except Int BA×Dk:=
 if Zd ge raw=false then (.error 1,D) else match getS ge D P (idO raw) with
 | .ok b=>if b=raw then (.ok (idO raw),D) else (.error 7,D)
 | .error k=>if k=2 then (.error 2,D) else putO ge D raw
def Z15 (ge:BA→BA→Bool) (D:Dk) (P:List Pk):List BA→Except Int (List (LU))
 | []=> .ok []
 | id::r=>match getS ge D P id with
  | .error k=> .error k
  | .ok b=>match Z15 ge D P r with
   | .error k=> .error k
   | .ok bs=> .ok (b::bs)
def Z0l (ge:BA→BA→Bool) (D:Dk) (P:List Pk) (ids:List BA):Except Int (Option (BA×LU)):=
 if ¬ids.Nodup then .error 1 else match Z15 ge D P ids with
 | .error k=> .error k
 | .ok bs=>match ZZ ge bs with
  | none=> .error 1
  | some b=>if ids=[] then .ok none else .ok (some (Zu b,b))
def Z1R (D:Dk):List BA→Int×Dk
 | []=>(0,D)
 | n::r=>if (remD D n).1≠0 then remD D n else Z1R (remD D n).2 r
def Z1V (D:Dk):List BA→Int×Dk
 | []=>(0,D)
 | id::r=>if (dropO D id).1≠0 then dropO D id else Z1V (dropO D id).2 r
def butL (but:BA) (l:List BA):List BA:=l.filter fun n=>decide (n≠but)
def Z8r (D:Dk) (P:List Pk) (but:BA):Int×Dk:=
 if (Z1R D (butL but (P.map Prod.fst))).1≠0 then Z1R D (butL but (P.map Prod.fst)) else
  Z1V (Z1R D (butL but (P.map Prod.fst))).2 (idsO (Z1R D (butL but (P.map Prod.fst))).2)
def Z0P (ge:BA→BA→Bool) (D:Dk) (but:BA):Int×Dk:=match Zv ge D.l with
 | none=>(2,D)
 | some P=>Z8r D P but
def ZcP (ge:BA→BA→Bool) (D:Dk) (P:List Pk) (ids:List BA):Int×Int:=match Z0l ge D P ids with
 | .error k=>(0,k)
 | .ok none=>(0,0)
 | .ok (some (n,b))=>if (Z1 D.l n).isSome=true then (0,0) else (16+(n.size+1)+b.length,0)
end Go.Dol
