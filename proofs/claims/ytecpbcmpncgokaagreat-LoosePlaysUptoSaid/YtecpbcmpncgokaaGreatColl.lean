/- The walks of the layer 'safe', its first part: what a save needs; how a name ends. Conditions: lengths below 2^63. A range over an iterator that makes new memory alone between two rounds. Conditions: none beyond what the law names. slices.Collect over an iterator that makes new memory alone. Conditions: at most 3518437208880 texts are told. -/
import Derived.Test.YtecpbcmpncgokaaGreatDiskM
import Derived.RangeFuncNested
import Derived.RangeFuncBound
import Derived.RangeFuncCalls
import Derived.RangeFuncLeaves
import Derived.Shelf.Abstract
import Derived.Shelf.RegionOpen
import Derived.OwnWalkIn
import Derived.TacticsInMore
import Derived.LoopNIn
import Derived.LoopIn
import Derived.Test.YtecpbcmpncgokaaGreatShort
import Derived.Test.YtecpbcmpncgokaaGreatDiskLaw
set_option maxRecDepth 100000
set_option maxHeartbeats 1600000
set_option linter.unusedVariables false
namespace Go.Dol
theorem Zfv {s:BA} (h: ¬s.size<1):((s.extract (s.size-1) s.size).toList==[126])=decide (s.data.toList.getLast?=some 126):=by
 have hl:=Zg s;obtain ⟨l,hL⟩: ∃l,l=s.data.toList:=⟨_,rfl⟩;have e1:(s.extract (s.size-1) s.size).toList=l.drop (s.size-1):=by
  rw [ByteArray.toList_eq,ByteArray.data_extract,Array.toList_extract,hL];simp only [List.extract_eq_take_drop];exact List.take_of_length_le (by rw [List.length_drop];omega)
 rw [←hL] at hl;rw [e1,←hL];obtain ⟨k,hk⟩: ∃k,s.size=k+1:=⟨s.size-1,by omega⟩;have hkl:k<l.length:=by omega
 have e2:l.drop k=[l[k]]:=by
  rw [List.drop_eq_getElem_cons hkl,List.drop_eq_nil_of_le (by omega)]
 have e3:l.getLast?=some l[k]:=by
  rw [List.getLast?_eq_getElem?,show l.length-1=k by omega];exact gE hkl
 rw [hk,Nat.add_sub_cancel,e2,e3]
 by_cases hx:l[k]=126<;>simp [hx]
end Go.Dol
namespace Go.Proofs.YtecpbcmpncgokaaGreat
open Go.RowKit Go.Dol
theorem Z3t (n:BA) (k:Int) (w:World) (hn:n.size≤140737488355328) (hk0: -4611686018427387904≤k) (hk:k≤4611686018427387904):
  Calls Tryz.prog 134 #[.string n,.int .i64 k] w fun e w'=>e= .returned (.int .i64 (16+(n.size+1)+max k 0))∧w'=w:=by
 have f1:IntKind.i64.wrap (16+((n.size:Int)+1))=16+((n.size:Int)+1):=qJ _ (by omega);have f2:IntKind.i64.wrap (16+((n.size:Int)+1)+max k 0)=16+((n.size:Int)+1)+max k 0:=qJ _ (by omega);go_in;go_wp2_with fail;go_ret;exact ⟨rfl,rfl⟩
theorem Z9H (s:BA) (w:World) (hn:s.size≤maxLen):
  Calls Tryz.prog 186 #[.string s,.string ⟨#[126]⟩] w fun e w'=>e= .returned (.bool (decide (s.data.toList.getLast?=some 126)))∧w'=w:=by
 by_cases h0:s.size<1
 ·have d1:decide ((s.size:Int)≥1)=false:=qF (by omega)
  have d1':decide ((1:Int)≤(s.size:Int))=false:=qF (by omega);go_in;go_wp2_with fail;go_ret;refine ⟨?_,rfl⟩;have h1:s.data.toList=[]:=nZ (by rw [Zg];omega);rw [h1]
  rfl
 ·have d1:decide ((s.size:Int)≥1)=true:=dT (by omega)
  have d1':decide ((1:Int)≤(s.size:Int))=true:=dT (by omega);have f1:IntKind.i64.wrap ((s.size:Int)-1)=(s.size:Int)-1:=qJ _ (by unfold maxLen at hn;omega);go_in;go_wp2_with fail;go_ret;refine ⟨?_,rfl⟩;rw [Zfv h0]
  rfl
theorem Z01 (s:BA) (w:World) (hn:s.size≤maxLen):
  Calls Tryz.prog 117 #[.string s,.string ⟨#[126]⟩] w fun e w'=>e= .returned (.bool (decide (s.data.toList.getLast?=some 126)))∧w'=w:=by
 have h:=Z9H s w hn;generalize decide (s.data.toList.getLast?=some 126)=r at h ⊢;go_in;go_wp2_with ((go_at_call 186;refine h.mono ?_;rintro e w' ⟨rfl,rfl⟩));go_ret;exact ⟨rfl,rfl⟩
end Go.Proofs.YtecpbcmpncgokaaGreat
namespace Go.Dol
open Go.RowKit
variable {F:Fence} {n:Nat} {P:Program}
def Zcz {α:Type} (F:Fence) (n:Nat) (P:Program) (gf:Nat) (lb:Array Value) (enc:α→Value) (x:Nat) (Pr:List α→α→World→Prop) (Kp:World→World→Prop) (S Sp:List α→Prop) (w:World):Prop:=
 ∀(l:Nat) (J Jx:List α→World→Prop) (W:World),Below w.heap.size w W→(∀pre W u,J pre W→J pre (W.setCell ⟨x,0,none⟩ u))→
  (∀pre y W1,J pre W1→Pr pre y W1→YieldAt F (n-1) P l #[enc y] W1 fun e W'=>(e= .returned (.bool true)∧J (pre++[y]) W'∧Kp W1 W')∨(e= .returned (.bool false)∧Jx (pre++[y]) W'))→
  J [] W→CallsIn F n P gf (#[.func (.yield l) #[] #[]]++lb) W fun e W'=>(∃v,e= .returned v)∧((∃xs,S xs∧J xs W')∨(∃pre,Sp pre∧Jx pre W'))
def Z0R (W:World) (l:Nat):Prop:=∃ o:Go.Obj,W.heap[l]?=some o∧o.isCells=false
structure LoopAt (r:Loop) (D:Nat) (W:World):Prop where
 rec_:W.heap[D+1]?=some (.loop r)
 def_:W.heap[D]?=some (.deferred (some []))
theorem LoopAt.keep {r:Loop} {D B:Nat} {W W':World} (h:LoopAt r D W) (hk:KeepsFrom B W W') (hB:B≤D):LoopAt r D W':=
 ⟨hk.same _ _ (by omega) h.rec_ rfl,hk.same _ _ hB h.def_ rfl⟩
theorem LoopAt.no {r:Loop} {D:Nat} {W:World} (h:LoopAt r D W):Z0R W (D+1):=⟨_,h.rec_,rfl⟩
theorem LoopAt.put {r:Loop} {D:Nat} {W:World} (h:LoopAt r D W) (r':Loop):LoopAt r' D (W.putObj (D+1) (.loop r')):=
 ⟨World.putObj_heap_same (Array.getElem?_eq_some_iff.1 h.rec_).1,(World.putObj_heap_other (by omega)).trans h.def_⟩
theorem LoopAt.cell {r:Loop} {D x:Nat} {W:World} (h:LoopAt r D W) (hx:x<D) (u:Value):LoopAt r D (W.setCell ⟨x,0,none⟩ u):=
 ⟨(Below.heap_setCell W _ u _ (by show D+1≠x;omega)).trans h.rec_,(Below.heap_setCell W _ u _ (by show D≠x;omega)).trans h.def_⟩
theorem Z7I {α:Type} {g:Operand} {p:Tmp} {assign body:Code} {Q:Exit→Act→World→Prop} {a:Act} {w:World}
  (hro:F.round=none) (h1:1≤n) {gf:Nat} {lb:Array Value} (hg:a.eval g= .func (.func gf) #[] lb) (hFg:F.fn gf) (eg: ∀args w,(callFunc gf args).run P w= .ok (.enter gf args) w)
  {enc:α→Value} {x:Nat} {Pr:List α→α→World→Prop} {Kp:World→World→Prop} {S Sp:List α→Prop} {w0:World} (hseq:Zcz F (n-1) P gf lb enc x Pr Kp S Sp w0) (hx:x<w.heap.size)
  (hKt: ∀{A B C:World},Kp A B→Kp B C→Kp A C) (hKb: ∀W l o,w.heap.size≤l→Z0R W l→Kp W (W.putObj l o)) (hb0:Below w0.heap.size w0 w)
  (I Ix:List α→World→Prop) (hI: ∀pre W o,I pre W→I pre (W.alloc o)) (hIp: ∀pre W l o,w.heap.size≤l→Z0R W l→I pre W→I pre (W.putObj l o)) (hIc: ∀pre W u,I pre W→I pre (W.setCell ⟨x,0,none⟩ u)) (hIxp: ∀pre W l o,w.heap.size≤l→Z0R W l→Ix pre W→Ix pre (W.putObj l o))
  (hPr: ∀pre y W l o,w.heap.size≤l→Z0R W l→Pr pre y W→Pr pre y (W.putObj l o)) (h0:I [] w) (q:Tmp)
  (hassign: ∀(l:Nat) (y:α) (W:World) (K:Act→World→Prop),K { tmps:=(a.tmps.setIfInBounds p (enc y)).setIfInBounds q (enc y),defers:=[] } W→assign.wpIn (F.inRound l) (n-1-1) P (Exit.then K (fun _ _ _=>False)) { tmps:=a.tmps.setIfInBounds p (enc y),defers:=[] } W)
  (hbody: ∀(l:Nat) (pre:List α) (y:α) (W:World),I pre W→Pr pre y W→body.wpIn (F.inRound l) (n-1-1) P (fun e _ W'=>match e with | .normal=>KeepsFrom w.heap.size W W'∧Kp W W'∧I (pre++[y]) W' | .ret=>KeepsFrom w.heap.size W W'∧Ix (pre++[y]) W' | _=>False) { tmps:=(a.tmps.setIfInBounds p (enc y)).setIfInBounds q (enc y),defers:=[] } W)
  (hdone: ∀(D:Nat) (xs:List α) (W:World),w.heap.size≤D→S xs→I xs W→W.heap[D]?=some (.deferred (some []))→Q .normal { a with defers:={ target:=.collected D,args:=#[] }::a.defers } W)
  (hstop: ∀(D:Nat) (pre:List α) (W:World),w.heap.size≤D→Sp pre→Ix pre W→W.heap[D]?=some (.deferred (some []))→Code.ret.wpIn F n P Q { a with defers:={ target:=.collected D,args:=#[] }::a.defers } W):
  (Code.rangeFunc g #[p] assign body).wpIn F n P Q a w:=by
 refine wpIn_rangeFunc fun fn hfn=> ?_;rw [hro]
 let R:LoopState→Option Code→Loop:=fun st pe=>{ state:=st,pending:=pe,fn,tmps:=a.tmps,params:=#[p],assign,body,defers:=w.heap.size }
 refine ⟨w.heap.size+1,[{ target:=.collected w.heap.size,args:=#[] }],(w.alloc (.deferred (some []))).alloc (.loop (R .ready none)),{ target:=.fn (.func gf) lb,args:=#[.func (.yield (w.heap.size+1)) #[] #[]] },(w.alloc (.deferred (some []))).alloc (.loop (R .ready none)),gf,
  #[.func (.yield (w.heap.size+1)) #[] #[]]++lb,(w.alloc (.deferred (some []))).alloc (.loop (R .ready none)),run_enterLoop_outer fn a.tmps #[p] assign body,?_,?_,?_,fun _=>h1,?_⟩
 ·simp only [resolve,hg]
  simp [go_sem]
 ·intro f' hf'
  simp only [Target.leads,Option.some.injEq] at hf';rw [←hf'];exact hFg
 ·simp [invoke,go_sem,eg]
 have hA:Below w.heap.size w ((w.alloc (.deferred (some []))).alloc (.loop (R .ready none))):=((bR _ _).alloc (lR _) _).alloc (by simp) _;have hL0:LoopAt (R .ready none) w.heap.size ((w.alloc (.deferred (some []))).alloc (.loop (R .ready none))):=by
  refine ⟨?_,(Below.heap_alloc _ _ _ (by simp)).trans (World.alloc_heap_new w _)⟩;have:=World.alloc_heap_new (w.alloc (.deferred (some []))) (.loop (R .ready none));rwa [World.size_alloc] at this
 refine (hseq (w.heap.size+1) (fun pre W=>I pre W∧LoopAt (R .ready none) w.heap.size W) (fun pre W=>Ix pre W∧LoopAt (R .done (some .ret)) w.heap.size W) _ (hb0.trans (hA.mono hb0.size))
  (fun pre W u h=>⟨hIc pre W u h.1,h.2.cell hx u⟩) ?_ ⟨hI _ _ _ (hI _ _ _ h0),hL0⟩).mono ?_
 ·intro pre y W h hp
  obtain ⟨hi,hl⟩:=h;refine ⟨fn,a.tmps.setIfInBounds p (enc y),assign,body,(run_yield (args:=#[enc y]) hl.rec_ (by rfl)).trans (by simp [R]),?_⟩;refine roundIn_of_wpIn hfn (hassign _ y W _ ?_);refine ⟨_,run_beginRound hl.rec_ rfl,?_⟩;have hl2:=hl.put (R .busy none);refine wpIn_mono (hbody _ pre y _ (hIp _ _ _ _ (by omega) hl.no hi) (hPr _ _ _ _ _ (by omega) hl.no hp)) ?_;intro e a3 W3 hq
  cases e with
  | normal=>
   obtain ⟨hk,hkp,hi3⟩:=hq;have hl3:=hl2.keep hk (lR _);exact ⟨_,_,run_endRound none hl3.rec_,.inl ⟨rfl,⟨hIp _ _ _ _ (by omega) hl3.no hi3,hl3.put _⟩,hKt (hKt (hKb _ _ _ (by omega) hl.no) hkp) (hKb _ _ _ (by omega) hl3.no)⟩⟩
  | ret=>
   obtain ⟨hk,hi3⟩:=hq;have hl3:=hl2.keep hk (lR _);exact ⟨_,_,run_endRound (some .ret) hl3.rec_,.inr ⟨rfl,hIxp _ _ _ _ (by omega) hl3.no hi3,hl3.put _⟩⟩
  | exit id=>exact hq.elim
  | goto t=>exact hq.elim
  | panic c=>exact hq.elim
  | outgrown=>exact hq.elim
 ·rintro e W2 ⟨⟨v,rfl⟩,(⟨xs,hS,hi,hl⟩ | ⟨pre,hS,hi,hl⟩)⟩
  ·exact ⟨none,_,run_endLoop hl.rec_ (by simp [R]),hdone _ xs _ (lR _) hS (hIp _ _ _ _ (by omega) hl.no hi) (hl.put _).def_⟩
  ·exact ⟨some .ret,_,run_endLoop hl.rec_ (by simp [R]),hstop _ pre _ (lR _) hS (hIxp _ _ _ _ (by omega) hl.no hi) (hl.put _).def_⟩
end Go.Dol
namespace Go.Dol
open Go.RowKit
def Z0t (l:LU):List (LU):=if h:l.length=0 then [] else l.take 64::Z0t (l.drop 64)
termination_by l.length
decreasing_by simp only [List.length_drop];omega
def Zf (l:LU):List (LU):=if l.length=0 then [[]] else Z0t l
def Z1a (first:Bool) (l:LU):List (LU):=if first=true then Zf l else Z0t l
theorem Z1X {first:Bool} {l:LU} (h:first=true∨0<l.length):Z1a first l=l.take 64::Z1a false (l.drop 64):=by
 have hG:0<l.length→Z0t l=l.take 64::Z0t (l.drop 64):=fun h=>by rw [Z0t,dif_neg (by omega)]
 cases first with
 | true=>
  simp only [Z1a,if_true,Bool.false_eq_true,if_false];unfold Zf
  by_cases h0:l.length=0
  ·rw [if_pos h0,nZ h0]
   have:Z0t ([]:LU)=[]:=by rw [Z0t];rfl
   simp [this]
  ·rw [if_neg h0]
   exact hG (by omega)
 | false=>
  rcases h with h | h
  ·cases h
  ·simp only [Z1a,Bool.false_eq_true,if_false]
   exact hG h
theorem Z59 {l:LU} (h:l.length=0):Z1a false l=[]:=by
 unfold Z1a;rw [if_neg (by decide),Z0t,dif_pos h]
structure Chunk where
 l:LU
 A:OA
 c:Nat
def Chunk.val (y:Chunk):Value:=.slice y.A y.l.length y.c
def lenC (x:Nat) (W:World):Nat:=lenV ((W.cell? ⟨x,0,none⟩).getD undef)
def Zb9:Value→Nat
 | .bool true=>1
 | _=>0
end Go.Dol
namespace Go.Proofs.YtecpbcmpncgokaaGreat
open Go.RowKit Go.Dol Go.Shelf
attribute [local go_sem] Oper.semAt_some
def ChPr (b:LU) (B:Nat) (pre:List Chunk) (y:Chunk) (W:World):Prop:=y.l.length≤64∧Far W B y.A y.l∧y.l.length≤y.c∧y.c≤maxLen∧ ∃r,Zf b=pre.map (·.l)++y.l::r
def ChK (B x:Nat) (W W':World):Prop:=(∀u,Blk W x 36 [u]→Blk W' x 36 [u])∧ ∀A l,Far W B A l→Far W' B A l
def ZgP (b:LU) (B x:Nat) (J:List Chunk→World→Prop) (f:Value) (wr:World):Prop:=
 ∃(first:Bool) (pre:List Chunk) (q:LU) (A:OA) (c:Nat),f= .bool first∧Blk wr x 36 [.slice A q.length c]∧Far wr B A q∧q.length≤c∧c≤maxLen∧Hid (J pre wr)∧Hid (Zf b=pre.map (·.l)++Z1a first q)
theorem Z7J (F:Fence) (n:Nat) (hF:F.fn 235) (hro:F.round=none) (hn:1≤n) (x B:Nat) (b:LU) (A:OA) (c:Nat) (w:World) (hX:Blk w x 36 [.slice A b.length c]) (hf:Far w B A b) (hc:b.length≤c) (hcm:c≤maxLen) (hBx:B≤x):
  Zcz F n Tryz.prog 235 #[.pointer (some ⟨x,0,none⟩)] Chunk.val x (ChPr b B) (ChK B x) (fun xs=>xs.map (·.l)=Zf b) (fun pre=> ∃r,Zf b=pre.map (·.l)++r) w:=by
 intro l J Jx W hW hJc hY h0;have hX0:=hX.below hW hX.lt;have hf0:=hf.below hW;have HJ:=qI h0;clear hX hf h0 hW;refine callsIn_of_wp Tryz.func235 rfl hF ?_ hro;simp only [Tryz.ntmps235,List.size_toArray,List.length_cons,List.length_nil,Nat.reduceAdd,Nat.reduceSub,Array.replicate_succ,Array.replicate_zero,List.push_toArray,List.append_toArray,List.nil_append,List.cons_append]
 gi_wp2
 gi_loopw [3] (fun f wr=>ZgP b B x J f wr) (fun f wr=>lenC x wr+Zb9 f)
 case atStart=>exact ⟨true,[],b,A,c,rfl,hX0,hf0,hc,hcm,HJ,qI (by simp [Z1a])⟩
 case round=>
  clear hX0 hf0 HJ;obtain ⟨first,pre,q,A2,c2,rfl,hX2,hf2,hc2,hcm2,hJ2,hR2⟩:=hrel;have k0:wr.cell? ⟨x,0,none⟩=some (.slice A2 q.length c2):=by rw [hX2.cell];rfl
  by_cases hgo:first=true∨0<q.length
  ·obtain ⟨k,hk⟩: ∃k,k=min q.length 64:=⟨_,rfl⟩
   have hkI:min (q.length:Int) 64=(k:Nat):=by omega
   have hkq:k≤q.length:=by omega
   obtain ⟨mm,em,jm,jm',⟨rm,km,km'⟩,_,sm⟩:=ZeR (k:=k) (min (q.length:Int) 64) hkI hf2.1 hkq hc2 hcm2;obtain ⟨q',A',c',eq,jq,jq',hq',_,sq,_,sn⟩:=Z0V (k:=k) (min (q.length:Int) 64) hkI hf2.1 hkq hc2 hcm2;have et:q.take k=q.take 64:=by
    by_cases h6:q.length≤64
    ·rw [List.take_of_length_le (by omega),List.take_of_length_le h6]
    ·rw [show k=64 by omega]
   have ed:q.drop k=q.drop 64:=by
    by_cases h6:q.length≤64
    ·rw [List.drop_eq_nil_of_le (by omega),List.drop_eq_nil_of_le h6]
    ·rw [show k=64 by omega]
   have hnext:=Z1X hgo;have hP:ChPr b B pre ⟨mm,A2,c2⟩ wr:=by
    refine ⟨by show mm.length≤64;omega,hf2.piece (k:=0) ⟨rm,km,km'⟩ (lR _) (by show mm.length+0≤q.length;omega) rfl,km,km',Z1a false (q.drop 64),?_⟩;rw [hR2.out,hnext];show pre.map (·.l)++q.take 64::_=pre.map (·.l)++mm::_
    rw [em.out,et]
   obtain ⟨fn,tmps,assign,body,hy,hRn⟩:=hY pre ⟨mm,A2,c2⟩ wr hJ2.out hP;change (Instr.yield l #[.slice A2 mm.length c2]).run Tryz.prog wr= .ok (.round l fn tmps assign body) wr at hy;have hfq:Far wr B A' q':=hf2.piece (k:=0) hq' (lR _) (by omega) sq;have hmeas:(first=true→True)∧q'.length+Zb9 (.bool false)<q.length+Zb9 (.bool first):=by
    refine ⟨fun _=>trivial,?_⟩;rcases hgo with rfl | hgo
    ·simp only [Zb9];omega
    ·have h6:q'.length<q.length:=by rw [eq.out,List.length_drop];omega
     cases first<;>simp only [Zb9]<;>omega
   have hT:Hid (Zf b=(pre++[(⟨mm,A2,c2⟩:Chunk)]).map (·.l)++Z1a false q'):=by
    unfold Hid;rw [hR2.out,hnext,eq.out,ed,List.map_append];simp only [List.map_cons,List.map_nil,List.append_assoc,List.cons_append,List.nil_append];rw [em.out,et]
   have hEQ:=qI hk;clear hk hkI et ed hnext hP
   cases first with
   | true=>
    clear hgo
    gi_wp2
    refine hRn.mono ?_;rintro e W3 (⟨rfl,hJ3,hk3⟩ | ⟨rfl,hJx3⟩)
    ·have hX3:=hk3.1 _ hX2
     have hf4:=hk3.2 _ _ hfq;have e0:W3.cell? ⟨x,0,none⟩=some (.slice A2 q.length c2):=by rw [hX3.cell];rfl
     have z0:=hX3.free 0
     gi_wp2
     have hX4:=hX3.set 0 (.slice A' q'.length c');refine ⟨⟨false,pre++[⟨mm,A2,c2⟩],q',A',c',rfl,hX4,?_,hq'.2.1,hq'.2.2,qI (hJc _ _ _ hJ3),hT⟩,?_⟩
     ·exact hf4.keep (Z0 (gR W3 _) 0 _) (Other.blk hX3 (by decide) hBx)
     ·have e1:lenC x wr=q.length:=by unfold lenC;rw [k0];rfl
      have e2:lenC x (W3.setCell ⟨x,0,none⟩ (.slice A' q'.length c'))=q'.length:=by unfold lenC;rw [hX4.cell];rfl
      rw [e1,e2];exact hmeas.2
    ·gi_wp2
     refine bodyPost_ret (results_none (by rfl) _ _ _) rfl ?_;exact ⟨⟨_,rfl⟩,.inr ⟨pre++[⟨mm,A2,c2⟩],⟨_,hT.out⟩,hJx3⟩⟩
   | false=>
    have d0:0<q.length:=hgo.resolve_left (by decide);have d1:decide ((q.length:Int)>0)=true:=dT (by omega);have d2:decide ((0:Int)<(q.length:Int))=true:=dT (by omega);have d3:decide (0<q.length)=true:=dT d0;clear hgo
    gi_wp2
    refine hRn.mono ?_;rintro e W3 (⟨rfl,hJ3,hk3⟩ | ⟨rfl,hJx3⟩)
    ·have hX3:=hk3.1 _ hX2
     have hf4:=hk3.2 _ _ hfq;have e0:W3.cell? ⟨x,0,none⟩=some (.slice A2 q.length c2):=by rw [hX3.cell];rfl
     have z0:=hX3.free 0
     gi_wp2
     have hX4:=hX3.set 0 (.slice A' q'.length c');refine ⟨⟨false,pre++[⟨mm,A2,c2⟩],q',A',c',rfl,hX4,?_,hq'.2.1,hq'.2.2,qI (hJc _ _ _ hJ3),hT⟩,?_⟩
     ·exact hf4.keep (Z0 (gR W3 _) 0 _) (Other.blk hX3 (by decide) hBx)
     ·have e1:lenC x wr=q.length:=by unfold lenC;rw [k0];rfl
      have e2:lenC x (W3.setCell ⟨x,0,none⟩ (.slice A' q'.length c'))=q'.length:=by unfold lenC;rw [hX4.cell];rfl
      rw [e1,e2];exact hmeas.2
    ·gi_wp2
     refine bodyPost_ret (results_none (by rfl) _ _ _) rfl ?_;exact ⟨⟨_,rfl⟩,.inr ⟨pre++[⟨mm,A2,c2⟩],⟨_,hT.out⟩,hJx3⟩⟩
  ·obtain rfl:first=false:=by cases first with | true=>exact absurd (.inl rfl) hgo | false=>rfl
   have hq0:Hid (q.length=0):=by unfold Hid;omega
   have d1:decide ((q.length:Int)>0)=false:=qF (by omega);have d2:decide ((0:Int)<(q.length:Int))=false:=qF (by omega);have d3:decide (0<q.length)=false:=qF (by omega);clear hgo
   gi_wp2
   go_end0;refine ⟨⟨_,rfl⟩,.inl ⟨pre,?_,hJ2.out⟩⟩;have h1:=hR2.out;rw [Z59 hq0.out,List.append_nil] at h1;exact h1.symm
end Go.Proofs.YtecpbcmpncgokaaGreat
set_option linter.unusedVariables false
namespace Go.Dol
open Go.RowKit
variable {F:Fence} {n:Nat} {P:Program}
def Z7H {α:Type} (F:Fence) (n:Nat) (P:Program) (gf:Nat) (lb:Array Value) (enc:α→Value) (N:Nat) (S:List α→Prop) (w:World):Prop:=
 ∀(l:Nat) (J:Option Nat→List α→World→Prop) (W:World),Below w.heap.size w W→(∀K pre W1 W2,J K pre W1→Below W1.heap.size W1 W2→J K pre W2)→
  (∀K pre y W1,J K pre W1→pre.length<N→YieldAt F (n-1) P l #[enc y] W1 fun e W'=>e= .returned (.bool true)∧J K (pre++[y]) W'∧W1.heap.size≤W'.heap.size∧ ∀k,K=some k→W'.heap[k]?=W1.heap[k]?)→
  (∀K W1,Below W.heap.size W W1→(∀k,K=some k→W.heap.size≤k∧k<W1.heap.size)→J K [] W1)→CallsIn F n P gf (#[.func (.yield l) #[] #[]]++lb) W fun e W'=>(∃v,e= .returned v)∧ ∃K xs,S xs∧J K xs W'
theorem LoopAt.below {r:Loop} {D:Nat} {W W':World} (h:LoopAt r D W) (hb:Below W.heap.size W W'):LoopAt r D W':=
 ⟨(hb.block _ (Array.getElem?_eq_some_iff.1 h.rec_).1).trans h.rec_,(hb.block _ (Array.getElem?_eq_some_iff.1 h.def_).1).trans h.def_⟩
theorem Zdf {α:Type} {g:Operand} {p:Tmp} {assign body:Code} {Q:Exit→Act→World→Prop} {a:Act} {w:World}
  (hro:F.round=none) (h1:1≤n) {gf:Nat} {lb:Array Value} (hg:a.eval g= .func (.func gf) #[] lb) (hFg:F.fn gf) (eg: ∀args w,(callFunc gf args).run P w= .ok (.enter gf args) w)
  {enc:α→Value} {N:Nat} {S:List α→Prop} {w0:World} (hseq:Z7H F (n-1) P gf lb enc N S w0) (hb0:Below w0.heap.size w0 w)
  (I:Option Nat→List α→World→Prop) (hI0: ∀K W,Below w.heap.size w W→(∀k,K=some k→w.heap.size≤k∧k<W.heap.size)→I K [] W) (hIb: ∀K pre W W',I K pre W→Below W.heap.size W W'→I K pre W')
  (hIp: ∀K pre W l o,w.heap.size≤l→Z0R W l→I K pre W→I K pre (W.putObj l o)) (q:Tmp)
  (hassign: ∀(l:Nat) (y:α) (W:World) (K:Act→World→Prop),K { tmps:=(a.tmps.setIfInBounds p (enc y)).setIfInBounds q (enc y),defers:=[] } W→assign.wpIn (F.inRound l) (n-1-1) P (Exit.then K (fun _ _ _=>False)) { tmps:=a.tmps.setIfInBounds p (enc y),defers:=[] } W)
  (hbody: ∀(l:Nat) (K:Option Nat) (pre:List α) (y:α) (W:World),pre.length<N→I K pre W→body.wpIn (F.inRound l) (n-1-1) P (fun e _ W'=>match e with | .normal=>KeepsFrom w.heap.size W W'∧I K (pre++[y]) W'∧ ∀k,K=some k→W'.heap[k]?=W.heap[k]? | _=>False) { tmps:=(a.tmps.setIfInBounds p (enc y)).setIfInBounds q (enc y),defers:=[] } W)
  (hdone: ∀(D:Nat) (K:Option Nat) (xs:List α) (W:World),w.heap.size≤D→S xs→I K xs W→W.heap[D]?=some (.deferred (some []))→Q .normal { a with defers:={ target:=.collected D,args:=#[] }::a.defers } W):
  (Code.rangeFunc g #[p] assign body).wpIn F n P Q a w:=by
 refine wpIn_rangeFunc fun fn hfn=> ?_;rw [hro]
 let R:LoopState→Option Code→Loop:=fun st pe=>{ state:=st,pending:=pe,fn,tmps:=a.tmps,params:=#[p],assign,body,defers:=w.heap.size }
 refine ⟨w.heap.size+1,[{ target:=.collected w.heap.size,args:=#[] }],(w.alloc (.deferred (some []))).alloc (.loop (R .ready none)),{ target:=.fn (.func gf) lb,args:=#[.func (.yield (w.heap.size+1)) #[] #[]] },(w.alloc (.deferred (some []))).alloc (.loop (R .ready none)),gf,
  #[.func (.yield (w.heap.size+1)) #[] #[]]++lb,(w.alloc (.deferred (some []))).alloc (.loop (R .ready none)),run_enterLoop_outer fn a.tmps #[p] assign body,?_,?_,?_,fun _=>h1,?_⟩
 ·simp only [resolve,hg]
  simp [go_sem]
 ·intro f' hf'
  simp only [Target.leads,Option.some.injEq] at hf';rw [←hf'];exact hFg
 ·simp [invoke,go_sem,eg]
 have hA:Below w.heap.size w ((w.alloc (.deferred (some []))).alloc (.loop (R .ready none))):=((bR _ _).alloc (lR _) _).alloc (by simp) _;have hsz:((w.alloc (.deferred (some []))).alloc (.loop (R .ready none))).heap.size=w.heap.size+1+1:=by simp
 have hL0:LoopAt (R .ready none) w.heap.size ((w.alloc (.deferred (some []))).alloc (.loop (R .ready none))):=by
  refine ⟨?_,(Below.heap_alloc _ _ _ (by simp)).trans (World.alloc_heap_new w _)⟩;have:=World.alloc_heap_new (w.alloc (.deferred (some []))) (.loop (R .ready none));rwa [World.size_alloc] at this
 refine (hseq (w.heap.size+1) (fun K pre W=>I K pre W∧LoopAt (R .ready none) w.heap.size W∧ ∀k,K=some k→w.heap.size+1+1≤k) _ (hb0.trans (hA.mono hb0.size))
  (fun K pre W1 W2 h hb=>⟨hIb K pre W1 W2 h.1 hb,h.2.1.below hb,h.2.2⟩) ?_
  (fun K W1 hb hk=>⟨hI0 K W1 (hA.trans (hb.mono hA.size)) (fun k e=>⟨by have:=(hk k e).1;rw [hsz] at this;omega,(hk k e).2⟩),hL0.below hb,fun k e=>by have:=(hk k e).1;rw [hsz] at this;exact this⟩)).mono ?_
 ·intro K pre y W h hN
  obtain ⟨hi,hl,hK⟩:=h;refine ⟨fn,a.tmps.setIfInBounds p (enc y),assign,body,(run_yield (args:=#[enc y]) hl.rec_ (by rfl)).trans (by simp [R]),?_⟩;refine roundIn_of_wpIn hfn (hassign _ y W _ ?_);refine ⟨_,run_beginRound hl.rec_ rfl,?_⟩;have hl2:=hl.put (R .busy none);refine wpIn_mono (hbody _ K pre y _ hN (hIp _ _ _ _ _ (by omega) hl.no hi)) ?_;intro e a3 W3 hq
  cases e with
  | normal=>
   obtain ⟨hk,hi3,hk3⟩:=hq;have hl3:=hl2.keep hk (lR _);have h9:=hk.size;refine ⟨_,_,run_endRound none hl3.rec_,rfl,⟨hIp _ _ _ _ _ (by omega) hl3.no hi3,hl3.put _,hK⟩,?_,fun k e=> ?_⟩
   ·simpa using h9
   ·have h8:=hK k e
    rw [World.putObj_heap_other (by omega),hk3 k e,World.putObj_heap_other (by omega)]
  | ret=>exact hq.elim
  | exit id=>exact hq.elim
  | goto t=>exact hq.elim
  | panic c=>exact hq.elim
  | outgrown=>exact hq.elim
 ·rintro e W2 ⟨⟨v,rfl⟩,K,xs,hS,hi,hl,_⟩
  exact ⟨none,_,run_endLoop hl.rec_ (by simp [R]),hdone _ K xs _ (lR _) hS (hIp _ _ _ _ _ (by omega) hl.no hi) (hl.put _).def_⟩
open Go.RowKit
section
variable {w w':World} {base:Nat} {e:TypeId} {size n c:Nat} {A:OA} {v:Value} {xs:List Value}
theorem Zet {W:World} {x:Nat} {T:TypeId} {cs:List Value} (h:Blk W x T cs) {l:Nat} (hl:Z0R W l) (o:Go.Obj):Blk (W.putObj l o) x T cs:=by
 refine (World.putObj_heap_other fun e=> ?_).trans h;obtain ⟨o',ho,hc⟩:=hl;unfold Blk at h;rw [←e,h] at ho;injection ho with ho
 rw [←ho] at hc;cases hc
theorem Z67 (h:w.ownsRow base e size v n xs) (hk: ∀k,v.ownBlock=some k→w'.heap[k]?=w.heap[k]?):w'.ownsRow base e size v n xs:=by
 refine ⟨h.1,?_⟩;rcases h.2 with h0 | ⟨g,cap,cur,rfl,h2,h3,h4⟩
 ·exact .inl h0
 ·exact .inr ⟨g,cap,cur,rfl,h2,(hk g rfl).trans h3,h4⟩
theorem Z2C (h:w.ownsRow base e size v n xs): ∀k,v.ownBlock=some k→base≤k∧k<w.heap.size:=by
 intro k hk;rcases h.2 with ⟨rfl,_⟩ | ⟨g,cap,cur,rfl,h2,h3,_⟩
 ·cases hk
 ·have:g=k:=by simpa [Value.ownBlock] using hk
  subst this;exact ⟨h2,(Array.getElem?_eq_some_iff.1 h3).1⟩
end
theorem Z58 {F:Fence} {N:Nat} {P:Program} (w:World) {ops:Array Oper} {rest:List Oper} {o:Oper} {a:Act} {Q:Exit→Act→World→Prop}
  (hg:o.guard=none) (s x:Operand) (t:TypeId) (hop:o.op=Op.call { callee:=Callee.builtin Builtin.append,args:=#[s,x],argTypes:=#[t,t] })
  (base:Nat) (e:TypeId) (z:Value) (bytes:Nat) (h1:P.underlying t=some (.slice e)) (hi:(P.info? e).map (fun i=>(i.zero,i.size,i.bytes))=some (some z,1,bytes)) (h6:z.cells.size=1)
  (A:OA) (n c:Nat) (xs:List Value) (hs:a.eval s= .slice A n c) (hown:w.ownsRow base e 1 (.slice A n c) n xs) (A2:OA) (m c2:Nat) (news:List Value) (hx:a.eval x= .slice A2 m c2) (B:Nat) (hr:Rd w B 1 A2 m news)
  (h1c: ∀u∈news,u.oneCell'=true) (hm:0<m) (b1:n+m≤maxLen) (b2:(n+m)*bytes≤140737488355328) (b3:base≤w.heap.size)
  (hK: ∀A' c' w',w'.ownsRow base e 1 (.slice A' (n+m) c') (n+m) (xs++news)→w.grownBy w' (Value.slice A n c).ownBlock→(∀k,(Value.slice A' (n+m) c').ownBlock=some k→(Value.slice A n c).ownBlock=some k∨k=w.heap.size)→wpListIn F N P ops Q rest (a.put o.dst (.slice A' (n+m) c')) w'):
  wpListIn F N P ops Q (o::rest) a w:=by
 refine wpListIn_plain hg fun K hK'=> ?_;obtain ⟨i,hi0,hz0,hz1,hz2⟩:=info_parts hi;have hsrc:=Src.ofRd (tx:=t) (c:=c2) h1 hr h1c;obtain ⟨A',c',w',hrun,r1,r2,r3⟩:=Z3E (P:=P) w base t t o.type e i z 1 bytes h1 hi0 hz0 hz1 hz2 h6 A n c xs (Seg.of_own hown) (.slice A2 m c2) m news hsrc b1 b2 b3;obtain ⟨b,off,rfl,hb,hcell⟩:=hr.at_ hm;have hcell2: ∀j u,news[j]?=some u→w.cell? ((⟨b,off,none⟩:Addr).add j)=some u:=fun j u hu=>by
  have h9:=hcell j u hu;unfold Addr.add;split
  ·rename_i h0
   rw [h0] at h9;exact h9
  ·exact h9
 obtain ⟨v',w2,hrun2,s1,s2,s3⟩:=run_append_own (P:=P) w base t o.type e i z 1 bytes h1 hi0 hz0 hz1 hz2 h6 (by decide) _ n xs hown ⟨b,off,none⟩ m c2 news (by have:=hr.1;omega) hcell2 h1c b1 b2 b3;rw [hrun] at hrun2;injection hrun2 with e1 e2
 subst e1 e2;unfold Oper.wpIn;refine ⟨?_,?_⟩
 ·simp [Oper.about,hop,resolve,Target.leads,Sem.run_pure]
 ·rw [Oper.semAt_plain F _ _ (by rw [hop];intro c hc';cases hc')]
  simp [execOp,hop,resolve,invoke,builtin,hs,hx,hrun,Result.andThen];refine hK' _ _ (hK A' c' w' s1 s2 fun k hk=> ?_);rcases r3 with ⟨rfl,rfl⟩ | ⟨_,h9⟩
  ·left
   cases A' with
   | none=>cases hk
   | some a=>simpa [Value.ownBlock] using hk
  ·right
   cases A' with
   | none=>cases hk
   | some a=>
    simp only [Value.ownBlock,Option.some.injEq] at hk;simp only [Zl,Option.map_some,Option.some.injEq] at h9;omega
end Go.Dol
set_option maxRecDepth 100000
set_option maxHeartbeats 1600000
set_option linter.unusedVariables false
namespace Go.Proofs.YtecpbcmpncgokaaGreat
open Go.RowKit Go.Dol Go.Shelf
attribute [local go_sem] Oper.semAt_some
theorem Za2:(Tryz.prog.info? 9).map (fun i=>(i.zero,i.size,i.bytes))=some (some (.string ⟨#[]⟩),1,16):=by kernel_rfl
def ClI (w:World) (K:Option Nat) (pre:List BA) (W:World):Prop:=
  ∃A c,Blk W w.heap.size 38 [.slice A pre.length c]∧W.ownsRow w.heap.size 9 1 (.slice A pre.length c) pre.length (sc pre)∧(∀k,K=some k→k≠w.heap.size∧k<W.heap.size∧(Value.slice A pre.length c).ownBlock≠some k)∧Below w.heap.size w W
def Zcg (w:World) (S:List BA→Prop) (e:Ending) (w':World):Prop:=
  ∃(xs:List BA) (A:OA) (c:Nat),Hid (S xs)∧e= .returned (.slice A xs.length c)∧w'.ownsRow w.heap.size 9 1 (.slice A xs.length c) xs.length (sc xs)∧Below w.heap.size w w'
theorem Zch (l:List BA) (x:BA):sc (l++[x])=sc l++[.string x]:=by simp [sc]
theorem Z6z (gf:Nat) (lb:Array Value) (eg: ∀args w,(callFunc gf args).run Tryz.prog w= .ok (.enter gf args) w) (S:List BA→Prop) (N:Nat) (hN:N≤3518437208880) (w:World) (hseq:Z7H Fence.wide 4 Tryz.prog gf lb Value.string N S w):
    CallsIn Fence.wide 5 Tryz.prog 182 #[.slice none 0 0, .func (.func gf) #[] lb] w (Zcg w S):=by
  refine callsIn_of_wp_marks Tryz.func182 rfl trivial ?_ rfl;simp only [Tryz.ntmps182,List.size_toArray,List.length_cons,List.length_nil,Nat.reduceAdd,Nat.reduceSub,Array.replicate_succ,Array.replicate_zero,List.push_toArray,List.append_toArray,List.nil_append,List.cons_append]
  gi_wp2
  have hb0:Below w.heap.size w (w.alloc (.cells #[.slice none 0 0] 38)):=(bR _ _).alloc (lR _) _;have hB0:=Blk.new w 38 [.slice none 0 0];have hs0:(w.alloc (.cells #[.slice none 0 0] 38)).heap.size=w.heap.size+1:=by simp
  refine Zdf (p:=7) (q:=5) rfl (by omega) (gf:=gf) (lb:=lb) rfl trivial eg hseq hb0 (ClI w) ?start ?keep ?put ?assign ?body ?done
  case start=>
    intro K W hb hk;rw [hs0] at hk;refine ⟨none,0,hB0.below hb (by rw [hs0];omega),World.ownsRow_nil _ _ _ _,fun k e=>⟨?_,(hk k e).2,by simp [Value.ownBlock]⟩,hb0.trans (hb.mono hb0.size)⟩;have:=(hk k e).1;omega
  case keep=>
    rintro K pre W W' ⟨A,c,h1,h2,h3,h4⟩ hb;exact ⟨A,c,h1.below hb h1.lt,Zh h2 hb,fun k e=>⟨(h3 k e).1,Nat.lt_of_lt_of_le (h3 k e).2.1 hb.size,(h3 k e).2.2⟩,h4.next hb⟩
  case put=>
    rintro K pre W l o hl hn ⟨A,c,h1,h2,h3,h4⟩;rw [hs0] at hl;have hg:=grownBy_putObj' W l o;refine ⟨A,c,Zet h1 hn o,Z67 h2 fun k hk=> ?_,fun k e=>⟨(h3 k e).1,by simpa using (h3 k e).2.1,(h3 k e).2.2⟩,h4.grown hg h4.size (fun k e=>by injection e with e;omega)⟩;refine hg.block k (Z2C h2 k hk).2 fun e=> ?_;injection e with e
    subst e;obtain ⟨o',ho',hc'⟩:=hn;rcases h2.2 with ⟨e,_⟩ | ⟨g,cap,cur,e,_,h5,_⟩
    · rw [e] at hk
      cases hk
    · rw [e] at hk
      have:g=k:=by simpa [Value.ownBlock] using hk
      subst this;rw [h5] at ho';injection ho' with ho'
      rw [←ho'] at hc';cases hc'
  case assign=>
    intro l y W K hK
    gi_wp2
    exact hK
  case body=>
    rintro l K pre y W hpl ⟨A,c,h1,h2,h3,h4⟩;have k0:W.cell? ⟨w.heap.size,0,none⟩=some (.slice A pre.length c):=by rw [h1.cell];rfl
    have hw:=h1.lt;have hr:Rd (W.alloc (.cells #[.string y] 9)) (W.heap.size+1) 1 (some ⟨W.heap.size,0,none⟩) 1 [.string y]:=Rd.new1 W _ _;have ho:=h2.alloc (.cells #[.string y] 9);have hB:=h1.alloc (.cells #[.string y] 9);have hne:=own_ne ho hB (by decide);simp only [List.setIfInBounds_toArray,List.set_cons_succ,List.set_cons_zero]
    gi_wp2_with (first
      | (gi_at_builtin;refine Z58 _ rfl _ _ 38 rfl w.heap.size 9 (.string ⟨#[]⟩) 16 Tryz.underlying38 Za2 rfl A pre.length c (sc pre) rfl ho _ 1 1 [.string y] rfl _ hr (by intro u hu;obtain rfl:=List.mem_singleton.1 hu;rfl) (by decide) (by unfold maxLen;omega) (by omega) (by simp;omega) ?_;intro A' c' w3 ho3 hg3 hat3
         have hB3:=hB.grown hg3 (fun e=>hne e.symm);have z3:=hB3.free 0
         have c3:w3.cell? ⟨w.heap.size,0,none⟩=some (.slice A pre.length c):=by rw [hB3.cell];rfl)
      | gi_in)
    have hs3:=hg3.size;rw [World.size_alloc] at hs3;have hB4:=hB3.set 0 (.slice A' (pre.length+1) c');have hg4:w3.grownBy (w3.setCell ⟨w.heap.size,0,none⟩ (.slice A' (pre.length+1) c')) (some w.heap.size):=Z0 (gR w3 _) 0 _;have hne3:=own_ne ho3 hB3 (by decide);have ho4:=ho3.kept hg4 (.inr hne3);have hl:(pre++[y]).length=pre.length+1:=by simp
    refine ⟨⟨?_,fun k o hk ho9 hc9=> ?_⟩,⟨A',c',by rw [hl];exact hB4,by rw [hl,Zch];exact ho4,fun k e=>⟨(h3 k e).1, ?_,fun e9=> ?_⟩, ?_⟩,fun k e=> ?_⟩
    · exact lT (by omega) hg4.size
    · have hkl:=(Array.getElem?_eq_some_iff.1 ho9).1
      rw [hg4.block k (by omega) (fun e=>by injection e with e;omega),hg3.block k (by simp;omega) (fun e=> ?_),Below.heap_alloc _ _ k hkl]
      · exact ho9
      · rcases h2.2 with ⟨e2,_⟩ | ⟨g,cap,cur,e2,_,h5,_⟩
        · rw [e2] at e
          cases e
        · rw [e2] at e
          have:k=g:=by simpa [Value.ownBlock] using e
          subst this;rw [h5] at ho9;injection ho9 with ho9
          rw [←ho9] at hc9;cases hc9
    · have:=hg4.size
      have:=(h3 k e).2.1;omega
    · rw [hl] at e9
      rcases hat3 k e9 with e8 | e8
      · exact (h3 k e).2.2 e8
      · have:=(h3 k e).2.1
        rw [World.size_alloc] at e8;omega
    · exact ((h4.alloc h4.size _).grown hg3 (by have:=h4.size;simp;omega) (fun k e=>(Z2C h2 k e).1)).grown hg4 (by have:=h4.size;omega) (fun k e=>by injection e with e;omega)
    · rw [hg4.block k (by have:=(h3 k e).2.1;omega) (fun e9=>by injection e9 with e9;exact (h3 k e).1 e9),hg3.block k (by have:=(h3 k e).2.1;simp;omega) (fun e9=>(h3 k e).2.2 e9.symm),Below.heap_alloc _ _ k (h3 k e).2.1]
  case done=>
    rintro Dd K xs W hD hS ⟨A,c,h1,h2,h3,h4⟩ hdef;rw [hs0] at hD;have k0:W.cell? ⟨w.heap.size,0,none⟩=some (.slice A xs.length c):=by rw [h1.cell];rfl
    have HS:=qI hS
    gi_wp2
    refine ⟨by simp, .inl ⟨_,_,rfl,run_takeDeferred hdef, ?_⟩⟩;have hg:=grownBy_putObj' W Dd (.deferred none);refine ⟨_,results_tmp rfl _ _ _,xs,A,c,HS,rfl,Z67 h2 fun k hk=>hg.block k (Z2C h2 k hk).2 fun e=> ?_,h4.grown hg h4.size (fun k e=>by injection e with e;omega)⟩;injection e with e
    subst e;rcases h2.2 with ⟨e2,_⟩ | ⟨g,cap,cur,e2,_,h5,_⟩
    · rw [e2] at hk
      cases hk
    · rw [e2] at hk
      have:g=k:=by simpa [Value.ownBlock] using hk
      subst this;rw [h5] at hdef;cases hdef
theorem Z4z (gf:Nat) (lb:Array Value) (eg: ∀args w,(callFunc gf args).run Tryz.prog w= .ok (.enter gf args) w) (S:List BA→Prop) (N:Nat) (hN:N≤3518437208880) (w:World) (hseq:Z7H Fence.wide 4 Tryz.prog gf lb Value.string N S w):
    Calls Tryz.prog 114 #[.func (.func gf) #[] lb] w (Zcg w S):=by
  have HA:=qI (callsIn_wide.1 (Z6z gf lb eg S N hN w hseq));go_in;go_wp2_with fail;refine HA.out.mono ?_;rintro e w1 ⟨xs,A,c,hS,rfl,ho,hb⟩;go_wp2_with fail;go_ret;exact ⟨xs,A,c,hS,rfl,ho,hb⟩
end Go.Proofs.YtecpbcmpncgokaaGreat
