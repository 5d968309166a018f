/- The layer 'store': the walks of Has and Put. Conditions: a disk in good order; bytes below 2^47 - 4096. A range over an iterator that makes new memory alone between two rounds. Conditions: none beyond what the law names. slices.Collect over an iterator that makes new memory alone. Conditions: at most 3518437208880 texts are told. The walks of the layer 'sum', its eleventh part: bytes of digits. Conditions: bytes that are made fit 2^47. The walks of the layer 'sum', its twelfth part: bytes of digits. Conditions: bytes that are made fit 2^47. The walks of the layer 'loose': which files are called by an id; all ids. Conditions: a disk in good order; texts of at most 2^47 bytes. The layer 'store': is a file a pack's; what it is called. Conditions: texts of at most 2^47 bytes; a pack's bytes, of 32 at least. -/
import Derived.Test.YtecpbcmpncgokaaGreatSto1
import Derived.Test.YtecpbcmpncgokaaGreatShort
import Derived.Test.YtecpbcmpncgokaaGreatStoSpec
import Derived.Test.YtecpbcmpncgokaaGreatDiskLaw
import Derived.Test.YtecpbcmpncgokaaGreatCodeA
import Derived.Test.YtecpbcmpncgokaaGreatShelfA
import Derived.Deep.QuietTactic
import Derived.BigQuiet
import Derived.Test.YtecpbcmpncgokaaGreatLoo2
import Derived.Test.YtecpbcmpncgokaaGreatRefDisk
set_option maxRecDepth 100000
set_option maxHeartbeats 3200000
set_option linter.unusedVariables false
namespace Go.Dol
open Go.RowKit
theorem ZjX (P:List Pk) (id:BA) (b:LU):Zhn P id (.ok b)= .ok b:=rfl
theorem Z8f (ge:BA→BA→Bool) (D:Dk) (P:List Pk) (raw:LU) (h:Zd ge raw=false):putS ge D P raw=(.error 1,D):=if_pos h
theorem ZaW {ge:BA→BA→Bool} {D:Dk} {P:List Pk} {raw:LU} (h:Zd ge raw=true):putS ge D P raw=match getS ge D P (idO raw) with
 | .ok b=>if b=raw then (.ok (idO raw),D) else (.error 7,D)
 | .error k=>if k=2 then (.error 2,D) else putO ge D raw:=by
 unfold putS;rw [if_neg (by rw [h];decide)]
 rfl
end Go.Dol
namespace Go.Proofs.YtecpbcmpncgokaaGreat
open Go.RowKit Go.Dol
theorem Zho {ge:BA→BA→Bool} {D:Dk} {P:List Pk} {id:BA} (h:id.size=32) {k:Int} (e:getS ge D P id= .error k):k=2∨k=6:=by
 unfold getS at e;split at e
 ·cases e
 ·rename_i k' h1
  rcases ZbJ h h1 with rfl | rfl
  ·rw [if_neg (by decide)] at e
   injection e with e
   exact .inl e.symm
  ·rw [if_pos rfl] at e
   split at e
   ·cases e
   ·injection e with e
    exact .inr e.symm
def RetPutS (w:World) (gs g m base gp:Nat) (xs:List PkA) (r:Except Int BA×Dk) (e:Ending) (w':World):Prop:=e= .returned (putR r.1)∧Sto w' gs g m base gp r.2 xs∧Tw w w' g m
section
variable {w w':World} {base gp gs g m:Nat} {xs:List PkA} {D:Dk}
def isOk (r:Except Int (LU)):Bool:=match r with | .ok _=>true | .error _=>false
theorem Z8g (h:Sto w gs g m base gp D xs) (hK:OkW D) (hP:PkOk (xs.map PkA.pk)) (hn:xs.length≤3518437208880) (id:BA) (hid:id.size≤70368744177600) (hne:getS geS D (xs.map PkA.pk) id≠ .error 0):
  Calls Tryz.prog 65 #[.pointer (some ⟨gs,0,none⟩),.string id] w fun e w'=>e= .returned (.bool (isOk (getS geS D (xs.map PkA.pk) id)))∧Below w.heap.size w w':=by
 have HG:=qI (Z59 h hK hP hn id hid);obtain ⟨q,hq⟩: ∃q,q=getS geS D (xs.map PkA.pk) id:=⟨_,rfl⟩;rw [←hq] at HG hne ⊢;clear hq;go_in;go_wp2_with fail;refine HG.out.mono ?_;intro e w1 h1
 cases q with
 | ok b=>
  obtain ⟨hb1,q',A1,c1,hq',rfl,ho1,i1,i2⟩:=h1;go_wp2_with fail;go_ret;exact ⟨rfl,hb1⟩
 | error k=>
  obtain ⟨hb1,rfl⟩:=h1;have z1:(k==0)=false:=beq_eq_false_iff_ne.2 fun e=>hne (by rw [e]);clear hne;go_wp2_with fail;go_ret;exact ⟨rfl,hb1⟩
theorem Z5a (h:Sto w gs g m base gp D xs) (hK:OkW D) (hsl:D.l.length+1≤3518437208880) (hP:PkOk (xs.map PkA.pk)) (hn:xs.length≤3518437208880) (A:OA) (raw:LU) (c:Nat) (hr:Rd w w.heap.size 1 A raw.length (bc raw)) (hc:raw.length≤c) (hcm:c≤maxLen) (hl:raw.length≤140737488351232):
  Calls Tryz.prog 61 #[.pointer (some ⟨gs,0,none⟩),.slice A raw.length c] w (RetPutS w gs g m base gp xs (putS geS D (xs.map PkA.pk) raw)):=by
 obtain ⟨r,hre⟩: ∃r,r=putS geS D (xs.map PkA.pk) raw:=⟨_,rfl⟩;rw [←hre];have HR:=qI hre;clear hre;have hD:=Z24 A raw c w hr hc hcm hl;go_in;go_wp2_with fail
 cases hdec:decO geS raw with
 | none=>
  rw [hdec] at hD;have HD:=qI hD;have hr2:Hid (r=(.error 1,D)):=by
   unfold Hid;rw [HR.out];exact Z8f _ _ _ _ (by unfold Zd;rw [hdec];rfl)
  clear hD hdec;refine HD.out.mono ?_;rintro e w2 ⟨rfl,hb2⟩;go_wp2_with fail;go_ret2;rw [hr2.out];exact ⟨rfl,h.below (hb2.alloc hb2.size _),Tw.below (hb2.alloc hb2.size _)⟩
 | some o=>
  rw [hdec] at hD;have HD:=qI hD;have hobj:Zd geS raw=true:=by unfold Zd;rw [hdec];rfl
  have hr2:=qI (HR.out.trans (ZaW hobj));clear hD hdec hobj;refine HD.out.mono ?_;rintro e w2 ⟨k,Ad,d,cd,Ae,en,ce,tr,Ap,pa,cp,ta,na,wh,st,te,ho,rfl,_,_,_,hb2,_,_,_⟩;clear ho;have hb02:=hb2.alloc hb2.size (.cells #[.int .i64 k,.slice Ad d.length cd,.slice Ae en.length ce,.string tr,.slice Ap pa.length cp,.string ta,.string na,.string wh,.int .i64 st,.string te] 40);have h2:=h.below hb02;have hM:=Z1h h2;have HM:=qI hM;have hr3:Rd _ _ 1 A raw.length (bc raw):=(hr.below hb02).more hb02.size;have HS:=qI (Z2i A raw c _ hr3 (by omega));clear hM;go_wp2_with fail;refine HM.out.mono ?_;rintro e w3 ⟨rfl,hw3⟩;obtain rfl:=hw3.symm;go_wp2_with fail;refine HS.out.mono ?_;rintro e w4 ⟨rfl,hb4⟩;have h4:=h2.below hb4;have hb04:=hb02.next hb4;obtain ⟨id,hid⟩: ∃id:BA,id=idO raw:=⟨_,rfl⟩;have h32:id.size=32:=by rw [hid];exact ZM raw
  have hidO:=qI hid;rw [←hid];clear hid HS;have HG:=qI (Z59 h4 hK hP hn id (by omega));go_wp2_with fail;refine HG.out.mono ?_;obtain ⟨q,hq⟩: ∃q,q=getS geS D (xs.map PkA.pk) id:=⟨_,rfl⟩;rw [←hq];rw [←hidO.out,←hq] at hr2;rintro e w5 ⟨hb5,hm⟩;have h5:=h4.below hb5;have hb05:=hb04.next hb5;have hr5:Rd w5 w5.heap.size 1 A raw.length (bc raw):=(hr.below hb05).more hb05.size
  cases q with
  | ok b=>
   obtain ⟨b',Ab,cb,hbb,rfl,hob,hbc,hbcm⟩:=hm;have HE:=qI (Z1t Ab b' b'.length cb A raw raw.length c w5 _ _ (Rd.of_own hob) hr5);have hr3:Hid (r=if b'=raw then (.ok id,D) else (.error 7,D)):=by
    unfold Hid;rw [hr2.out];simp only;rw [hbb.out]
   clear hbb hq;go_wp2_with fail;refine HE.out.mono ?_
   by_cases hb:b'=raw
   ·have hr4:Hid (r=(.ok id,D)):=by unfold Hid;rw [hr3.out,if_pos hb]
    rw [dT hb];rintro e w6 ⟨rfl,hw6⟩;obtain rfl:=hw6.symm;clear hb;go_wp2_with fail;go_ret2;rw [hr4.out];exact ⟨rfl,h5,Tw.below hb05⟩
   ·have hr4:Hid (r=(.error 7,D)):=by unfold Hid;rw [hr3.out,if_neg hb]
    rw [qF hb];rintro e w6 ⟨rfl,hw6⟩;obtain rfl:=hw6.symm;clear hb;go_wp2_with fail;go_ret2;rw [hr4.out];exact ⟨rfl,h5,Tw.below hb05⟩
  | error k0=>
   obtain rfl:=hm;rcases Zho h32 hq.symm with rfl | rfl
   ·have hr3:Hid (r=(.error 2,D)):=by
     unfold Hid;rw [hr2.out]
     rfl
    clear hq;go_wp2_with fail;go_ret2;rw [hr3.out];exact ⟨rfl,h5,Tw.below hb05⟩
   ·have hPu:=Zdn h5.dk hK hsl A raw c hr5 hc hcm hl
    have hr3:r=putO geS D raw:=by
     rw [hr2.out]
     rfl
    rw [←hr3] at hPu;have HPu:=qI hPu;have k0:w5.cell? ⟨gs,0,none⟩=some (.pointer (some ⟨g,0,none⟩)):=by rw [h5.st.cell];rfl
    clear hq hPu hr3;go_wp2_with fail;refine HPu.out.mono ?_;intro e w6 hm;obtain ⟨r1,r2⟩:=r
    cases r1 with
    | ok x=>
     obtain ⟨rfl,hd6,ht6⟩:=RetPut.ok hm;go_wp2_with fail;go_ret2;exact ⟨rfl,h5.tw ht6 hd6,(Tw.below hb05).step ht6⟩
    | error x=>
     obtain ⟨rfl,hd6,ht6⟩:=RetPut.err hm;go_wp2_with fail;go_ret2;exact ⟨rfl,h5.tw ht6 hd6,(Tw.below hb05).step ht6⟩
end
end Go.Proofs.YtecpbcmpncgokaaGreat
set_option linter.unusedVariables false
namespace Go.Dol
open Go.RowKit
variable {F:Fence} {n:Nat} {P:Program}
def ZaN {α:Type} (F:Fence) (n:Nat) (P:Program) (gf:Nat) (lb:Array Value) (enc:α→Value) (N:Nat) (S:List α→Prop) (w:World):Prop:=
 ∀(l:Nat) (J:Option Nat→List α→World→Prop) (W:World),Below w.heap.size w W→(∀K pre W1 W2,J K pre W1→Below W1.heap.size W1 W2→J K pre W2)→
  (∀K pre y W1,J K pre W1→pre.length<N→YieldAt F (n-1) P l #[enc y] W1 fun e W'=>e= .returned (.bool true)∧J K (pre++[y]) W'∧W1.heap.size≤W'.heap.size∧ ∀k,K=some k→W'.heap[k]?=W1.heap[k]?)→
  (∀K W1,Below W.heap.size W W1→(∀k,K=some k→W.heap.size≤k∧k<W1.heap.size)→J K [] W1)→CallsIn F n P gf (#[.func (.yield l) #[] #[]]++lb) W fun e W'=>(∃v,e= .returned v)∧ ∃K xs,S xs∧J K xs W'
theorem LoopAt.below {r:Loop} {D:Nat} {W W':World} (h:LoopAt r D W) (hb:Below W.heap.size W W'):LoopAt r D W':=
 ⟨(hb.block _ (Array.getElem?_eq_some_iff.1 h.rec_).1).trans h.rec_,(hb.block _ (Array.getElem?_eq_some_iff.1 h.def_).1).trans h.def_⟩
theorem ZfM {α:Type} {g:Operand} {p:Tmp} {assign body:Code} {Q:Exit→Act→World→Prop} {a:Act} {w:World}
  (hro:F.round=none) (h1:1≤n) {gf:Nat} {lb:Array Value} (hg:a.eval g= .func (.func gf) #[] lb) (hFg:F.fn gf) (eg: ∀args w,(callFunc gf args).run P w= .ok (.enter gf args) w)
  {enc:α→Value} {N:Nat} {S:List α→Prop} {w0:World} (hseq:ZaN F (n-1) P gf lb enc N S w0) (hb0:Below w0.heap.size w0 w)
  (I:Option Nat→List α→World→Prop) (hI0: ∀K W,Below w.heap.size w W→(∀k,K=some k→w.heap.size≤k∧k<W.heap.size)→I K [] W) (hIb: ∀K pre W W',I K pre W→Below W.heap.size W W'→I K pre W')
  (hIp: ∀K pre W l o,w.heap.size≤l→Z0X W l→I K pre W→I K pre (W.putObj l o)) (q:Tmp)
  (hassign: ∀(l:Nat) (y:α) (W:World) (K:Act→World→Prop),K { tmps:=(a.tmps.setIfInBounds p (enc y)).setIfInBounds q (enc y),defers:=[] } W→assign.wpIn (F.inRound l) (n-1-1) P (Exit.then K (fun _ _ _=>False)) { tmps:=a.tmps.setIfInBounds p (enc y),defers:=[] } W)
  (hbody: ∀(l:Nat) (K:Option Nat) (pre:List α) (y:α) (W:World),pre.length<N→I K pre W→body.wpIn (F.inRound l) (n-1-1) P (fun e _ W'=>match e with | .normal=>KeepsFrom w.heap.size W W'∧I K (pre++[y]) W'∧ ∀k,K=some k→W'.heap[k]?=W.heap[k]? | _=>False) { tmps:=(a.tmps.setIfInBounds p (enc y)).setIfInBounds q (enc y),defers:=[] } W)
  (hdone: ∀(D:Nat) (K:Option Nat) (xs:List α) (W:World),w.heap.size≤D→S xs→I K xs W→W.heap[D]?=some (.deferred (some []))→Q .normal { a with defers:={ target:=.collected D,args:=#[] }::a.defers } W):
  (Code.rangeFunc g #[p] assign body).wpIn F n P Q a w:=by
 refine wpIn_rangeFunc fun fn hfn=> ?_;rw [hro]
 let R:LoopState→Option Code→Loop:=fun st pe=>{ state:=st,pending:=pe,fn,tmps:=a.tmps,params:=#[p],assign,body,defers:=w.heap.size }
 refine ⟨w.heap.size+1,[{ target:=.collected w.heap.size,args:=#[] }],(w.alloc (.deferred (some []))).alloc (.loop (R .ready none)),{ target:=.fn (.func gf) lb,args:=#[.func (.yield (w.heap.size+1)) #[] #[]] },(w.alloc (.deferred (some []))).alloc (.loop (R .ready none)),gf,
  #[.func (.yield (w.heap.size+1)) #[] #[]]++lb,(w.alloc (.deferred (some []))).alloc (.loop (R .ready none)),run_enterLoop_outer fn a.tmps #[p] assign body,?_,?_,?_,fun _=>h1,?_⟩
 ·simp only [resolve,hg]
  simp [go_sem]
 ·intro f' hf'
  simp only [Target.leads,Option.some.injEq] at hf';rw [←hf'];exact hFg
 ·simp [invoke,go_sem,eg]
 have hA:Below w.heap.size w ((w.alloc (.deferred (some []))).alloc (.loop (R .ready none))):=((bR _ _).alloc (lR _) _).alloc (by simp) _;have hsz:((w.alloc (.deferred (some []))).alloc (.loop (R .ready none))).heap.size=w.heap.size+1+1:=by simp
 have hL0:LoopAt (R .ready none) w.heap.size ((w.alloc (.deferred (some []))).alloc (.loop (R .ready none))):=by
  refine ⟨?_,(Below.heap_alloc _ _ _ (by simp)).trans (World.alloc_heap_new w _)⟩;have:=World.alloc_heap_new (w.alloc (.deferred (some []))) (.loop (R .ready none));rwa [World.size_alloc] at this
 refine (hseq (w.heap.size+1) (fun K pre W=>I K pre W∧LoopAt (R .ready none) w.heap.size W∧ ∀k,K=some k→w.heap.size+1+1≤k) _ (hb0.trans (hA.mono hb0.size))
  (fun K pre W1 W2 h hb=>⟨hIb K pre W1 W2 h.1 hb,h.2.1.below hb,h.2.2⟩) ?_
  (fun K W1 hb hk=>⟨hI0 K W1 (hA.trans (hb.mono hA.size)) (fun k e=>⟨by have:=(hk k e).1;rw [hsz] at this;omega,(hk k e).2⟩),hL0.below hb,fun k e=>by have:=(hk k e).1;rw [hsz] at this;exact this⟩)).mono ?_
 ·intro K pre y W h hN
  obtain ⟨hi,hl,hK⟩:=h;refine ⟨fn,a.tmps.setIfInBounds p (enc y),assign,body,(run_yield (args:=#[enc y]) hl.rec_ (by rfl)).trans (by simp [R]),?_⟩;refine roundIn_of_wpIn hfn (hassign _ y W _ ?_);refine ⟨_,run_beginRound hl.rec_ rfl,?_⟩;have hl2:=hl.put (R .busy none);refine wpIn_mono (hbody _ K pre y _ hN (hIp _ _ _ _ _ (by omega) hl.no hi)) ?_;intro e a3 W3 hq
  cases e with
  | normal=>
   obtain ⟨hk,hi3,hk3⟩:=hq;have hl3:=hl2.keep hk (lR _);have h9:=hk.size;refine ⟨_,_,run_endRound none hl3.rec_,rfl,⟨hIp _ _ _ _ _ (by omega) hl3.no hi3,hl3.put _,hK⟩,?_,fun k e=> ?_⟩
   ·simpa using h9
   ·have h8:=hK k e
    rw [World.putObj_heap_other (by omega),hk3 k e,World.putObj_heap_other (by omega)]
  | ret=>exact hq.elim
  | exit id=>exact hq.elim
  | goto t=>exact hq.elim
  | panic c=>exact hq.elim
  | outgrown=>exact hq.elim
 ·rintro e W2 ⟨⟨v,rfl⟩,K,xs,hS,hi,hl,_⟩
  exact ⟨none,_,run_endLoop hl.rec_ (by simp [R]),hdone _ K xs _ (lR _) hS (hIp _ _ _ _ _ (by omega) hl.no hi) (hl.put _).def_⟩
open Go.RowKit
section
variable {w w':World} {base:Nat} {e:TypeId} {size n c:Nat} {A:OA} {v:Value} {xs:List Value}
theorem Zhg {W:World} {x:Nat} {T:TypeId} {cs:List Value} (h:Blk W x T cs) {l:Nat} (hl:Z0X W l) (o:Go.Obj):Blk (W.putObj l o) x T cs:=by
 refine (World.putObj_heap_other fun e=> ?_).trans h;obtain ⟨o',ho,hc⟩:=hl;unfold Blk at h;rw [←e,h] at ho;injection ho with ho
 rw [←ho] at hc;cases hc
theorem Z2d (h:w.ownsRow base e size v n xs) (hk: ∀k,v.ownBlock=some k→w'.heap[k]?=w.heap[k]?):w'.ownsRow base e size v n xs:=by
 refine ⟨h.1,?_⟩;rcases h.2 with h0 | ⟨g,cap,cur,rfl,h2,h3,h4⟩
 ·exact .inl h0
 ·exact .inr ⟨g,cap,cur,rfl,h2,(hk g rfl).trans h3,h4⟩
theorem Zs (h:w.ownsRow base e size v n xs): ∀k,v.ownBlock=some k→base≤k∧k<w.heap.size:=by
 intro k hk;rcases h.2 with ⟨rfl,_⟩ | ⟨g,cap,cur,rfl,h2,h3,_⟩
 ·cases hk
 ·have:g=k:=by simpa [Value.ownBlock] using hk
  subst this;exact ⟨h2,(Array.getElem?_eq_some_iff.1 h3).1⟩
end
theorem Z57 {F:Fence} {N:Nat} {P:Program} (w:World) {ops:Array Oper} {rest:List Oper} {o:Oper} {a:Act} {Q:Exit→Act→World→Prop}
  (hg:o.guard=none) (s x:Operand) (t:TypeId) (hop:o.op=Op.call { callee:=Callee.builtin Builtin.append,args:=#[s,x],argTypes:=#[t,t] })
  (base:Nat) (e:TypeId) (z:Value) (bytes:Nat) (h1:P.underlying t=some (.slice e)) (hi:(P.info? e).map (fun i=>(i.zero,i.size,i.bytes))=some (some z,1,bytes)) (h6:z.cells.size=1)
  (A:OA) (n c:Nat) (xs:List Value) (hs:a.eval s= .slice A n c) (hown:w.ownsRow base e 1 (.slice A n c) n xs) (A2:OA) (m c2:Nat) (news:List Value) (hx:a.eval x= .slice A2 m c2) (B:Nat) (hr:Rd w B 1 A2 m news)
  (h1c: ∀u∈news,u.oneCell'=true) (hm:0<m) (b1:n+m≤maxLen) (b2:(n+m)*bytes≤140737488355328) (b3:base≤w.heap.size)
  (hK: ∀A' c' w',w'.ownsRow base e 1 (.slice A' (n+m) c') (n+m) (xs++news)→w.grownBy w' (Value.slice A n c).ownBlock→(∀k,(Value.slice A' (n+m) c').ownBlock=some k→(Value.slice A n c).ownBlock=some k∨k=w.heap.size)→wpListIn F N P ops Q rest (a.put o.dst (.slice A' (n+m) c')) w'):
  wpListIn F N P ops Q (o::rest) a w:=by
 refine wpListIn_plain hg fun K hK'=> ?_;obtain ⟨i,hi0,hz0,hz1,hz2⟩:=info_parts hi;have hsrc:=Src.ofRd (tx:=t) (c:=c2) h1 hr h1c;obtain ⟨A',c',w',hrun,r1,r2,r3⟩:=Z1W (P:=P) w base t t o.type e i z 1 bytes h1 hi0 hz0 hz1 hz2 h6 A n c xs (Seg.of_own hown) (.slice A2 m c2) m news hsrc b1 b2 b3;obtain ⟨b,off,rfl,hb,hcell⟩:=hr.at_ hm;have hcell2: ∀j u,news[j]?=some u→w.cell? ((⟨b,off,none⟩:Addr).add j)=some u:=fun j u hu=>by
  have h9:=hcell j u hu;unfold Addr.add;split
  ·rename_i h0
   rw [h0] at h9;exact h9
  ·exact h9
 obtain ⟨v',w2,hrun2,s1,s2,s3⟩:=run_append_own (P:=P) w base t o.type e i z 1 bytes h1 hi0 hz0 hz1 hz2 h6 (by decide) _ n xs hown ⟨b,off,none⟩ m c2 news (by have:=hr.1;omega) hcell2 h1c b1 b2 b3;rw [hrun] at hrun2;injection hrun2 with e1 e2
 subst e1 e2;unfold Oper.wpIn;refine ⟨?_,?_⟩
 ·simp [Oper.about,hop,resolve,Target.leads,Sem.run_pure]
 ·rw [Oper.semAt_plain F _ _ (by rw [hop];intro c hc';cases hc')]
  simp [execOp,hop,resolve,invoke,builtin,hs,hx,hrun,Result.andThen];refine hK' _ _ (hK A' c' w' s1 s2 fun k hk=> ?_);rcases r3 with ⟨rfl,rfl⟩ | ⟨_,h9⟩
  ·left
   cases A' with
   | none=>cases hk
   | some a=>simpa [Value.ownBlock] using hk
  ·right
   cases A' with
   | none=>cases hk
   | some a=>
    simp only [Value.ownBlock,Option.some.injEq] at hk;simp only [Z9,Option.map_some,Option.some.injEq] at h9;omega
end Go.Dol
set_option maxRecDepth 100000
set_option maxHeartbeats 1600000
set_option linter.unusedVariables false
namespace Go.Proofs.YtecpbcmpncgokaaGreat
open Go.RowKit Go.Dol Go.Shelf
attribute [local go_sem] Oper.semAt_some
theorem Z7k:(Tryz.prog.info? 9).map (fun i=>(i.zero,i.size,i.bytes))=some (some (.string ⟨#[]⟩),1,16):=by kernel_rfl
def ClI (w:World) (K:Option Nat) (pre:List BA) (W:World):Prop:=
  ∃A c,Blk W w.heap.size 38 [.slice A pre.length c]∧W.ownsRow w.heap.size 9 1 (.slice A pre.length c) pre.length (sc pre)∧(∀k,K=some k→k≠w.heap.size∧k<W.heap.size∧(Value.slice A pre.length c).ownBlock≠some k)∧Below w.heap.size w W
def Zef (w:World) (S:List BA→Prop) (e:Ending) (w':World):Prop:=
  ∃(xs:List BA) (A:OA) (c:Nat),Hid (S xs)∧e= .returned (.slice A xs.length c)∧w'.ownsRow w.heap.size 9 1 (.slice A xs.length c) xs.length (sc xs)∧Below w.heap.size w w'
theorem Zad (l:List BA) (x:BA):sc (l++[x])=sc l++[.string x]:=by simp [sc]
theorem Z6Y (gf:Nat) (lb:Array Value) (eg: ∀args w,(callFunc gf args).run Tryz.prog w= .ok (.enter gf args) w) (S:List BA→Prop) (N:Nat) (hN:N≤3518437208880) (w:World) (hseq:ZaN Fence.wide 4 Tryz.prog gf lb Value.string N S w):
    CallsIn Fence.wide 5 Tryz.prog 182 #[.slice none 0 0, .func (.func gf) #[] lb] w (Zef w S):=by
  refine callsIn_of_wp_marks Tryz.func182 rfl trivial ?_ rfl;simp only [Tryz.ntmps182,List.size_toArray,List.length_cons,List.length_nil,Nat.reduceAdd,Nat.reduceSub,Array.replicate_succ,Array.replicate_zero,List.push_toArray,List.append_toArray,List.nil_append,List.cons_append]
  gi_wp2
  have hb0:Below w.heap.size w (w.alloc (.cells #[.slice none 0 0] 38)):=(bR _ _).alloc (lR _) _;have hB0:=Blk.new w 38 [.slice none 0 0];have hs0:(w.alloc (.cells #[.slice none 0 0] 38)).heap.size=w.heap.size+1:=by simp
  refine ZfM (p:=7) (q:=5) rfl (by omega) (gf:=gf) (lb:=lb) rfl trivial eg hseq hb0 (ClI w) ?start ?keep ?put ?assign ?body ?done
  case start=>
    intro K W hb hk;rw [hs0] at hk;refine ⟨none,0,hB0.below hb (by rw [hs0];omega),World.ownsRow_nil _ _ _ _,fun k e=>⟨?_,(hk k e).2,by simp [Value.ownBlock]⟩,hb0.trans (hb.mono hb0.size)⟩;have:=(hk k e).1;omega
  case keep=>
    rintro K pre W W' ⟨A,c,h1,h2,h3,h4⟩ hb;exact ⟨A,c,h1.below hb h1.lt,Zi h2 hb,fun k e=>⟨(h3 k e).1,Nat.lt_of_lt_of_le (h3 k e).2.1 hb.size,(h3 k e).2.2⟩,h4.next hb⟩
  case put=>
    rintro K pre W l o hl hn ⟨A,c,h1,h2,h3,h4⟩;rw [hs0] at hl;have hg:=grownBy_putObj' W l o;refine ⟨A,c,Zhg h1 hn o,Z2d h2 fun k hk=> ?_,fun k e=>⟨(h3 k e).1,by simpa using (h3 k e).2.1,(h3 k e).2.2⟩,h4.grown hg h4.size (fun k e=>by injection e with e;omega)⟩;refine hg.block k (Zs h2 k hk).2 fun e=> ?_;injection e with e
    subst e;obtain ⟨o',ho',hc'⟩:=hn;rcases h2.2 with ⟨e,_⟩ | ⟨g,cap,cur,e,_,h5,_⟩
    · rw [e] at hk
      cases hk
    · rw [e] at hk
      have:g=k:=by simpa [Value.ownBlock] using hk
      subst this;rw [h5] at ho';injection ho' with ho'
      rw [←ho'] at hc';cases hc'
  case assign=>
    intro l y W K hK
    gi_wp2
    exact hK
  case body=>
    rintro l K pre y W hpl ⟨A,c,h1,h2,h3,h4⟩;have k0:W.cell? ⟨w.heap.size,0,none⟩=some (.slice A pre.length c):=by rw [h1.cell];rfl
    have hw:=h1.lt;have hr:Rd (W.alloc (.cells #[.string y] 9)) (W.heap.size+1) 1 (some ⟨W.heap.size,0,none⟩) 1 [.string y]:=Rd.new1 W _ _;have ho:=h2.alloc (.cells #[.string y] 9);have hB:=h1.alloc (.cells #[.string y] 9);have hne:=own_ne ho hB (by decide);simp only [List.setIfInBounds_toArray,List.set_cons_succ,List.set_cons_zero]
    gi_wp2_with (first
      | (gi_at_builtin;refine Z57 _ rfl _ _ 38 rfl w.heap.size 9 (.string ⟨#[]⟩) 16 Tryz.underlying38 Z7k rfl A pre.length c (sc pre) rfl ho _ 1 1 [.string y] rfl _ hr (by intro u hu;obtain rfl:=List.mem_singleton.1 hu;rfl) (by decide) (by unfold maxLen;omega) (by omega) (by simp;omega) ?_;intro A' c' w3 ho3 hg3 hat3
         have hB3:=hB.grown hg3 (fun e=>hne e.symm);have z3:=hB3.free 0
         have c3:w3.cell? ⟨w.heap.size,0,none⟩=some (.slice A pre.length c):=by rw [hB3.cell];rfl)
      | gi_in)
    have hs3:=hg3.size;rw [World.size_alloc] at hs3;have hB4:=hB3.set 0 (.slice A' (pre.length+1) c');have hg4:w3.grownBy (w3.setCell ⟨w.heap.size,0,none⟩ (.slice A' (pre.length+1) c')) (some w.heap.size):=Z0 (gR w3 _) 0 _;have hne3:=own_ne ho3 hB3 (by decide);have ho4:=ho3.kept hg4 (.inr hne3);have hl:(pre++[y]).length=pre.length+1:=by simp
    refine ⟨⟨?_,fun k o hk ho9 hc9=> ?_⟩,⟨A',c',by rw [hl];exact hB4,by rw [hl,Zad];exact ho4,fun k e=>⟨(h3 k e).1, ?_,fun e9=> ?_⟩, ?_⟩,fun k e=> ?_⟩
    · exact lT (by omega) hg4.size
    · have hkl:=(Array.getElem?_eq_some_iff.1 ho9).1
      rw [hg4.block k (by omega) (fun e=>by injection e with e;omega),hg3.block k (by simp;omega) (fun e=> ?_),Below.heap_alloc _ _ k hkl]
      · exact ho9
      · rcases h2.2 with ⟨e2,_⟩ | ⟨g,cap,cur,e2,_,h5,_⟩
        · rw [e2] at e
          cases e
        · rw [e2] at e
          have:k=g:=by simpa [Value.ownBlock] using e
          subst this;rw [h5] at ho9;injection ho9 with ho9
          rw [←ho9] at hc9;cases hc9
    · have:=hg4.size
      have:=(h3 k e).2.1;omega
    · rw [hl] at e9
      rcases hat3 k e9 with e8 | e8
      · exact (h3 k e).2.2 e8
      · have:=(h3 k e).2.1
        rw [World.size_alloc] at e8;omega
    · exact ((h4.alloc h4.size _).grown hg3 (by have:=h4.size;simp;omega) (fun k e=>(Zs h2 k e).1)).grown hg4 (by have:=h4.size;omega) (fun k e=>by injection e with e;omega)
    · rw [hg4.block k (by have:=(h3 k e).2.1;omega) (fun e9=>by injection e9 with e9;exact (h3 k e).1 e9),hg3.block k (by have:=(h3 k e).2.1;simp;omega) (fun e9=>(h3 k e).2.2 e9.symm),Below.heap_alloc _ _ k (h3 k e).2.1]
  case done=>
    rintro Dd K xs W hD hS ⟨A,c,h1,h2,h3,h4⟩ hdef;rw [hs0] at hD;have k0:W.cell? ⟨w.heap.size,0,none⟩=some (.slice A xs.length c):=by rw [h1.cell];rfl
    have HS:=qI hS
    gi_wp2
    refine ⟨by simp, .inl ⟨_,_,rfl,run_takeDeferred hdef, ?_⟩⟩;have hg:=grownBy_putObj' W Dd (.deferred none);refine ⟨_,results_tmp rfl _ _ _,xs,A,c,HS,rfl,Z2d h2 fun k hk=>hg.block k (Zs h2 k hk).2 fun e=> ?_,h4.grown hg h4.size (fun k e=>by injection e with e;omega)⟩;injection e with e
    subst e;rcases h2.2 with ⟨e2,_⟩ | ⟨g,cap,cur,e2,_,h5,_⟩
    · rw [e2] at hk
      cases hk
    · rw [e2] at hk
      have:g=k:=by simpa [Value.ownBlock] using hk
      subst this;rw [h5] at hdef;cases hdef
theorem Z8G (gf:Nat) (lb:Array Value) (eg: ∀args w,(callFunc gf args).run Tryz.prog w= .ok (.enter gf args) w) (S:List BA→Prop) (N:Nat) (hN:N≤3518437208880) (w:World) (hseq:ZaN Fence.wide 4 Tryz.prog gf lb Value.string N S w):
    Calls Tryz.prog 114 #[.func (.func gf) #[] lb] w (Zef w S):=by
  have HA:=qI (callsIn_wide.1 (Z6Y gf lb eg S N hN w hseq));go_in;go_wp2_with fail;refine HA.out.mono ?_;rintro e w1 ⟨xs,A,c,hS,rfl,ho,hb⟩;go_wp2_with fail;go_ret;exact ⟨xs,A,c,hS,rfl,ho,hb⟩
end Go.Proofs.YtecpbcmpncgokaaGreat
set_option linter.unusedVariables false
namespace Go.Proofs.YtecpbcmpncgokaaGreat
open Go.RowKit Go.Dol
theorem Ze7 (x:Nat) (hx:x<256):Lib.indexByte [48,49,50,51,52,53,54,55,56,57,97,98,99,100,101,102] (x:Int).toNat.toUInt8=digV x:=by
 have h: ∀i:_root_.Fin 256,Lib.indexByte [48,49,50,51,52,53,54,55,56,57,97,98,99,100,101,102] (i.val:Int).toNat.toUInt8=digV i.val:=by decide+kernel
 exact h ⟨x,hx⟩
theorem Z5O (x:Nat) (hx:x<256) (w:World):
  Calls Tryz.prog 172 #[.string ⟨#[48,49,50,51,52,53,54,55,56,57,97,98,99,100,101,102]⟩,.int .u8 x] w fun e w'=>e= .returned (.int .i64 (digV x))∧w'=w:=by
 refine (Z3A _ x w).mono ?_;rintro e w' ⟨rfl,h⟩;exact ⟨by rw [←Ze7 x hx],h⟩
end Go.Proofs.YtecpbcmpncgokaaGreat
set_option linter.unusedVariables false
namespace Go.Dol
theorem Z8t: ∀l:LU,l.length%2=1→Z0f l=none
 | [],h=>by simp at h
 | [_],_=>rfl
 | a::b::t,h=>by
  rw [Z0f,Z8t t (by simp at h;omega)];simp
end Go.Dol
namespace Go.Proofs.YtecpbcmpncgokaaGreat
open Go.RowKit Go.Dol
set_option maxRecDepth 100000 in
set_option maxHeartbeats 400000 in
theorem ZcR (s:BA) (w:World) (hl:s.size≤140737488355200):
  Calls Tryz.prog 185 #[.string s] w (Zjv w (Z0f s.data.toList)):=by
 obtain ⟨l,hls⟩: ∃l,l=s.data.toList:=⟨_,rfl⟩;have hsz:s.size=l.length:=by rw [hls,Zq]
 rw [←hls];have HSZ:=qI hsz;have HLS:=qI hls;clear hsz hls;have hsb:(s.size:Int)=(l.length:Int):=by have:=HSZ.out;omega
 by_cases hev:l.length%2=0
 rotate_left
 ·have hmod:(s.size:Int)%2=1:=by omega
  have hmod2:(s.size:Int).tmod 2=1:=by rw [Int.tmod_eq_emod_of_nonneg (by omega)];exact hmod
  have hnone:Hid (Z0f l=none):=Z8t l (by omega);clear hsb hev;go_in;go_wp2_with fail;go_ret2;rw [hnone.out];exact ⟨rfl,bR _ _⟩
 have hmod:(s.size:Int)%2=0:=by omega
 have hmod2:(s.size:Int).tmod 2=0:=by rw [Int.tmod_eq_emod_of_nonneg (by omega)];exact hmod
 have HEV:=qI hev;clear hsb hev;go_in;go_wp2_with fail;go_loopw [4,5,6,7] (fun out i _ _ wr=>ZhD l w 5 out i wr) (fun _ i _ _ _=>l.length-(intOf i).toNat)
 case atStart=>exact ⟨0,[],none,0,rfl,rfl,zL _,rfl,rfl,by unfold Hid;simp,⟨by simp [bc],.inl ⟨rfl,rfl⟩⟩,bR _ _,lR _,by unfold maxLen;omega⟩
 case round=>
  obtain ⟨k,l1,A1,c1,rfl,rfl,hk,hk2,hk1,e1,ho,hbl,j1,j2⟩:=hrel;have hs1:=hbl.size;have HK1:=qI hk1;have HK2:=qI hk2;have hl1b:l1.length≤140737488355200:=by have:=HSZ.out;omega
  clear hk1 hk2
  by_cases hlt:k+1<l.length
  ·have hkl:k<s.size:=by rw [HSZ.out];omega
   have hkl1:k+1<s.size:=by rw [HSZ.out];omega
   have hlt0:k<l.length:=by omega
   have hki:(k:Int)<(s.size:Int):=by omega
   have hki1:(k:Int)+1<(s.size:Int):=by omega
   obtain ⟨x,hx⟩: ∃x,x=(l[k]).toNat:=⟨_,rfl⟩;obtain ⟨y,hy⟩: ∃y,y=(l[k+1]).toNat:=⟨_,rfl⟩;have hx256:x<256:=by have:=(l[k]).toNat_lt;omega
   have hy256:y<256:=by have:=(l[k+1]).toNat_lt;omega
   have hsx: ∀h:k<s.size,(s[k]'h).toNat=x:=fun h=>by rw [hx];exact ZhR HLS.out hlt0 h
   have hsy: ∀h:k+1<s.size,(s[k+1]'h).toNat=y:=fun h=>by rw [hy];exact ZhR HLS.out hlt h
   have HX:=qI hx;have HY:=qI hy;clear hx hy;go_wp2_with fail;go_quiet ((go_at_call 172;first | exact Calls.quiet_of_same (Z5O x hx256 _) | exact Calls.quiet_of_same (Z5O y hy256 _)));obtain ⟨wq,hwq⟩: ∃wq,wq=World.drewN wr nq:=⟨_,rfl⟩;have ho':wq.ownsRow w.heap.size 5 1 (.slice A1 l1.length c1) l1.length (bc l1):=by rw [hwq];exact ho
   have hbl':Below w.heap.size w wq:=by rw [hwq];exact ⟨hbl.os,hbl.tape,hbl.output,hbl.size,hbl.block⟩
   have hs':w.heap.size≤wq.heap.size:=hbl'.size;rw [←hwq];clear hwq;have hdrop:=ZhC hlt;have hstep:Hid (Z0f (l.drop k)=if digV x<0∨digV y<0 then none else (Z0f (l.drop (k+2))).map (UInt8.ofNat (16*(digV x).toNat+(digV y).toNat):: ·)):=by
    unfold Hid;rw [hdrop,Z0f,HX.out,HY.out]
   have hpx:=ZeU x;have hpy:=ZeU y;obtain ⟨p,hp⟩: ∃p,p=digV x:=⟨_,rfl⟩;obtain ⟨q,hq⟩: ∃q,q=digV y:=⟨_,rfl⟩;rw [←hp,←hq] at hstep;rw [←hp] at hpx ⊢;rw [←hq] at hpy ⊢;clear hp hq hdrop hsx hsy
   by_cases hbad:p<0∨q<0
   ·have hnone:Hid (Z0f l=none):=by unfold Hid;rw [e1.out,hstep.out,if_pos hbad];rfl
    rcases (by omega:p<0∨(0≤p∧q<0)) with hp | ⟨hp,hq⟩
    ·go_wp2_with fail
     go_ret2;rw [hnone.out];exact ⟨rfl,hbl'⟩
    ·go_wp2_with fail
     go_ret2;rw [hnone.out];exact ⟨rfl,hbl'⟩
   ·have hp:0≤p:=by omega
    have hq:0≤q:=by omega
    obtain ⟨p',rfl⟩:=Int.eq_ofNat_of_zero_le hp;obtain ⟨q',rfl⟩:=Int.eq_ofNat_of_zero_le hq;have hp16:p'<16:=by omega
    have hq16:q'<16:=by omega
    obtain ⟨m,hm⟩: ∃m,m=16*p'+q':=⟨_,rfl⟩;have hmi:IntKind.u8.wrap (16*(p':Int)+(q':Int))=(m:Int):=by rw [IntKind.wrap_u8];omega
    have hm256:m<256:=by omega
    have HM:=qI hm;rw [if_neg hbad] at hstep;clear hm hbad hpx hpy hp hq;go_wp2_with (at_builtin;refine Z6W rfl (.tmp 33) (.tmp 39) rfl w.heap.size _ l1.length l1 rfl ho' rfl (by omega) (by omega) (by omega) hs' ?_);intro d l2 A2 c2 w2 ed e2 ho2 hb2 _ _ j3 j4;have h2l:l2.length=l1.length+1:=by rw [e2.out];simp
    have H2L:=qI h2l;clear h2l;go_wp2_with fail;refine ⟨⟨k+2,l2,A2,c2,rfl,by go_num,by omega,by have:=HK2.out;omega,by rw [H2L.out];have:=HK1.out;omega,?_,ho2,hbl'.trans hb2,j3,j4⟩,by simp [intOf];omega⟩;have hd:d=UInt8.ofNat m:=Z3s ed rfl;unfold Hid;rw [e1.out,hstep.out,Option.map_map,e2.out,hd,HM.out]
    congr 1
    funext z
    simp
  ·have hkl:l.length=k:=by have:=HEV.out;have:=HK2.out;omega
   have hkb:k≤140737488355200:=by have:=HSZ.out;omega
   have hnk: ¬((k:Int)<(s.size:Int)):=by have:=HSZ.out;omega
   have hd1:Z0f (l.drop k)=some []:=by
    rw [List.drop_eq_nil_of_le (by omega)]
    rfl
   have hsome:Hid (Z0f l=some l1):=by unfold Hid;rw [e1.out,hd1];simp
   have HO:=qI hkl;clear hd1 hkl;go_wp2_with (refine ZhU rfl (.tmp 41) rfl wr.heap.size A1 l1.length c1 l1 rfl (Rd.of_own ho) ?_);go_ret2;rw [hsome.out];exact ⟨l1,rfl,rfl,hbl⟩
end Go.Proofs.YtecpbcmpncgokaaGreat
set_option maxRecDepth 100000
set_option maxHeartbeats 3200000
set_option linter.unusedVariables false
namespace Go.Dol
open Go.RowKit
def cutS (s p:BA):BA×Bool:=if s.data.toList.take p.size=p.data.toList then (⟨(s.data.toList.drop p.size).toArray⟩,true) else (s,false)
theorem Zj0 (s p:BA):((s.extract 0 p.size).toList==p.toList)=decide (s.data.toList.take p.size=p.data.toList):=by
 rw [ByteArray.toList_eq,ByteArray.toList_eq,ByteArray.data_extract,Array.toList_extract];simp only [List.extract_eq_take_drop,List.drop_zero,Nat.sub_zero]
 by_cases h:s.data.toList.take p.size=p.data.toList<;>simp [h]
theorem Zgo (s:BA) (k:Nat):s.extract k s.size=⟨(s.data.toList.drop k).toArray⟩:=by
 apply Z3F;rw [ByteArray.data_extract,Array.toList_extract];simp only [List.extract_eq_take_drop];exact List.take_of_length_le (by rw [List.length_drop,Zq];omega)
end Go.Dol
namespace Go.Proofs.YtecpbcmpncgokaaGreat
open Go.RowKit Go.Dol
theorem Z4G (s p:BA) (w:World) (hn:s.size≤maxLen) (hp:p.size≤maxLen):
  Calls Tryz.prog 207 #[.string s,.string p] w fun e w'=>e= .returned (.bool (decide (s.data.toList.take p.size=p.data.toList)))∧w'=w:=by
 by_cases h0:p.size≤s.size
 ·have d1:decide ((s.size:Int)≥(p.size:Int))=true:=dT (by omega)
  have d1':decide ((p.size:Int)≤(s.size:Int))=true:=dT (by omega);have d2:(p.size:Int)≤(s.size:Int):=by omega
  have d3:(0:Int)≤(p.size:Int):=by omega
  go_in;go_wp2_with fail;go_ret;refine ⟨?_,rfl⟩;rw [←Zj0]
  first | rfl | simp
 ·have d1:decide ((s.size:Int)≥(p.size:Int))=false:=qF (by omega)
  have d1':decide ((p.size:Int)≤(s.size:Int))=false:=qF (by omega);go_in;go_wp2_with fail;go_ret;have h9:decide (s.data.toList.take p.size=p.data.toList)=false:=qF fun e=>by
   have h1:=congrArg List.length e;rw [List.length_take,Zq,Zq] at h1;omega
  rw [h9];exact ⟨rfl,rfl⟩
theorem Z8N (s p:BA) (w:World) (hn:s.size≤maxLen) (hp:p.size≤maxLen):
  Calls Tryz.prog 247 #[.string s,.string p] w fun e w'=>e= .returned (.tuple #[.string (cutS s p).1,.bool (cutS s p).2])∧w'=w:=by
 have h:=Z4G s p w hn hp
 by_cases h0:s.data.toList.take p.size=p.data.toList
 ·rw [dT h0] at h
  have H:=qI h;have hE:Hid (cutS s p=(⟨(s.data.toList.drop p.size).toArray⟩,true)):=if_pos h0;have hle:p.size≤s.size:=by
   have h1:=congrArg List.length h0;rw [List.length_take,Zq,Zq] at h1;omega
  have d2:(p.size:Int)≤(s.size:Int):=by omega
  have d3:(0:Int)≤(p.size:Int):=by omega
  clear h0 h;go_in;go_wp2_with fail;refine H.out.mono ?_;rintro e w1 ⟨rfl,hw1⟩;obtain rfl:=hw1.symm;go_wp2_with fail;go_ret2;rw [hE.out,←Zgo];exact ⟨rfl,rfl⟩
 ·rw [qF h0] at h
  have H:=qI h;have hE:Hid (cutS s p=(s,false)):=if_neg h0;clear h0 h;go_in;go_wp2_with fail;refine H.out.mono ?_;rintro e w1 ⟨rfl,hw1⟩;obtain rfl:=hw1.symm;go_wp2_with fail;go_ret2;rw [hE.out];exact ⟨rfl,rfl⟩
theorem Zan (s p:BA) (w:World) (hn:s.size≤maxLen) (hp:p.size≤maxLen):
  Calls Tryz.prog 184 #[.string s,.string p] w fun e w'=>e= .returned (.tuple #[.string (cutS s p).1,.bool (cutS s p).2])∧w'=w:=by
 have h:=Z8N s p w hn hp;generalize cutS s p=r at h ⊢;have H:=qI h;clear h;go_in;go_wp2_with fail;refine H.out.mono ?_;rintro e w1 ⟨rfl,hw1⟩;obtain rfl:=hw1.symm;go_wp2_with fail;go_ret2;exact ⟨rfl,rfl⟩
def Zi8 (ns:List BA) (A:OA) (c base:Nat) (J:List BA→World→Prop) (i:Value) (wr:World):Prop:=
 ∃k:Nat,i= .int .i64 k∧k≤ns.length∧Hid (J ((ns.take k).filterMap Z0u) wr)∧wr.ownsRow base 9 1 (.slice A ns.length c) ns.length (sc ns)
theorem Zff (n:BA):Z0u n=if (cutS n ⟨#[111,47]⟩).2=true then (match Z0f (cutS n ⟨#[111,47]⟩).1.data.toList with | none=>none | some q=>if q.length=32 then some (idS q) else none) else none:=by
 unfold Z0u cutS;rw [show (⟨#[111,47]⟩:BA).size=2 from rfl,show (⟨#[111,47]⟩:BA).data.toList=[111,47] from rfl];generalize n.data.toList=l
 by_cases h:l.take 2=[111,47]
 ·rw [if_pos h,if_pos rfl]
  rcases l with _ | ⟨a,_ | ⟨b,t⟩⟩
  ·cases h
  ·cases h
  ·injection h with h1 h2
   injection h2 with h2 _
   subst h1 h2
   rfl
 ·rw [if_neg h,if_neg (by simp)]
  split
  ·exact absurd rfl h
  ·rfl
section
variable {w:World} {g m:Nat} {D:Dk}
theorem Zi9 (h:Dsk w g m D) (hK:OkW D) (x:Nat) (hx:w.cell? ⟨x,0,none⟩=some (.pointer (some ⟨g,0,none⟩))) (hxl:x<w.heap.size):
  ZaN Fence.wide 4 Tryz.prog 183 #[.pointer (some ⟨x,0,none⟩)] Value.string 3518437208880 (fun xs=>xs=idsO D) w:=by
 intro l J W hW hJb hY hJ0;have hD:=h.below hW;have hx0:W.cell? ⟨x,0,none⟩=some (.pointer (some ⟨g,0,none⟩)):=by rw [hW.cell (p:=⟨x,0,none⟩) hxl];exact hx
 obtain ⟨ns,hns⟩: ∃ns,ns=D.l.map Prod.fst:=⟨_,rfl⟩;have hnl:D.l.length=ns.length:=by rw [hns,List.length_map]
 have hsm: ∀n∈ns,n.size≤200:=by
  intro n hn;rw [hns] at hn;obtain ⟨f,hf,rfl⟩:=List.mem_map.1 hn;exact Z03 (hK.names f hf)
 have hNm:=Z0T hD hK.toL;have HID:Hid (idsO D=ns.filterMap Z0u):=by unfold Hid;rw [hns];rfl
 refine callsIn_of_wp Tryz.func183 rfl trivial ?_ rfl;simp only [Tryz.ntmps183,List.size_toArray,List.length_cons,List.length_nil,Nat.reduceAdd,Nat.reduceSub,Array.replicate_succ,Array.replicate_zero,List.push_toArray,List.append_toArray,List.nil_append,List.cons_append];have HNm:=qI hNm;clear hNm
 gi_wp2
 refine ⟨trivial,?_⟩;refine (callsIn_wide.2 HNm.out).mono ?_;rintro e w1 ⟨A,c,rfl,ho,hb⟩;have hJ1:=qI (hJ0 (Value.slice A D.l.length c).ownBlock w1 hb (fun k hk=>Zs ho k hk));rw [←hns,hnl] at ho;rw [hnl] at hJ1 ⊢;clear hJ0 hns;have hN:=hK.len;rw [hnl] at hN
 gi_wp2
 gi_loopw [12] (fun i wr=>Zi8 ns A c W.heap.size (J (Value.slice A ns.length c).ownBlock) i wr) (fun i _=>ns.length-(intOf i).toNat)
 case atStart=>exact ⟨0,rfl,zL _,hJ1,ho⟩
 case round=>
  clear hJ1 ho hb;obtain ⟨k,rfl,hk,hJ,ho⟩:=hrel;have f1:IntKind.i64.wrap ((k:Int)+1)=(k:Int)+1:=qJ _ (by omega)
  by_cases hlt:k<ns.length
  ·have hd:decide ((k:Int)<(ns.length:Int))=true:=dT (by omega)
   have hd':(k:Int)<(ns.length:Int):=by omega
   have hk0:(0:Int)≤(k:Int):=by omega
   obtain ⟨y,hy⟩: ∃y,ns[k]?=some y:=⟨ns[k],gE hlt⟩;have hys:=hsm y (List.mem_of_getElem? hy);obtain ⟨bb,off,rfl,hbb,hcell⟩:=(Rd.of_own ho).at_ (by omega);have q0:wr.cell? ⟨bb,off+k,none⟩=some (.string y):=hcell _ _ (by rw [sc,List.getElem?_map,hy];rfl);have hTk:Hid ((ns.take (k+1)).filterMap Z0u=(ns.take k).filterMap Z0u++(Z0u y).toList):=by
    unfold Hid;rw [List.take_add_one,hy,List.filterMap_append];cases h9:Z0u y<;>simp [h9]
   have hid:=Zff y;obtain ⟨cs,cb,hcs⟩: ∃cs cb,cutS y ⟨#[111,47]⟩=(cs,cb):=⟨_,_,rfl⟩;have hcsz:cs.size≤200:=by
    have h9:(cutS y ⟨#[111,47]⟩).1.size≤y.size:=by
     unfold cutS;split
     ·show (List.drop _ _).toArray.size≤_
      rw [List.size_toArray,List.length_drop,Zq];omega
     ·exact lR _
    rw [hcs] at h9;exact lT h9 hys
   have hC:=Zan y ⟨#[111,47]⟩ wr (by unfold maxLen;omega) (by decide);rw [hcs] at hC hid;simp only at hC hid;have HC:=qI hC;have HI:=qI hid;clear hC hid hcs hy hcell
   gi_wp2
   refine ⟨trivial,?_⟩;refine (callsIn_wide.2 HC.out).mono ?_;rintro e z1 ⟨rfl,hz1⟩;obtain rfl:=hz1.symm;have hU:=ZcR cs wr (by omega)
   cases hu:Z0f cs.data.toList with
   | none=>
    rw [hu] at hU;have HU:=qI hU;have hE:Hid ((ns.take (k+1)).filterMap Z0u=(ns.take k).filterMap Z0u):=by
     unfold Hid;rw [hTk.out,HI.out,hu];cases cb<;>simp
    clear hU hu
    gi_wp2
    refine ⟨trivial,?_⟩;refine (callsIn_wide.2 HU.out).mono ?_;rintro e z2 ⟨rfl,hz2⟩;have ho2:=Zi ho hz2;have hJ2:=qI (hJb _ _ _ _ hJ.out hz2)
    cases cb with
    | true=>
     gi_wp2
     refine ⟨fun f h=>(by cases h),?_⟩
     gi_wp2
     exact ⟨⟨k+1,by go_num,by omega,by rw [hE.out];exact hJ2,ho2⟩,by simp [intOf];omega⟩
    | false=>
     gi_wp2
     refine ⟨fun f h=>(by cases h),?_⟩
     gi_wp2
     exact ⟨⟨k+1,by go_num,by omega,by rw [hE.out];exact hJ2,ho2⟩,by simp [intOf];omega⟩
   | some q=>
    rw [hu] at hU;have HU:=qI hU;clear hU
    gi_wp2
    refine ⟨trivial,?_⟩;refine (callsIn_wide.2 HU.out).mono ?_;rintro e z2 ⟨q',hq',rfl,hz2⟩;have ho2:=Zi ho hz2;have hJ2:=qI (hJb _ _ _ _ hJ.out hz2)
    cases cb with
    | false=>
     have hE:Hid ((ns.take (k+1)).filterMap Z0u=(ns.take k).filterMap Z0u):=by
      unfold Hid;rw [hTk.out,HI.out];simp
     clear hu hq'
     gi_wp2
     refine ⟨fun f h=>(by cases h),?_⟩
     gi_wp2
     exact ⟨⟨k+1,by go_num,by omega,by rw [hE.out];exact hJ2,ho2⟩,by simp [intOf];omega⟩
    | true=>
     have hsz:(⟨q'.toArray⟩:BA).size=q'.length:=by show q'.toArray.size=_;rw [List.size_toArray]
     by_cases h32:q'.length=32
     ·have hT:Hid ((ns.take (k+1)).filterMap Z0u=(ns.take k).filterMap Z0u++[⟨q'.toArray⟩]):=by
       unfold Hid;rw [hTk.out,HI.out,hu];simp only [if_true];rw [←hq'.out,if_pos h32]
       rfl
      obtain ⟨s9,hs9⟩: ∃s9:BA,s9=⟨q'.toArray⟩:=⟨_,rfl⟩;rw [←hs9] at hT hsz ⊢;have d3:((s9.size:Int)==32)=true:=by rw [hsz,h32];rfl
      have hlen:((ns.take k).filterMap Z0u).length<3518437208880:=by
       have h9:=List.length_filterMap_le Z0u (ns.take k);rw [List.length_take] at h9;omega
      obtain ⟨fn,tmps,assign,body,hyl,hRn⟩:=hY _ _ s9 z2 hJ2.out hlen;clear hu hq' hs9 hsz h32 hlen
      gi_wp2
      refine hRn.mono ?_;rintro e z3 ⟨rfl,hJ3,hsz3,hk3⟩;have ho3:=Z2d ho2 hk3
      gi_wp2
      exact ⟨⟨k+1,by go_num,by omega,by unfold Hid;rw [hT.out];exact hJ3,ho3⟩,by simp [intOf];omega⟩
     ·have hE:Hid ((ns.take (k+1)).filterMap Z0u=(ns.take k).filterMap Z0u):=by
       unfold Hid;rw [hTk.out,HI.out,hu];simp only [if_true];rw [←hq'.out,if_neg h32];simp
      obtain ⟨s9,hs9⟩: ∃s9:BA,s9=⟨q'.toArray⟩:=⟨_,rfl⟩;rw [←hs9] at hsz ⊢;have d3:((s9.size:Int)==32)=false:=by rw [hsz];simp;omega
      clear hu hq' hs9 hsz h32
      gi_wp2
      refine ⟨fun f h=>(by cases h),?_⟩
      gi_wp2
      exact ⟨⟨k+1,by go_num,by omega,by rw [hE.out];exact hJ2,ho2⟩,by simp [intOf];omega⟩
  ·have hd:decide ((k:Int)<(ns.length:Int))=false:=qF (by omega)
   have hE:Hid ((ns.take k).filterMap Z0u=idsO D):=by unfold Hid;rw [HID.out,List.take_of_length_le (by omega)]
   gi_wp2
   go_end0;exact ⟨⟨_,rfl⟩,_,_,rfl,by rw [←hE.out];exact hJ.out⟩
theorem Zfg (p:OA) (W:World):Calls Tryz.prog 115 #[.pointer p] W fun e w'=>e= .returned (.func (.func 183) #[] #[.pointer (some ⟨W.heap.size,0,none⟩)])∧w'=W.alloc (.cells #[.pointer p] 25):=by
 go_in;go_wp2_with fail;go_ret;exact ⟨rfl,rfl⟩
def Zeq (w:World) (l:List BA) (e:Ending) (w':World):Prop:=
 ∃(xs:List BA) (A:OA) (c:Nat),Hid (xs=l)∧e= .returned (.slice A xs.length c)∧w'.ownsRow w.heap.size 9 1 (.slice A xs.length c) xs.length (sc xs)∧Below w.heap.size w w'
theorem Z7F (h:Dsk w g m D) (hK:OkW D):Calls Tryz.prog 46 #[.pointer (some ⟨g,0,none⟩)] w (Zeq w (idsO D)):=by
 have hb:Below w.heap.size w (w.alloc (.cells #[.pointer (some ⟨g,0,none⟩)] 25)):=(bR _ _).alloc (lR _) _;have hB:=Blk.new w 25 [.pointer (some ⟨g,0,none⟩)];have HI:=qI (Zfg (some ⟨g,0,none⟩) w);have HC:=qI (Z8G 183 #[.pointer (some ⟨w.heap.size,0,none⟩)] (enters_of Tryz.func183 (by kernel_rfl) rfl) _ 3518437208880 (lR _) _ (Zi9 (h.below hb) hK w.heap.size (by rw [hB.cell];rfl) (by simp)));go_in;go_wp2_with fail;refine HI.out.mono ?_;rintro e w1 ⟨rfl,hw1⟩;obtain rfl:=hw1.symm;go_wp2_with fail;refine HC.out.mono ?_;rintro e w2 ⟨xs,A,c,hS,rfl,ho,hb2⟩;go_wp2_with fail;go_ret;exact ⟨xs,A,c,hS,rfl,ho.base (by simp),hb.trans (hb2.mono (by simp))⟩
end
end Go.Proofs.YtecpbcmpncgokaaGreat
set_option maxRecDepth 100000
set_option maxHeartbeats 800000
set_option linter.unusedVariables false
namespace Go.Dol
open Go.RowKit
theorem ZfQ (n:BA):Z0I n=(decide (n.data.toList.take (⟨#[112,47]⟩:BA).size=(⟨#[112,47]⟩:BA).data.toList)&& !ZO n):=rfl
end Go.Dol
namespace Go.Proofs.YtecpbcmpncgokaaGreat
open Go.RowKit Go.Dol
theorem ZaU (s p:BA) (w:World) (hn:s.size≤maxLen) (hp:p.size≤maxLen):
  Calls Tryz.prog 139 #[.string s,.string p] w fun e w'=>e= .returned (.bool (decide (s.data.toList.take p.size=p.data.toList)))∧w'=w:=by
 have h:=Z4G s p w hn hp;generalize decide (s.data.toList.take p.size=p.data.toList)=r at h ⊢;have H:=qI h;clear h;go_in;go_wp2_with fail;refine H.out.mono ?_;rintro e w1 ⟨rfl,hw1⟩;obtain rfl:=hw1.symm;go_wp2_with fail;go_ret;exact ⟨rfl,rfl⟩
theorem Zhm (l':LU) (b:LU) (w':World) (e:l'=Z16 (b.drop (b.length-32))) (h32:32≤b.length):(Op.stringOp .add ⟨#[112,47]⟩ ⟨l'.toArray⟩).run Tryz.prog w'= .ok (.string (Zu b)) w':=by
 rw [show Zu b=(⟨#[112,47]⟩:BA)++⟨l'.toArray⟩ by rw [e];rfl];refine run_string_add_sum w' _ _ ?_;show 2+l'.toArray.size≤_
 rw [List.size_toArray,e,Z1p,List.length_drop];omega
theorem Z5H (A:OA) (b:LU) (c:Nat) (w:World) (hr:Rd w w.heap.size 1 A b.length (bc b)) (hc:b.length≤c) (hcm:c≤maxLen) (h32:32≤b.length) (hl:b.length≤140737488355328):
  Calls Tryz.prog 141 #[.slice A b.length c] w fun e w'=>e= .returned (.string (Zu b))∧Below w.heap.size w w':=by
 have w1:IntKind.i64.wrap ((b.length:Int)-32)=(b.length:Int)-32:=qJ _ (by omega);obtain ⟨q,A',c',eq,jq,jq',hq,_,_,_,sn⟩:=Z0b (k:=b.length-32) ((b.length:Int)-32) (by omega) hr (by omega) hc hcm;obtain ⟨s,hs⟩: ∃s:BA,s=idS q:=⟨_,rfl⟩;have cv:(convert 36 9 (.slice A' q.length c')).run Tryz.prog w= .ok (.string s) w:=by rw [hs];exact Z0Q hq.1
 have hsz:s.size=32:=by
  rw [hs];show q.toArray.size=32
  rw [List.size_toArray,eq.out,List.length_drop];omega
 have hsl:s.data.toList=b.drop (b.length-32):=by rw [hs,Z2l,eq.out]
 have HX:=qI (Za2 s w (by omega));have HSL:=qI hsl;clear hs hsz hsl;go_in;go_wp2_with fail;refine HX.out.mono ?_;rintro e w1 ⟨l',hl',rfl,hb1⟩;have ad:=Zhm l' b w1 (by rw [hl'.out,HSL.out]) h32;go_wp2_with fail;go_ret;exact ⟨rfl,hb1⟩
end Go.Proofs.YtecpbcmpncgokaaGreat
