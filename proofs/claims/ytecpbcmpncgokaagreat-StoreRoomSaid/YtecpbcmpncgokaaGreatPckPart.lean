/- The walk of a pack's reader: one part. Conditions: at most 4096 parts, bytes of at most 2^47. -/
import Derived.Test.YtecpbcmpncgokaaGreatRegEnd
import Derived.Test.YtecpbcmpncgokaaGreatStoSpec
import Derived.Test.YtecpbcmpncgokaaGreatLoo2
import Derived.Deep.RegionWith
import Derived.Deep.RegionHeld3
import Derived.RegionTactic
import Derived.Deep.DeepCutAuto
import Derived.Test.YtecpbcmpncgokaaGreatShort
set_option linter.unusedVariables false
namespace Go.Proofs.YtecpbcmpncgokaaGreat
open Go.RowKit Go.Dol
structure Rdr (w:World) (base gr g:Nat) (l:List PtA) (A:OA) (c m:Nat) (p:LU) (Ar:OA) (cr:Nat) (pv:PtA):Prop where
 blk:Blk w gr 276 [.slice Ar p.length cr,.slice pv.A pv.p.raw.length pv.c,.int .i64 (pv.p.depth:Nat),.pointer (some ⟨g,0,none⟩)]
 gb:base≤gr
 pck:Pck w base g l A c m 0 (.slice none 0 0)
 seg:Seg w base 5 1 Ar p.length cr (bc p)
 own:B8 w base pv.A pv.p.raw∧pv.p.raw.length≤pv.c∧pv.c≤maxLen
theorem ZgX (v:LU) (w:World) (hl:v.length≤140737488355328): ∃A c w',(convert 9 36 (.string ⟨v.toArray⟩)).run Tryz.prog w= .ok (.slice A v.length c) w'∧B8 w' w.heap.size A v∧Below w.heap.size w w'∧v.length≤c∧c≤maxLen:=by
 obtain ⟨A,c,w',h1,h2,h3,h4,h5⟩:=Zez v w hl;refine ⟨A,c,w',h1,⟨⟨h2.1,fun hn k hk=> .inr ?_⟩,h2.2⟩,h3,h4,h5⟩;have h6:=run_bytes_of_string (P:=Tryz.prog) w 9 36 5 ⟨v.toArray⟩ Tryz.underlying9 Tryz.underlying36 Tryz.underlying5;rw [h1] at h6;injection h6 with h6 h7
 injection h6 with h6 _ _
 rw [h6] at hk;injection hk with hk
 have e2:w.heap.size=k:=hk;rw [←e2,h7];exact ⟨_,_,heap_alloc_new w.drew _⟩
theorem Zfy {prev:LU} {d k:Nat} {t raw:LU} (h:Z11 prev d k t=some raw):raw.length≤t.length∨raw.length≤2097152:=by
 unfold Z11 at h;split at h
 ·injection h with h;subst h;exact .inl (lR _)
 ·split at h
  ·have:=(Z4x h).2;exact .inr (by omega)
  ·split at h
   ·split at h
    ·have:=(Z80 h).2;exact .inr (by omega)
    ·cases h
   ·cases h
theorem ZgY {ge:BA→BA→Bool} {most:Int} {prev:LU} {d k:Nat} {p q id:LU} (h:32<p.length) (hid:id=p.take 32) (hq:q=p.drop 33) (hk:k=(p[32]).toNat):Z1g ge most prev d p=match ZE q most with
  | none=>none
  | some (t,rest)=>match Z11 prev d k t with
   | none=>none
   | some raw=>if ZC raw=id∧Zd ge raw=true then some (⟨id,k,Z0g d k,t.length,raw⟩,rest) else none:=by
 subst hid hq hk;unfold Z1g;rw [List.drop_eq_getElem_cons h]
 rfl
theorem idxN (g off n c i:Nat) (iI:Int) (hi:iI=(i:Nat)) (w':World) (hn1:i<n):(Instr.indexAt 36 (.slice (some ⟨g,off,none⟩) n c) (.int .i64 iI)).run Tryz.prog w'= .ok (.pointer (some ⟨g,off+i,none⟩)) w':=by
 subst hi;have h0:(0:Int)≤(i:Int):=by omega
 have h1:(i:Int)<(n:Int):=by omega
 go_simp
def ZeH (w:World) (base gr g:Nat) (l:List PtA) (m:Nat) (r:Option (Pt×LU)) (e:Ending) (w':World):Prop:=
 match r with
 | none=>e= .returned (.int .i64 2)∧Below base w w'
 | some (pt,rest)=>Below base w w'∧if pt.id∈l.map fun x=>x.p.id then e= .returned (.int .i64 2) else e= .returned (.int .i64 0)∧ ∃x A' c' q Ar' cr',Hid (x.p=pt)∧Hid (q=rest)∧Rdr w' base gr g (l++[x]) A' c' m q Ar' cr' x
theorem Pck.grown {w w':World} {base g:Nat} {l:List PtA} {A:OA} {c m:Nat} {d:Int} {vi:Value} {r:Nat} {T:TypeId} {cs:List Value} (h:Pck w base g l A c m d vi) (hb:Blk w r T cs) (hg:w.grownBy w' (some r)) (h1:T≠306) (h2:T≠5) (h3:T≠9) (h4:T≠205):Pck w' base g l A c m d vi:=
 ⟨h.blk.grown hg (fun e=>by
   injection e with e
   subst e;have a1:=h.blk;unfold Blk at a1 hb;rw [hb] at a1;injection a1 with a1
   injection a1 with _ a1
   exact h4 a1),h.gb,h.mb,Ze h.parts hb h1 hg,h.map.grown hg (fun e=>by injection e with e;exact h.map.blk_ne hb e.symm),fun x hx=>⟨(h.raws x hx).1.grown hg (Other.blk hb h2 (zL _)),(h.raws x hx).2⟩,by
  rcases h.ids with h5 | ⟨h5,Ai,ci,h6,h7⟩
  ·exact .inl h5
  ·exact .inr ⟨h5,Ai,ci,h6,Ze h7 hb h3 hg⟩⟩
theorem Rd.newS (w:World) (T:TypeId) (cs:List Value) (n:Nat) (hn:cs.length=n):Rd (w.alloc (.cells cs.toArray T)) (w.heap.size+1) n (some ⟨w.heap.size,0,none⟩) 1 cs:=by
 have hB:=Blk.new w T cs;refine ⟨by omega,fun _=>⟨w.heap.size,0,rfl,by omega,fun j u hu=> ?_⟩⟩;rw [Nat.zero_add,hB.cell];exact hu
theorem Zio {w w':World} {base base2:Nat} {e:TypeId} {size:Nat} {A:OA} {n c:Nat} {xs:List Value} {v:Value} {n2:Nat} {ys:List Value} (hs:Seg w base 5 1 A n c xs) (ho:w.ownsRow base2 e size v n2 ys) (he:e≠5) (hg:w.grownBy w' v.ownBlock):Seg w' base 5 1 A n c xs:=by
 refine hs.keepR hg fun j hj e'=> ?_;unfold ZP at hj;split at hj
 ·rcases hs.2.2.2 with h4 | ⟨k',off,cur,rfl,_,hh,_⟩
  ·omega
  ·have hk':k'=j:=by simpa [Z9] using hj
   rw [hk'] at hh;rcases ho.2 with ⟨rfl,_⟩ | ⟨k2,cap,cur2,rfl,_,hh2,_⟩
   ·cases e'
   ·have hk2:j=k2:=by simpa [Value.ownBlock] using e'
    rw [←hk2,hh] at hh2;injection hh2 with hh2
    injection hh2 with _ hh2
    exact he hh2.symm
 ·cases hj
theorem ZgZ (l:List PtA) (x:PtA):ptc (l++[x])=ptc l++x.cells:=by simp [ptc]
theorem Zh0 (l:List PtA) (x:PtA):ptm (l++[x])=ptm l++[(.string (idS x.p.id),.slice x.A x.p.raw.length x.c)]:=by simp [ptm]
theorem Zh1:(Tryz.prog.info? 306).map (fun i=>(i.zero,i.size,i.bytes))=some (some (.agg #[.string ⟨#[]⟩,.int .i64 0,.int .i64 0,.int .i64 0]),4,40):=by kernel_rfl
section
variable {w w':World} {base gr g:Nat} {l:List PtA} {A:OA} {c m:Nat} {p:LU} {Ar:OA} {cr:Nat} {pv:PtA}
theorem Rdr.keep (h:Rdr w base gr g l A c m p Ar cr pv) (hk: ∀k,base≤k→k<w.heap.size→w'.heap[k]?=w.heap[k]?) (hs:w.heap.size≤w'.heap.size):Rdr w' base gr g l A c m p Ar cr pv:=
 ⟨h.blk.keepB (hk gr h.gb h.blk.lt),h.gb,h.pck.keep hk hs,by
  refine ⟨h.seg.1,h.seg.2.1,h.seg.2.2.1,?_⟩;rcases h.seg.2.2.2 with h1 | ⟨k,off,cur,h1,h2,h3,h4⟩
  ·exact .inl h1
  ·exact .inr ⟨k,off,cur,h1,h2,(hk k h2 (Array.getElem?_eq_some_iff.1 h3).1).trans h3,h4⟩,⟨h.own.1.keepB hk hs,h.own.2⟩⟩
theorem Rdr.below (h:Rdr w base gr g l A c m p Ar cr pv) (hb:Below w.heap.size w w'):Rdr w' base gr g l A c m p Ar cr pv:=h.keep (fun k _ hk=>hb.block k hk) hb.size
set_option maxRecDepth 100000 in
set_option maxHeartbeats 6400000 in
theorem ZdM (h:Rdr w base gr g l A c m p Ar cr pv) (hl:l.length<4096) (hraw:pv.p.raw.length≤2097152) (hd:pv.p.depth≤7) (hp:p.length≤140737488351232) (hbase:base≤w.heap.size):
  Calls Tryz.prog 210 #[.pointer (some ⟨gr,0,none⟩)] w (ZeH w base gr g l m (Z1g geS p.length pv.p.raw pv.p.depth p)):=by
 obtain ⟨r,hre⟩: ∃r,r=Z1g geS p.length pv.p.raw pv.p.depth p:=⟨_,rfl⟩;rw [←hre];have HR:=qI hre;clear hre;have k0:w.cell? ⟨gr,0,none⟩=some (.slice Ar p.length cr):=by rw [h.blk.cell];rfl
 have hpc:=h.seg.2.1;have hcm:=h.seg.2.2.1;go_in
 by_cases h33:p.length≤32
 ·have d1:decide ((p.length:Int)≤32)=true:=dT (by omega)
  have hr:Hid (r=none):=by
   unfold Hid;rw [HR.out];unfold Z1g;rw [List.drop_eq_nil_of_le h33]
  go_wp2_with fail;go_ret;rw [hr.out];exact ⟨rfl,bR _ _⟩
 have d1:decide ((p.length:Int)≤32)=false:=qF (by omega);have hrd:=h.seg.rd;obtain ⟨rb,ro,rfl,hrbb,hrcell⟩:=hrd.at_ (by omega);have c32:=hrcell 32 _ (Z0s p 32 (by omega));obtain ⟨k,hk⟩: ∃k,k=(p[32]'(by omega)).toNat:=⟨_,rfl⟩;rw [←hk] at c32;have hk256:k<256:=by rw [hk];exact UInt8.toNat_lt _
 have HK:=qI hk;clear hk;obtain ⟨id,hid,hid1,hid2,hidp,_,hsl⟩:=Zd1 (k:=32) 32 rfl hrd (by omega) hpc hcm;have hcf:=Z0Q (c:=cr) hidp.1;have hcd:=Z0Q (c:=cr) hidp.1.drew;have hca:=Z0Q (c:=cr) ((hidp.1.alloc (lR _) (.cells #[.string ⟨#[]⟩,.int .i64 0,.int .i64 0,.int .i64 0] 306)).drew);have hB1:=h.blk.alloc (.cells #[.string ⟨#[]⟩,.int .i64 0,.int .i64 0,.int .i64 0] 306);have a0:(w.alloc (.cells #[.string ⟨#[]⟩,.int .i64 0,.int .i64 0,.int .i64 0] 306)).cell? ⟨gr,0,none⟩=some (.slice (some ⟨rb,ro,none⟩) p.length cr):=by rw [hB1.cell];rfl
 have a1:(w.alloc (.cells #[.string ⟨#[]⟩,.int .i64 0,.int .i64 0,.int .i64 0] 306)).cell? ⟨rb,ro+32,none⟩=some (.int .u8 k):=(World.cell?_alloc_lt w _ _ (by show rb<_;omega)).trans c32;have hcb:=Z0Q (c:=cr) ((hidp.1.alloc (lR _) (.cells #[.string ⟨id.toArray⟩,.int .i64 (k:Int),.int .i64 0,.int .i64 0] 306)).drew);have hB2:=h.blk.alloc (.cells #[.string ⟨id.toArray⟩,.int .i64 (k:Int),.int .i64 0,.int .i64 0] 306);have b0:(w.alloc (.cells #[.string ⟨id.toArray⟩,.int .i64 (k:Int),.int .i64 0,.int .i64 0] 306)).cell? ⟨gr,0,none⟩=some (.slice (some ⟨rb,ro,none⟩) p.length cr):=by rw [hB2.cell];rfl
 have b1:(w.alloc (.cells #[.string ⟨id.toArray⟩,.int .i64 (k:Int),.int .i64 0,.int .i64 0] 306)).cell? ⟨rb,ro+32,none⟩=some (.int .u8 k):=(World.cell?_alloc_lt w _ _ (by show rb<_;omega)).trans c32;have ix: ∀w':World,(Instr.indexAt 36 (.slice (some ⟨rb,ro,none⟩) p.length cr) (.int .i64 32)).run Tryz.prog w'= .ok (.pointer (some ⟨rb,ro+32,none⟩)) w':=fun w'=>idxN rb ro p.length cr 32 32 rfl w' (by omega);have hx32:(32:Int).toNat=32:=rfl;have w1:IntKind.i64.wrap (k:Int)=(k:Int):=qJ _ (by omega);clear hrcell;go_wp2_with fail
 go_region_held3 (fun W=>W.cell? ⟨gr,0,none⟩=some (.slice (some ⟨rb,ro,none⟩) p.length cr)∧W.cell? ⟨rb,ro+32,none⟩=some (.int .u8 k)∧(convert 36 9 (.slice (some ⟨rb,ro,none⟩) id.length cr)).run Tryz.prog W= .ok (.string ⟨id.toArray⟩) W) (first | exact ⟨k0,c32,hcd⟩ | exact ⟨a0,a1,hca⟩ | exact ⟨b0,b1,hcb⟩ | go_keep) (fail)
 obtain ⟨gx,hgx⟩: ∃gx,gx=w.heap.size:=⟨_,rfl⟩;obtain ⟨v1,hv1⟩: ∃v1,v1=(w.alloc (.cells #[.string ⟨id.toArray⟩,.int .i64 (k:Int),.int .i64 0,.int .i64 0] 306)).drew:=⟨_,rfl⟩;have hX1:Blk v1 gx 306 [.string ⟨id.toArray⟩,.int .i64 (k:Int),.int .i64 0,.int .i64 0]:=by rw [hv1,hgx];exact (Blk.new w _ _).drew
 have hb1:Below w.heap.size w v1:=by rw [hv1];exact ((bR _ _).alloc (lR _) _).drew
 have hs1:v1.heap.size=w.heap.size+1:=by rw [hv1];simp
 rw [←hv1,←hgx];have hR1:=h.below hb1;have hgl:=h.blk.lt;have HGX:=qI hgx;clear hv1 hgx hca hcb hcd hcf hB1 hB2 a0 a1 b0 b1 c32 k0 hidp hsl ix hrd hrbb;have hrd1:=hR1.seg.rd;have k0:v1.cell? ⟨gr,0,none⟩=some (.slice (some ⟨rb,ro,none⟩) p.length cr):=by rw [hR1.blk.cell];rfl
 obtain ⟨q,Aq,cq,hq,hq1,hq2,hqp,hcq,hsq,hsg,hsl⟩:=Z0b (k:=33) 33 rfl hrd1 (by omega) hpc hcm;have ht:=Z5j Aq q cq p.length v1.drew hqp.1.drew (by omega) hqp.2.1
 have hRr:Hid (r=match ZE q p.length with
  | none=>none
  | some (t,rest)=>match Z11 pv.p.raw pv.p.depth k t with
   | none=>none
   | some raw=>if ZC raw=id∧Zd geS raw=true then some (⟨id,k,Z0g pv.p.depth k,t.length,raw⟩,rest) else none):=by
  unfold Hid;rw [HR.out,ZgY (by omega) hid.out hq.out HK.out]
 clear HR HK hid hq
 cases htt:ZE q p.length with
 | none=>
  rw [htt] at ht hRr;have hr:Hid (r=none):=hRr.out;have HT:=qI ht;clear ht htt hRr;go_wp2_with fail
  go_region_held3 (fun W=>W.cell? ⟨gr,0,none⟩=some (.slice (some ⟨rb,ro,none⟩) p.length cr)) (first | exact k0 | exact k2 | go_keep) ((go_at_call 255;(with_reducible refine HT.out.mono ?_);rintro e w2 ⟨rfl,hb2⟩;have hb2:Below v1.heap.size v1 w2:=⟨hb2.os,hb2.tape,hb2.output,hb2.size,hb2.block⟩;have k2:w2.cell? ⟨gr,0,none⟩=some (.slice (some ⟨rb,ro,none⟩) p.length cr):=(hb2.cell (p:=⟨gr,0,none⟩) hR1.blk.lt).trans k0))
  go_wp2_with fail;go_ret;rw [hr.out];exact ⟨rfl,(hb1.next hb2).mono hbase⟩
 | some tr=>
  obtain ⟨t,rest⟩:=tr;have htt0:=qI htt;rw [htt] at ht hRr;have HT:=qI ht;clear ht htt;go_wp2_with fail
  go_region_held3 (fun W=>W.cell? ⟨gr,0,none⟩=some (.slice (some ⟨rb,ro,none⟩) p.length cr)) (first | exact k0 | exact k2 | go_keep) ((go_at_call 255;(with_reducible refine HT.out.mono ?_);rintro e w2 ⟨q2,A2,c2,hq2e,rfl,hs2,hb2⟩;have hb2:Below v1.heap.size v1 w2:=⟨hb2.os,hb2.tape,hb2.output,hb2.size,hb2.block⟩;have k2:w2.cell? ⟨gr,0,none⟩=some (.slice (some ⟨rb,ro,none⟩) p.length cr):=(hb2.cell (p:=⟨gr,0,none⟩) hR1.blk.lt).trans k0))
  have hR2:=hR1.below hb2;have hX2:=hX1.below hb2 (by have:=HGX.out;omega);have htq:t.length≤q.length:=by
   obtain ⟨e1,_⟩:=Z0c htt0.out;have:=congrArg List.length e1;rw [List.length_append] at this;unfold text at this;rw [List.length_append] at this;omega
  have hs2':=hb2.size;obtain ⟨At,ct,w3,hcv,hB83,hb3,i1,i2⟩:=ZgX t w2.drew (by omega);have hb3:Below w2.heap.size w2 w3:=⟨hb3.os,hb3.tape,hb3.output,hb3.size,hb3.block⟩;have hR3:=hR2.below hb3;have hX3:=hX2.below hb3 hX2.lt;have hs3:=hb3.size;have kx:w2.cell? ⟨gx,1,none⟩=some (.int .i64 (k:Int)):=by rw [hX2.cell];rfl
  have kx3:w3.cell? ⟨gx,1,none⟩=some (.int .i64 (k:Int)):=by rw [hX3.cell];rfl
  have hx3l:=hX3.lt;have hop:=ZdL gr 1 276 _ pv.A pv.p.raw pv.c pv.p.depth k base At t ct w3 hR3.blk rfl rfl hR3.own.1.rd hraw hR3.own.2.1 hR3.own.2.2 (hB83.lower (by show base≤w2.heap.size;omega)) (by omega) i1 i2 (by omega);have hb03:=(hb1.next hb2).next hb3
  cases hopp:Z11 pv.p.raw pv.p.depth k t with
  | none=>
   rw [hopp] at hop;have hr:Hid (r=none):=by unfold Hid;rw [hRr.out];(try simp only);rw [hopp]
   have HOP:=qI hop;clear hop hopp hRr;go_upto_region 7 with (fail)
   refine wp_region_held_drew (S:=fun W=>W.cell? ⟨gx,1,none⟩=some (.int .i64 (k:Int))) (by kernel_rfl) (kx) (fun hHeld=> ?_);refine tk 0 (.pointer (some ⟨gr,0,none⟩)) rfl (fun _ _ _ h=>h) (Or.inl ⟨by rfl,fun w9 hS=> ?_⟩) hHeld ?_
   ·have s0:=hS
    go_simp
   try simp only [Act.put,sA,sB,sC,sD,sF]
   refine tk 1 (.pointer (some ⟨gr,0,none⟩)) rfl (fun _ _ _ h=>h) (Or.inl ⟨by rfl,fun w9 hS=> ?_⟩) hHeld ?_
   ·have s0:=hS
    go_simp
   try simp only [Act.put,sA,sB,sC,sD,sE,sF]
   refine tk 2 (.pointer (some ⟨gr,1,none⟩)) rfl (fun _ _ _ h=>h) (Or.inl ⟨by rfl,fun w9 hS=> ?_⟩) hHeld ?_
   ·have s0:=hS
    go_simp
   try simp only [Act.put,sA,sB,sC,sD,sE,sF]
   refine tk 3 (.pointer (some ⟨gx,1,none⟩)) rfl (fun _ _ _ h=>h) (Or.inl ⟨by rfl,fun w9 hS=> ?_⟩) hHeld ?_
   ·have s0:=hS
    go_simp
   try simp only [Act.put,sA,sB,sC,sD,sE,sF]
   refine tk 4 (.int .i64 (k:Int)) rfl (fun _ _ _ h=>h) (Or.inl ⟨by rfl,fun w9 hS=> ?_⟩) hHeld ?_
   ·have s0:=hS
    go_simp
   try simp only [Act.put,sA,sB,sC,sD,sE,sF]
   refine tk 5 (.string ⟨t.toArray⟩) rfl (fun _ _ _ h=>h) (Or.inl ⟨by rfl,fun w9 hS=> ?_⟩) hHeld ?_
   ·have s0:=hS
    go_simp
   try simp only [Act.put,sA,sB,sC,sD,sE,sF]
   refine wpAnyH_ready (rs:=[6]) (by kernel_rfl) (by simp) (AllReadyH.cons (o:=_) rfl (fun K hK=> ?_) AllReadyH.nil);go_simp;refine hK.out _ _ kx3 (fun hHeld=> ?_);clear hK K
   try simp only [Act.put,sA,sB,sC,sD,sE,sF]
   refine wpAnyH_ready (rs:=[7]) (by kernel_rfl) (by simp) (AllReadyH.cons (o:=_) rfl (fun K hK=> ?_) AllReadyH.nil);go_simp;refine (HOP.out).mono ?_;rintro e w4 ⟨hb4,rfl⟩;have kx4:=(hb4.cell (p:=⟨gx,1,none⟩) hx3l).trans kx3;refine hK.out _ _ kx4 (fun hHeld=> ?_);clear hK K
   try simp only [Act.put,sA,sB,sC,sD,sE,sF]
   refine tk 8 (.tuple #[.slice none 0 0,.int .i64 2]) rfl (fun _ _ _ h=>h) (Or.inl ⟨by rfl,fun w9 hS=> ?_⟩) hHeld ?_
   ·have s0:=hS
    go_simp
   try simp only [Act.put,sA,sB,sC,sD,sE,sF]
   refine tk 9 (.slice none 0 0) rfl (fun _ _ _ h=>h) (Or.inl ⟨by rfl,fun w9 hS=> ?_⟩) hHeld ?_
   ·have s0:=hS
    go_simp
   try simp only [Act.put,sA,sB,sC,sD,sE,sF]
   refine tk 10 (.int .i64 2) rfl (fun _ _ _ h=>h) (Or.inl ⟨by rfl,fun w9 hS=> ?_⟩) hHeld ?_
   ·have s0:=hS
    go_simp
   try simp only [Act.put,sA,sB,sC,sD,sE,sF]
   refine tk 11 (.slice none 0 0) rfl (fun _ _ _ h=>h) (Or.inl ⟨by rfl,fun w9 hS=> ?_⟩) hHeld ?_
   ·have s0:=hS
    go_simp
   try simp only [Act.put,sA,sB,sC,sD,sE,sF]
   refine tk 12 (.int .i64 2) rfl (fun _ _ _ h=>h) (Or.inl ⟨by rfl,fun w9 hS=> ?_⟩) hHeld ?_
   ·have s0:=hS
    go_simp
   try simp only [Act.put,sA,sB,sC,sD,sE,sF]
   refine wpAnyH_done (by kernel_rfl) ?_ _;have hR4:=hR3.below hb4;have hX4:=hX3.below hb4 hx3l;have hb04:=hb03.next hb4;have kr3:w4.cell? ⟨gr,3,none⟩=some (.pointer (some ⟨g,0,none⟩)):=by rw [hR4.blk.cell];rfl
   obtain ⟨_,kg1,_⟩:=hR4.pck.cells;have kx0:w4.cell? ⟨gx,0,none⟩=some (.string ⟨id.toArray⟩):=by rw [hX4.cell];rfl
   obtain ⟨vm,bm,hlk⟩: ∃vm bm,∀n,(Instr.lookup 140 (.map (some m)) (.string ⟨id.toArray⟩) true).run Tryz.prog (w4.drewN n)= .ok (.tuple #[vm,.bool bm]) (w4.drewN n):=by
    rcases hR4.pck.look ⟨id.toArray⟩ (by show id.toArray.size≤_;simp;unfold maxLen;omega) with ⟨_,h1⟩ | ⟨x,_,_,h1,_⟩
    ·exact ⟨_,_,fun n=>h1 (w4.drewN n) rfl⟩
    ·exact ⟨_,_,fun n=>h1 (w4.drewN n) rfl⟩
   go_wp2_with fail;go_quiet (fail);go_wp2_with fail;go_quiet (fail);go_wp2_with fail;go_ret;rw [hr.out];exact ⟨rfl,((hb04.drewN' _).drewN' _).mono hbase⟩
  | some raw=>
   rw [hopp] at hop;have hrl:raw.length≤140737488351232:=by rcases Zfy hopp with h1 | h1<;>omega
   have hrw:Hid (r=if ZC raw=id∧Zd geS raw=true then some (⟨id,k,Z0g pv.p.depth k,t.length,raw⟩,rest) else none):=by unfold Hid;rw [hRr.out];(try simp only);rw [hopp]
   have HOP:=qI hop;clear hop hopp hRr;go_upto_region 7 with (fail)
   refine wp_region_held_drew (S:=fun W=>W.cell? ⟨gx,1,none⟩=some (.int .i64 (k:Int))) (by kernel_rfl) (kx) (fun hHeld=> ?_);refine tk 0 (.pointer (some ⟨gr,0,none⟩)) rfl (fun _ _ _ h=>h) (Or.inl ⟨by rfl,fun w9 hS=> ?_⟩) hHeld ?_
   ·have s0:=hS
    go_simp
   try simp only [Act.put,sA,sB,sC,sD,sF]
   refine tk 1 (.pointer (some ⟨gr,0,none⟩)) rfl (fun _ _ _ h=>h) (Or.inl ⟨by rfl,fun w9 hS=> ?_⟩) hHeld ?_
   ·have s0:=hS
    go_simp
   try simp only [Act.put,sA,sB,sC,sD,sE,sF]
   refine tk 2 (.pointer (some ⟨gr,1,none⟩)) rfl (fun _ _ _ h=>h) (Or.inl ⟨by rfl,fun w9 hS=> ?_⟩) hHeld ?_
   ·have s0:=hS
    go_simp
   try simp only [Act.put,sA,sB,sC,sD,sE,sF]
   refine tk 3 (.pointer (some ⟨gx,1,none⟩)) rfl (fun _ _ _ h=>h) (Or.inl ⟨by rfl,fun w9 hS=> ?_⟩) hHeld ?_
   ·have s0:=hS
    go_simp
   try simp only [Act.put,sA,sB,sC,sD,sE,sF]
   refine tk 4 (.int .i64 (k:Int)) rfl (fun _ _ _ h=>h) (Or.inl ⟨by rfl,fun w9 hS=> ?_⟩) hHeld ?_
   ·have s0:=hS
    go_simp
   try simp only [Act.put,sA,sB,sC,sD,sE,sF]
   refine tk 5 (.string ⟨t.toArray⟩) rfl (fun _ _ _ h=>h) (Or.inl ⟨by rfl,fun w9 hS=> ?_⟩) hHeld ?_
   ·have s0:=hS
    go_simp
   try simp only [Act.put,sA,sB,sC,sD,sE,sF]
   refine wpAnyH_ready (rs:=[6]) (by kernel_rfl) (by simp) (AllReadyH.cons (o:=_) rfl (fun K hK=> ?_) AllReadyH.nil);go_simp;refine hK.out _ _ kx3 (fun hHeld=> ?_);clear hK K
   try simp only [Act.put,sA,sB,sC,sD,sE,sF]
   refine wpAnyH_ready (rs:=[7]) (by kernel_rfl) (by simp) (AllReadyH.cons (o:=_) rfl (fun K hK=> ?_) AllReadyH.nil);go_simp;refine (HOP.out).mono ?_;rintro e w4 ⟨hb4,raw1,A4,c4,hraw1,rfl,hB8,i4,i5⟩;have kx4:=(hb4.cell (p:=⟨gx,1,none⟩) hx3l).trans kx3;refine hK.out _ _ kx4 (fun hHeld=> ?_);clear hK K
   try simp only [Act.put,sA,sB,sC,sD,sE,sF]
   refine tk 8 (.tuple #[.slice A4 raw1.length c4,.int .i64 0]) rfl (fun _ _ _ h=>h) (Or.inl ⟨by rfl,fun w9 hS=> ?_⟩) hHeld ?_
   ·have s0:=hS
    go_simp
   try simp only [Act.put,sA,sB,sC,sD,sE,sF]
   refine tk 9 (.slice A4 raw1.length c4) rfl (fun _ _ _ h=>h) (Or.inl ⟨by rfl,fun w9 hS=> ?_⟩) hHeld ?_
   ·have s0:=hS
    go_simp
   try simp only [Act.put,sA,sB,sC,sD,sE,sF]
   refine tk 10 (.int .i64 0) rfl (fun _ _ _ h=>h) (Or.inl ⟨by rfl,fun w9 hS=> ?_⟩) hHeld ?_
   ·have s0:=hS
    go_simp
   try simp only [Act.put,sA,sB,sC,sD,sE,sF]
   refine tk 11 (.slice A4 raw1.length c4) rfl (fun _ _ _ h=>h) (Or.inl ⟨by rfl,fun w9 hS=> ?_⟩) hHeld ?_
   ·have s0:=hS
    go_simp
   try simp only [Act.put,sA,sB,sC,sD,sE,sF]
   refine tk 12 (.int .i64 0) rfl (fun _ _ _ h=>h) (Or.inl ⟨by rfl,fun w9 hS=> ?_⟩) hHeld ?_
   ·have s0:=hS
    go_simp
   try simp only [Act.put,sA,sB,sC,sD,sE,sF]
   refine wpAnyH_done (by kernel_rfl) ?_ _;have hR4:=hR3.below hb4;have hX4:=hX3.below hb4 hx3l;have hb04:=hb03.next hb4;have kr3:w4.cell? ⟨gr,3,none⟩=some (.pointer (some ⟨g,0,none⟩)):=by rw [hR4.blk.cell];rfl
   obtain ⟨_,kg1,_⟩:=hR4.pck.cells;have kx0:w4.cell? ⟨gx,0,none⟩=some (.string ⟨id.toArray⟩):=by rw [hX4.cell];rfl
   have hidm:(⟨id.toArray⟩:BA).size≤maxLen:=by show id.toArray.size≤_;simp;unfold maxLen;omega
   rcases hR4.pck.look ⟨id.toArray⟩ hidm with ⟨hno,hlk0⟩ | ⟨x0,hx0,hlx,hlk0,_⟩
   ·have hlk: ∀n,(Instr.lookup 140 (.map (some m)) (.string ⟨id.toArray⟩) true).run Tryz.prog (w4.drewN n)= .ok (.tuple #[.slice none 0 0,.bool false]) (w4.drewN n):=fun n=>hlk0 (w4.drewN n) rfl
    clear hlk0;go_wp2_with fail;go_quiet (fail);obtain ⟨v5,hv5⟩: ∃v5,v5=w4.drewN nq:=⟨_,rfl⟩;have hb05:Below w.heap.size w v5:=by rw [hv5];exact hb04.drewN' _
    have hR5:Rdr v5 base gr g l A c m p (some ⟨rb,ro,none⟩) cr pv:=by rw [hv5];exact hR4.keep (fun _ _ _=>rfl) (lR _)
    have hX5:Blk v5 gx 306 [.string ⟨id.toArray⟩,.int .i64 (k:Int),.int .i64 0,.int .i64 0]:=by rw [hv5];exact hX4.drewN _
    have hB85:B8 v5 base A4 raw1:=by rw [hv5];exact hB8.keepB (fun _ _ _=>rfl) (lR _)
    have hQ5:Seg v5 base 5 1 A2 q2.length c2 (bc q2):=by rw [hv5];exact (((hs2.lower (by show base≤v1.heap.size;omega)).belowW hb3).belowW hb4).drewN _
    rw [←hv5];clear hv5 hlk kx0 kg1 kr3 hX4 hR4 hB8 hb04 hX3 hR3 hR2 hX2 hX1 hR1 hb1 hb2 hb3 hb4 hs2;have hcl:=B8.rd hB85;have hSum:=qI (Z2e A4 raw1 c4 v5.drew hcl.drew (by rw [hraw1.out];omega));have k5:v5.cell? ⟨gx,0,none⟩=some (.string ⟨id.toArray⟩):=by rw [hX5.cell];rfl
    by_cases hsum:ZC raw=id
    ·have hIs: ∀W,Below v5.heap.size v5 W→Calls Tryz.prog 251 #[.slice A4 raw1.length c4] W fun e w'=>e= .returned (.bool (Zd geS raw1))∧Below W.heap.size W w':=fun W hW=>Z3U A4 raw1 c4 W (hcl.alive hW) i4 i5 (by rw [hraw1.out];omega)
     have HS:=qI hsum;clear hsum
     cases hob:Zd geS raw1 with
     | false=>
      have hr:Hid (r=none):=by unfold Hid;rw [hrw.out,if_neg (fun h=>by have h2:=h.2;rw [←hraw1.out,hob] at h2;cases h2)]
      rw [hob] at hIs;have hIs:=qI hIs;clear hob;go_upto_region 9 with (fail)
      refine wp_region_held_drew (S:=fun W=>W.cell? ⟨gx,0,none⟩=some (.string ⟨id.toArray⟩)) (by kernel_rfl) (k5) (fun hHeld=> ?_);refine tk 0 (.int .i64 0) rfl (fun _ _ _ h=>h) (Or.inl ⟨by rfl,fun w9 hS=> ?_⟩) hHeld ?_
      ·have s0:=hS
       go_simp
      try simp only [Act.put,sA,sB,sC,sD,sF]
      refine tk 1 (.bool false) rfl (fun _ _ _ h=>h) (Or.inl ⟨by rfl,fun w9 hS=> ?_⟩) hHeld ?_
      ·have s0:=hS
       go_simp
      try simp only [Act.put,sA,sB,sC,sD,sE,sF]
      refine tk 2 (.bool false) rfl (fun _ _ _ h=>h) (Or.inl ⟨by rfl,fun w9 hS=> ?_⟩) hHeld ?_
      ·have s0:=hS
       go_simp
      try simp only [Act.put,sA,sB,sC,sD,sE,sF]
      refine tk 3 (.bool false) rfl (fun _ _ _ h=>h) (Or.inl ⟨by rfl,fun w9 hS=> ?_⟩) hHeld ?_
      ·have s0:=hS
       go_simp
      try simp only [Act.put,sA,sB,sC,sD,sE,sF]
      refine tk 4 (.bool false) rfl (fun _ _ _ h=>h) (Or.inl ⟨by rfl,fun w9 hS=> ?_⟩) hHeld ?_
      ·have s0:=hS
       go_simp
      try simp only [Act.put,sA,sB,sC,sD,sE,sF]
      refine tk 5 (.bool false) rfl (fun _ _ _ h=>h) (Or.inl ⟨by rfl,fun w9 hS=> ?_⟩) hHeld ?_
      ·have s0:=hS
       go_simp
      try simp only [Act.put,sA,sB,sC,sD,sE,sF]
      refine tk 6 (.slice A4 raw1.length c4) rfl (fun _ _ _ h=>h) (Or.inl ⟨by rfl,fun w9 hS=> ?_⟩) hHeld ?_
      ·have s0:=hS
       go_simp
      try simp only [Act.put,sA,sB,sC,sD,sE,sF]
      refine tk 8 (.pointer (some ⟨gx,0,none⟩)) rfl (fun _ _ _ h=>h) (Or.inl ⟨by rfl,fun w9 hS=> ?_⟩) hHeld ?_
      ·have s0:=hS
       go_simp
      try simp only [Act.put,sA,sB,sC,sD,sE,sF]
      refine tk 9 (.string ⟨id.toArray⟩) rfl (fun _ _ _ h=>h) (Or.inl ⟨by rfl,fun w9 hS=> ?_⟩) hHeld ?_
      ·have s0:=hS
       go_simp
      try simp only [Act.put,sA,sB,sC,sD,sE,sF]
      refine wpAnyH_ready (rs:=[7]) (by kernel_rfl) (by simp) (AllReadyH.cons (o:=_) rfl (fun K hK=> ?_) AllReadyH.nil);go_simp;refine (hSum.out).mono ?_;rintro e w6 ⟨sm,hsm,rfl,hb6⟩;have hb6:Below v5.heap.size v5 w6:=⟨hb6.os,hb6.tape,hb6.output,hb6.size,hb6.block⟩;have k6:=(hb6.cell (p:=⟨gx,0,none⟩) hX5.lt).trans k5;have hsm2:Hid (sm=ZC raw):=by unfold Hid;rw [hsm.out,hraw1.out]
      clear hsm;refine hK.out _ _ k6 (fun hHeld=> ?_);clear hK K
      try simp only [Act.put,sA,sB,sC,sD,sE,sF]
      obtain rfl:sm=id:=by rw [hsm2.out];exact HS.out
      refine tk 10 (.bool false) rfl (fun _ _ _ h=>h) (Or.inl ⟨by rfl,fun w9 hS=> ?_⟩) hHeld ?_
      ·have s0:=hS
       go_simp
      try simp only [Act.put,sA,sB,sC,sD,sE,sF]
      refine tk 11 (.bool false) rfl (fun _ _ _ h=>h) (Or.inl ⟨by rfl,fun w9 hS=> ?_⟩) hHeld ?_
      ·have s0:=hS
       go_simp
      try simp only [Act.put,sA,sB,sC,sD,sE,sF]
      refine tk 12 (.bool false) rfl (fun _ _ _ h=>h) (Or.inl ⟨by rfl,fun w9 hS=> ?_⟩) hHeld ?_
      ·have s0:=hS
       go_simp
      try simp only [Act.put,sA,sB,sC,sD,sE,sF]
      refine tk 13 (.slice A4 raw1.length c4) rfl (fun _ _ _ h=>h) (Or.inl ⟨by rfl,fun w9 hS=> ?_⟩) hHeld ?_
      ·have s0:=hS
       go_simp
      try simp only [Act.put,sA,sB,sC,sD,sE,sF]
      refine wpAnyH_ready (rs:=[14]) (by kernel_rfl) (by simp) (AllReadyH.cons (o:=_) rfl (fun K hK=> ?_) AllReadyH.nil);go_simp;refine (hIs.out w6 hb6).mono ?_;rintro e w7 ⟨rfl,hb7⟩;have k7:=(hb7.cell (p:=⟨gx,0,none⟩) (Nat.lt_of_lt_of_le hX5.lt hb6.size)).trans k6;refine hK.out _ _ k7 (fun hHeld=> ?_);clear hK K
      try simp only [Act.put,sA,sB,sC,sD,sE,sF]
      refine tk 15 (.bool true) rfl (fun _ _ _ h=>h) (Or.inl ⟨by rfl,fun w9 hS=> ?_⟩) hHeld ?_
      ·have s0:=hS
       go_simp
      try simp only [Act.put,sA,sB,sC,sD,sE,sF]
      refine tk 16 (.bool true) rfl (fun _ _ _ h=>h) (Or.inl ⟨by rfl,fun w9 hS=> ?_⟩) hHeld ?_
      ·have s0:=hS
       go_simp
      try simp only [Act.put,sA,sB,sC,sD,sE,sF]
      refine wpAnyH_done (by kernel_rfl) ?_ _;go_wp2_with fail;go_ret;rw [hr.out];exact ⟨rfl,((hb05.next hb6).next hb7).mono hbase⟩
     | true=>
      have hrw:Hid (r=some (⟨id,k,Z0g pv.p.depth k,t.length,raw⟩,rest)):=by unfold Hid;rw [hrw.out,if_pos ⟨HS.out,by rw [←hraw1.out];exact hob⟩]
      rw [hob] at hIs;have hIs:=qI hIs;clear hob;go_upto_region 9 with (fail)
      refine wp_region_held_drew (S:=fun W=>W.cell? ⟨gx,0,none⟩=some (.string ⟨id.toArray⟩)) (by kernel_rfl) (k5) (fun hHeld=> ?_);refine tk 0 (.int .i64 0) rfl (fun _ _ _ h=>h) (Or.inl ⟨by rfl,fun w9 hS=> ?_⟩) hHeld ?_
      ·have s0:=hS
       go_simp
      try simp only [Act.put,sA,sB,sC,sD,sF]
      refine tk 1 (.bool false) rfl (fun _ _ _ h=>h) (Or.inl ⟨by rfl,fun w9 hS=> ?_⟩) hHeld ?_
      ·have s0:=hS
       go_simp
      try simp only [Act.put,sA,sB,sC,sD,sE,sF]
      refine tk 2 (.bool false) rfl (fun _ _ _ h=>h) (Or.inl ⟨by rfl,fun w9 hS=> ?_⟩) hHeld ?_
      ·have s0:=hS
       go_simp
      try simp only [Act.put,sA,sB,sC,sD,sE,sF]
      refine tk 3 (.bool false) rfl (fun _ _ _ h=>h) (Or.inl ⟨by rfl,fun w9 hS=> ?_⟩) hHeld ?_
      ·have s0:=hS
       go_simp
      try simp only [Act.put,sA,sB,sC,sD,sE,sF]
      refine tk 4 (.bool false) rfl (fun _ _ _ h=>h) (Or.inl ⟨by rfl,fun w9 hS=> ?_⟩) hHeld ?_
      ·have s0:=hS
       go_simp
      try simp only [Act.put,sA,sB,sC,sD,sE,sF]
      refine tk 5 (.bool false) rfl (fun _ _ _ h=>h) (Or.inl ⟨by rfl,fun w9 hS=> ?_⟩) hHeld ?_
      ·have s0:=hS
       go_simp
      try simp only [Act.put,sA,sB,sC,sD,sE,sF]
      refine tk 6 (.slice A4 raw1.length c4) rfl (fun _ _ _ h=>h) (Or.inl ⟨by rfl,fun w9 hS=> ?_⟩) hHeld ?_
      ·have s0:=hS
       go_simp
      try simp only [Act.put,sA,sB,sC,sD,sE,sF]
      refine tk 8 (.pointer (some ⟨gx,0,none⟩)) rfl (fun _ _ _ h=>h) (Or.inl ⟨by rfl,fun w9 hS=> ?_⟩) hHeld ?_
      ·have s0:=hS
       go_simp
      try simp only [Act.put,sA,sB,sC,sD,sE,sF]
      refine tk 9 (.string ⟨id.toArray⟩) rfl (fun _ _ _ h=>h) (Or.inl ⟨by rfl,fun w9 hS=> ?_⟩) hHeld ?_
      ·have s0:=hS
       go_simp
      try simp only [Act.put,sA,sB,sC,sD,sE,sF]
      refine wpAnyH_ready (rs:=[7]) (by kernel_rfl) (by simp) (AllReadyH.cons (o:=_) rfl (fun K hK=> ?_) AllReadyH.nil);go_simp;refine (hSum.out).mono ?_;rintro e w6 ⟨sm,hsm,rfl,hb6⟩;have hb6:Below v5.heap.size v5 w6:=⟨hb6.os,hb6.tape,hb6.output,hb6.size,hb6.block⟩;have k6:=(hb6.cell (p:=⟨gx,0,none⟩) hX5.lt).trans k5;have hsm2:Hid (sm=ZC raw):=by unfold Hid;rw [hsm.out,hraw1.out]
      clear hsm;refine hK.out _ _ k6 (fun hHeld=> ?_);clear hK K
      try simp only [Act.put,sA,sB,sC,sD,sE,sF]
      obtain rfl:sm=id:=by rw [hsm2.out];exact HS.out
      refine tk 10 (.bool false) rfl (fun _ _ _ h=>h) (Or.inl ⟨by rfl,fun w9 hS=> ?_⟩) hHeld ?_
      ·have s0:=hS
       go_simp
      try simp only [Act.put,sA,sB,sC,sD,sE,sF]
      refine tk 11 (.bool false) rfl (fun _ _ _ h=>h) (Or.inl ⟨by rfl,fun w9 hS=> ?_⟩) hHeld ?_
      ·have s0:=hS
       go_simp
      try simp only [Act.put,sA,sB,sC,sD,sE,sF]
      refine tk 12 (.bool false) rfl (fun _ _ _ h=>h) (Or.inl ⟨by rfl,fun w9 hS=> ?_⟩) hHeld ?_
      ·have s0:=hS
       go_simp
      try simp only [Act.put,sA,sB,sC,sD,sE,sF]
      refine tk 13 (.slice A4 raw1.length c4) rfl (fun _ _ _ h=>h) (Or.inl ⟨by rfl,fun w9 hS=> ?_⟩) hHeld ?_
      ·have s0:=hS
       go_simp
      try simp only [Act.put,sA,sB,sC,sD,sE,sF]
      refine wpAnyH_ready (rs:=[14]) (by kernel_rfl) (by simp) (AllReadyH.cons (o:=_) rfl (fun K hK=> ?_) AllReadyH.nil);go_simp;refine (hIs.out w6 hb6).mono ?_;rintro e w7 ⟨rfl,hb7⟩;have k7:=(hb7.cell (p:=⟨gx,0,none⟩) (Nat.lt_of_lt_of_le hX5.lt hb6.size)).trans k6;refine hK.out _ _ k7 (fun hHeld=> ?_);clear hK K
      try simp only [Act.put,sA,sB,sC,sD,sE,sF]
      refine tk 15 (.bool false) rfl (fun _ _ _ h=>h) (Or.inl ⟨by rfl,fun w9 hS=> ?_⟩) hHeld ?_
      ·have s0:=hS
       go_simp
      try simp only [Act.put,sA,sB,sC,sD,sE,sF]
      refine tk 16 (.bool false) rfl (fun _ _ _ h=>h) (Or.inl ⟨by rfl,fun w9 hS=> ?_⟩) hHeld ?_
      ·have s0:=hS
       go_simp
      try simp only [Act.put,sA,sB,sC,sD,sE,sF]
      refine wpAnyH_done (by kernel_rfl) ?_ _;have hb07:=(hb05.next hb6).next hb7;have hR7:=(hR5.below hb6).below hb7;have hX7:=(hX5.below hb6 hX5.lt).below hb7 (Nat.lt_of_lt_of_le hX5.lt hb6.size);have hB87:B8 w7 base A4 raw1:=(hB85.keepB (fun i _ hi=>hb6.block i hi) hb6.size).keepB (fun i _ hi=>hb7.block i hi) hb7.size;have hQ7:=(hQ5.belowW hb6).belowW hb7;have hw7:=hb07.size;clear hR5 hX5 hB85 hQ5 hb6 hb7 hcl hSum hIs hb05 k5 k6 k7;have hne:gr≠gx:=by have:=HGX.out;omega
      have hgne:g≠gx:=by have:=HGX.out;have:=h.pck.blk.lt;omega
      have hgg:g≠gr:=fun e=>by
       have h1:=hR7.blk;have h2:=hR7.pck.blk;rw [e] at h2;unfold Blk at h1 h2;rw [h1] at h2;injection h2 with h2
       injection h2 with _ h2
       exact absurd h2 (by decide)
      have hgo:=qI (Z7D gr 1 276 _ _ pv.p.depth k A4 raw1.length c4 w7.drew hR7.blk.drew rfl rfl (by omega));have k7:w7.cell? ⟨gx,1,none⟩=some (.int .i64 (k:Int)):=by rw [hX7.cell];rfl
      go_wp2_with fail;refine wp_region_held_drew (S:=fun W=>W.cell? ⟨gx,1,none⟩=some (.int .i64 (k:Int))) (by kernel_rfl) (k7) (fun hHeld=> ?_);refine tk 0 (.pointer (some ⟨gr,0,none⟩)) rfl (fun _ _ _ h=>h) (Or.inl ⟨by rfl,fun w9 hS=> ?_⟩) hHeld ?_
      ·have s0:=hS
       go_simp
      try simp only [Act.put,sA,sB,sC,sD,sF]
      refine tk 1 (.pointer (some ⟨gr,0,none⟩)) rfl (fun _ _ _ h=>h) (Or.inl ⟨by rfl,fun w9 hS=> ?_⟩) hHeld ?_
      ·have s0:=hS
       go_simp
      try simp only [Act.put,sA,sB,sC,sD,sE,sF]
      refine tk 2 (.pointer (some ⟨gr,1,none⟩)) rfl (fun _ _ _ h=>h) (Or.inl ⟨by rfl,fun w9 hS=> ?_⟩) hHeld ?_
      ·have s0:=hS
       go_simp
      try simp only [Act.put,sA,sB,sC,sD,sE,sF]
      refine tk 3 (.pointer (some ⟨gx,1,none⟩)) rfl (fun _ _ _ h=>h) (Or.inl ⟨by rfl,fun w9 hS=> ?_⟩) hHeld ?_
      ·have s0:=hS
       go_simp
      try simp only [Act.put,sA,sB,sC,sD,sE,sF]
      refine tk 4 (.int .i64 (k:Int)) rfl (fun _ _ _ h=>h) (Or.inl ⟨by rfl,fun w9 hS=> ?_⟩) hHeld ?_
      ·have s0:=hS
       go_simp
      try simp only [Act.put,sA,sB,sC,sD,sE,sF]
      refine tk 5 (.slice A4 raw1.length c4) rfl (fun _ _ _ h=>h) (Or.inl ⟨by rfl,fun w9 hS=> ?_⟩) hHeld ?_
      ·have s0:=hS
       go_simp
      try simp only [Act.put,sA,sB,sC,sD,sE,sF]
      refine wpAnyH_ready (rs:=[6]) (by kernel_rfl) (by simp) (AllReadyH.cons (o:=_) rfl (fun K hK=> ?_) AllReadyH.nil);go_simp;refine (hgo.out).mono ?_;rintro e w8 ⟨rfl,hB8r,hg8⟩;have hg8:w7.grownBy w8 (some gr):=⟨hg8.os,hg8.tape,hg8.output,hg8.size,hg8.block⟩;have hX8:=hX7.grown hg8 (fun e=>hne (by injection e with e;exact e.symm));have k8:w8.cell? ⟨gx,1,none⟩=some (.int .i64 (k:Int)):=by rw [hX8.cell];rfl
      refine hK.out _ _ k8 (fun hHeld=> ?_);clear hK K
      try simp only [Act.put,sA,sB,sC,sD,sE,sF]
      refine wpAnyH_done (by kernel_rfl) ?_ _;have hB8n:Blk w8 gr 276 [.slice (some ⟨rb,ro,none⟩) p.length cr,.slice A4 raw1.length c4,.int .i64 (Z0g pv.p.depth k:Nat),.pointer (some ⟨g,0,none⟩)]:=hB8r;obtain ⟨nd,hnd⟩: ∃nd,nd=Z0g pv.p.depth k:=⟨_,rfl⟩;rw [←hnd] at hB8n;have HND:=qI hnd;clear hnd hB8r hgo k7 k8;have kr2:w8.cell? ⟨gr,2,none⟩=some (.int .i64 nd):=by rw [hB8n.cell];rfl
      have kr0:w8.cell? ⟨gr,0,none⟩=some (.slice (some ⟨rb,ro,none⟩) p.length cr):=by rw [hB8n.cell];rfl
      have kx2:w8.cell? ⟨gx,2,none⟩=some (.int .i64 0):=by rw [hX8.cell];rfl
      have kx3:w8.cell? ⟨gx,3,none⟩=some (.int .i64 0):=by rw [hX8.cell];rfl
      have fx2:=hX8.free 2;have fx3:=hX8.free 3;have fr0:=hB8n.free 0;have kr0':((w8.setCell ⟨gx,2,none⟩ (.int .i64 nd)).setCell ⟨gx,3,none⟩ (.int .i64 t.length)).cell? ⟨gr,0,none⟩=some (.slice (some ⟨rb,ro,none⟩) p.length cr):=by rw [((hB8n.far (p:=⟨gx,2,none⟩) hne _).far (p:=⟨gx,3,none⟩) hne _).cell];rfl
      have fr0':=((hB8n.far (p:=⟨gx,2,none⟩) hne (.int .i64 nd)).far (p:=⟨gx,3,none⟩) hne (.int .i64 t.length)).free 0;go_upto_region 14 with (fail)
      obtain ⟨v10,hv10⟩: ∃v10,v10=((w8.setCell ⟨gx,2,none⟩ (.int .i64 nd)).setCell ⟨gx,3,none⟩ (.int .i64 t.length)).setCell ⟨gr,0,none⟩ (.slice A2 q2.length c2):=⟨_,rfl⟩;have hX10:Blk v10 gx 306 [.string ⟨sm.toArray⟩,.int .i64 (k:Int),.int .i64 nd,.int .i64 t.length]:=by rw [hv10];exact ((hX8.set 2 _).set 3 _).far (Ne.symm hne) _
      have hG10:Blk v10 gr 276 [.slice A2 q2.length c2,.slice A4 raw1.length c4,.int .i64 nd,.pointer (some ⟨g,0,none⟩)]:=by rw [hv10];exact ((hB8n.far (p:=⟨gx,2,none⟩) hne _).far (p:=⟨gx,3,none⟩) hne _).set 0 _
      have hgw:w.grownBy v10 (some gr):=by rw [hv10];exact Z0 (Za5 (Za5 (Za (Z8 hb07 (some gr)) hg8) (by show w.heap.size≤gx;rw [HGX.out];exact lR _) _) (by show w.heap.size≤gx;rw [HGX.out];exact lR _) _) 0 _
      have hgx8:w8.grownBy ((w8.setCell ⟨gx,2,none⟩ (.int .i64 nd)).setCell ⟨gx,3,none⟩ (.int .i64 t.length)) (some gx):=Z0 (Z0 (gR _ _) 2 _) 3 _;have hGr9:=(hB8n.far (p:=⟨gx,2,none⟩) hne (.int .i64 nd)).far (p:=⟨gx,3,none⟩) hne (.int .i64 t.length);have hgr9:((w8.setCell ⟨gx,2,none⟩ (.int .i64 nd)).setCell ⟨gx,3,none⟩ (.int .i64 t.length)).grownBy v10 (some gr):=by rw [hv10];exact Z0 (gR _ _) 0 _
      have hB810:B8 v10 base A4 raw1:=((hB87.grown hg8 (Other.blk hR7.blk (by decide) (zL _))).grown hgx8 (Other.blk hX8 (by decide) (zL _))).grown hgr9 (Other.blk hGr9 (by decide) (zL _));have hQ10:Seg v10 base 5 1 A2 q2.length c2 (bc q2):=Z0Z (Z0Z (Z0Z hQ7 hR7.blk (by decide) hg8) hX8 (by decide) hgx8) hGr9 (by decide) hgr9;have hP10:=h.pck.grown h.blk hgw (by decide) (by decide) (by decide) (by decide);rw [←hv10];clear hv10 hgx8 hGr9 hgr9 hB87 hQ7 hX8 hB8n kr2 kr0 kx2 kx3 fx2 fx3 fr0 kr0' fr0' hg8 hX7 hR7 hb07;have hpx:(Value.slice A l.length c).ownBlock≠some gx:=fun e=>by
       have h1:=(h.pck.parts.lt gx e).2;have:=HGX.out;omega
      have hkey:=WideMaps.keyOf_string_mk Tryz.underlying9 hidm;obtain ⟨al1,w11,hup,hm11,hput,hg11⟩:=hP10.map.drew.update Z2V Tryz.underlying140 hkey (.slice A4 raw1.length c4);have hg11:v10.grownBy w11 (some m):=⟨hg11.os,hg11.tape,hg11.output,hg11.size,hg11.block⟩;have hmgx:gx≠m:=hP10.map.blk_ne hX10;have hmgr:gr≠m:=hP10.map.blk_ne hG10;have hmg:g≠m:=hP10.map.blk_ne hP10.blk;have hX11:=hX10.grown hg11 (fun e=>hmgx (by injection e));have hG11:=hG10.grown hg11 (fun e=>hmgr (by injection e));have hA11:=hP10.blk.grown hg11 (fun e=>hmg (by injection e));have hE11:=hP10.map.is.kept hP10.parts hg11;have a3:v10.cell? ⟨gr,3,none⟩=some (.pointer (some ⟨g,0,none⟩)):=by rw [hG10.cell];rfl
      have a1:v10.cell? ⟨g,1,none⟩=some (.map (some m)):=by rw [hP10.blk.cell];rfl
      have a0:v10.cell? ⟨gx,0,none⟩=some (.string ⟨sm.toArray⟩):=by rw [hX10.cell];rfl
      have b3:w11.cell? ⟨gr,3,none⟩=some (.pointer (some ⟨g,0,none⟩)):=by rw [hG11.cell];rfl
      have b1:w11.cell? ⟨g,1,none⟩=some (.map (some m)):=by rw [hA11.cell];rfl
      have b0:w11.cell? ⟨gx,0,none⟩=some (.string ⟨sm.toArray⟩):=by rw [hX11.cell];rfl
      refine wp_region_held_drew (S:=fun W=>W.cell? ⟨gr,3,none⟩=some (.pointer (some ⟨g,0,none⟩))∧W.cell? ⟨g,1,none⟩=some (.map (some m))∧W.cell? ⟨gx,0,none⟩=some (.string ⟨sm.toArray⟩)) (by kernel_rfl) (⟨a3,a1,a0⟩) (fun hHeld=> ?_);refine tk 0 (.pointer (some ⟨gr,0,none⟩)) rfl (fun _ _ _ h=>h) (Or.inl ⟨by rfl,fun w9 hS=> ?_⟩) hHeld ?_
      ·obtain ⟨s0,s1,s2⟩:=hS
       go_simp
      try simp only [Act.put,sA,sB,sC,sD,sF]
      refine tk 1 (.pointer (some ⟨gr,0,none⟩)) rfl (fun _ _ _ h=>h) (Or.inl ⟨by rfl,fun w9 hS=> ?_⟩) hHeld ?_
      ·obtain ⟨s0,s1,s2⟩:=hS
       go_simp
      try simp only [Act.put,sA,sB,sC,sD,sE,sF]
      refine tk 2 (.pointer (some ⟨gr,3,none⟩)) rfl (fun _ _ _ h=>h) (Or.inl ⟨by rfl,fun w9 hS=> ?_⟩) hHeld ?_
      ·obtain ⟨s0,s1,s2⟩:=hS
       go_simp
      try simp only [Act.put,sA,sB,sC,sD,sE,sF]
      refine tk 3 (.pointer (some ⟨g,0,none⟩)) rfl (fun _ _ _ h=>h) (Or.inl ⟨by rfl,fun w9 hS=> ?_⟩) hHeld ?_
      ·obtain ⟨s0,s1,s2⟩:=hS
       go_simp
      try simp only [Act.put,sA,sB,sC,sD,sE,sF]
      refine tk 4 (.pointer (some ⟨g,0,none⟩)) rfl (fun _ _ _ h=>h) (Or.inl ⟨by rfl,fun w9 hS=> ?_⟩) hHeld ?_
      ·obtain ⟨s0,s1,s2⟩:=hS
       go_simp
      try simp only [Act.put,sA,sB,sC,sD,sE,sF]
      refine tk 5 (.pointer (some ⟨g,1,none⟩)) rfl (fun _ _ _ h=>h) (Or.inl ⟨by rfl,fun w9 hS=> ?_⟩) hHeld ?_
      ·obtain ⟨s0,s1,s2⟩:=hS
       go_simp
      try simp only [Act.put,sA,sB,sC,sD,sE,sF]
      refine tk 6 (.map (some m)) rfl (fun _ _ _ h=>h) (Or.inl ⟨by rfl,fun w9 hS=> ?_⟩) hHeld ?_
      ·obtain ⟨s0,s1,s2⟩:=hS
       go_simp
      try simp only [Act.put,sA,sB,sC,sD,sE,sF]
      refine tk 7 (.pointer (some ⟨gx,0,none⟩)) rfl (fun _ _ _ h=>h) (Or.inl ⟨by rfl,fun w9 hS=> ?_⟩) hHeld ?_
      ·obtain ⟨s0,s1,s2⟩:=hS
       go_simp
      try simp only [Act.put,sA,sB,sC,sD,sE,sF]
      refine tk 8 (.string ⟨sm.toArray⟩) rfl (fun _ _ _ h=>h) (Or.inl ⟨by rfl,fun w9 hS=> ?_⟩) hHeld ?_
      ·obtain ⟨s0,s1,s2⟩:=hS
       go_simp
      try simp only [Act.put,sA,sB,sC,sD,sE,sF]
      refine tk 9 (.slice A4 raw1.length c4) rfl (fun _ _ _ h=>h) (Or.inl ⟨by rfl,fun w9 hS=> ?_⟩) hHeld ?_
      ·obtain ⟨s0,s1,s2⟩:=hS
       go_simp
      try simp only [Act.put,sA,sB,sC,sD,sE,sF]
      refine wpAnyH_ready (rs:=[10]) (by kernel_rfl) (by simp) (AllReadyH.cons (o:=_) rfl (fun K hK=> ?_) AllReadyH.nil);go_simp;refine hK.out _ _ ⟨b3,b1,b0⟩ (fun hHeld=> ?_);clear hK K
      try simp only [Act.put,sA,sB,sC,sD,sE,sF]
      refine wpAnyH_done (by kernel_rfl) ?_ _;obtain ⟨xA,hxA⟩: ∃xA:PtA,xA=⟨⟨sm,k,nd,t.length,raw1⟩,A4,c4⟩:=⟨_,rfl⟩;have hnin: ∀y∈ptm l,y.1≠Value.string ⟨sm.toArray⟩:=fun y hy e=>by
       obtain ⟨z,hz,rfl⟩:=List.mem_map.1 hy;injection e with e
       have e2:z.p.id=sm:=by have:=ZdH.1 e;simpa using this
       unfold Z1Y at hno;have h3:=List.find?_eq_none.1 hno z.p (List.mem_map.2 ⟨z,hz,rfl⟩);simp [e2] at h3
      have hal:al1=ptm (l++[xA]):=by
       rcases hput with ⟨_,rfl⟩ | ⟨l1,r1,v0,e1,_⟩
       ·rw [Zh0,hxA]
        rfl
       ·exact absurd rfl (hnin (Value.string ⟨sm.toArray⟩,v0) (by rw [e1];simp))
      have hB811:B8 w11 base A4 raw1:=by
       refine hB810.grown hg11 fun j hj=>⟨zL _,fun cur fr e=> ?_⟩;injection hj with hj
       subst hj;obtain ⟨es,clock,hbm⟩:=hP10.map.is;rw [hbm] at e;cases e
      have hRs11: ∀x∈l,B8 w11 base x.A x.p.raw∧x.p.raw.length≤x.c∧x.c≤maxLen:=fun x hx=>by
       refine ⟨(hP10.raws x hx).1.grown hg11 fun j hj=>⟨zL _,fun cur fr e=> ?_⟩,(hP10.raws x hx).2⟩;injection hj with hj
       subst hj;obtain ⟨es,clock,hbm⟩:=hP10.map.is;rw [hbm] at e;cases e
      have hQ11:Seg w11 base 5 1 A2 q2.length c2 (bc q2):=hQ10.keepR hg11 fun j hj e=>by
       injection e with e
       subst e;obtain ⟨es,clock,hbm⟩:=hP10.map.is;unfold ZP at hj;split at hj
       ·rcases hQ10.2.2.2 with h4 | ⟨k',off,cur,rfl,_,hh,_⟩
        ·omega
        ·have hk':k'=j:=by simpa [Z9] using hj
         rw [hk',hbm] at hh;cases hh
       ·cases hj
      have hgw11:Below base w w11:=(Z2 hgw h.gb hbase).trans (Z2 hg11 hP10.mb (lT hbase hgw.size));clear hup hput hg11 hQ10 hB810 hgw hX10 hG10 a3 a1 a0;rw [hal] at hm11;clear hal;have c0:w11.cell? ⟨g,0,none⟩=some (.slice A l.length c):=by rw [hA11.cell];rfl
      have d1':w11.cell? ⟨gx,1,none⟩=some (.int .i64 (k:Int)):=by rw [hX11.cell];rfl
      have d2':w11.cell? ⟨gx,2,none⟩=some (.int .i64 nd):=by rw [hX11.cell];rfl
      have d3':w11.cell? ⟨gx,3,none⟩=some (.int .i64 t.length):=by rw [hX11.cell];rfl
      go_upto_region 15 with (fail)
      refine Z2G (S:=fun W=>W.cell? ⟨gr,3,none⟩=some (.pointer (some ⟨g,0,none⟩))∧W.cell? ⟨g,0,none⟩=some (.slice A l.length c)∧W.cell? ⟨gx,0,none⟩=some (.string ⟨sm.toArray⟩)∧W.cell? ⟨gx,1,none⟩=some (.int .i64 (k:Int))∧W.cell? ⟨gx,2,none⟩=some (.int .i64 nd)∧W.cell? ⟨gx,3,none⟩=some (.int .i64 t.length)) 16 _ (by kernel_rfl) rfl (by kernel_rfl) rfl rfl ⟨b3,c0,b0,d1',d2',d3'⟩ (fun hHeld=> ?_);simp only [List.setIfInBounds_toArray,List.set_cons_zero,List.set_cons_succ,idle,List.getElem_toArray,List.getElem_cons_succ,List.getElem_cons_zero];refine tk 0 (.pointer (some ⟨gr,0,none⟩)) rfl (fun _ _ _ h=>h) (Or.inl ⟨by rfl,fun w9 hS=> ?_⟩) hHeld ?_
      ·obtain ⟨s0,s1,s2,s3,s4,s5⟩:=hS
       go_simp
      try simp only [Act.put,sA,sB,sC,sD,sF]
      refine tk 1 (.pointer (some ⟨gr,0,none⟩)) rfl (fun _ _ _ h=>h) (Or.inl ⟨by rfl,fun w9 hS=> ?_⟩) hHeld ?_
      ·obtain ⟨s0,s1,s2,s3,s4,s5⟩:=hS
       go_simp
      try simp only [Act.put,sA,sB,sC,sD,sE,sF]
      refine tk 2 (.pointer (some ⟨gr,3,none⟩)) rfl (fun _ _ _ h=>h) (Or.inl ⟨by rfl,fun w9 hS=> ?_⟩) hHeld ?_
      ·obtain ⟨s0,s1,s2,s3,s4,s5⟩:=hS
       go_simp
      try simp only [Act.put,sA,sB,sC,sD,sE,sF]
      refine tk 3 (.pointer (some ⟨g,0,none⟩)) rfl (fun _ _ _ h=>h) (Or.inl ⟨by rfl,fun w9 hS=> ?_⟩) hHeld ?_
      ·obtain ⟨s0,s1,s2,s3,s4,s5⟩:=hS
       go_simp
      try simp only [Act.put,sA,sB,sC,sD,sE,sF]
      refine tk 4 (.pointer (some ⟨gr,0,none⟩)) rfl (fun _ _ _ h=>h) (Or.inl ⟨by rfl,fun w9 hS=> ?_⟩) hHeld ?_
      ·obtain ⟨s0,s1,s2,s3,s4,s5⟩:=hS
       go_simp
      try simp only [Act.put,sA,sB,sC,sD,sE,sF]
      refine tk 5 (.pointer (some ⟨gr,0,none⟩)) rfl (fun _ _ _ h=>h) (Or.inl ⟨by rfl,fun w9 hS=> ?_⟩) hHeld ?_
      ·obtain ⟨s0,s1,s2,s3,s4,s5⟩:=hS
       go_simp
      try simp only [Act.put,sA,sB,sC,sD,sE,sF]
      refine tk 6 (.pointer (some ⟨gr,3,none⟩)) rfl (fun _ _ _ h=>h) (Or.inl ⟨by rfl,fun w9 hS=> ?_⟩) hHeld ?_
      ·obtain ⟨s0,s1,s2,s3,s4,s5⟩:=hS
       go_simp
      try simp only [Act.put,sA,sB,sC,sD,sE,sF]
      refine tk 7 (.pointer (some ⟨g,0,none⟩)) rfl (fun _ _ _ h=>h) (Or.inl ⟨by rfl,fun w9 hS=> ?_⟩) hHeld ?_
      ·obtain ⟨s0,s1,s2,s3,s4,s5⟩:=hS
       go_simp
      try simp only [Act.put,sA,sB,sC,sD,sE,sF]
      refine tk 8 (.pointer (some ⟨g,0,none⟩)) rfl (fun _ _ _ h=>h) (Or.inl ⟨by rfl,fun w9 hS=> ?_⟩) hHeld ?_
      ·obtain ⟨s0,s1,s2,s3,s4,s5⟩:=hS
       go_simp
      try simp only [Act.put,sA,sB,sC,sD,sE,sF]
      refine tk 9 (.pointer (some ⟨g,0,none⟩)) rfl (fun _ _ _ h=>h) (Or.inl ⟨by rfl,fun w9 hS=> ?_⟩) hHeld ?_
      ·obtain ⟨s0,s1,s2,s3,s4,s5⟩:=hS
       go_simp
      try simp only [Act.put,sA,sB,sC,sD,sE,sF]
      refine tk 10 (.slice A l.length c) rfl (fun _ _ _ h=>h) (Or.inl ⟨by rfl,fun w9 hS=> ?_⟩) hHeld ?_
      ·obtain ⟨s0,s1,s2,s3,s4,s5⟩:=hS
       go_simp
      try simp only [Act.put,sA,sB,sC,sD,sE,sF]
      refine tk 11 (.agg #[.string ⟨sm.toArray⟩,.int .i64 (k:Int),.int .i64 nd,.int .i64 t.length]) rfl (fun _ _ _ h=>h) (Or.inl ⟨by rfl,fun w9 hS=> ?_⟩) hHeld ?_
      ·obtain ⟨s0,s1,s2,s3,s4,s5⟩:=hS
       go_simp
      try simp only [Act.put,sA,sB,sC,sD,sE,sF]
      have hE12:=(Zi hE11 ((bR _ _).drew (w:=w11))).alloc (.cells #[.string ⟨sm.toArray⟩,.int .i64 (k:Int),.int .i64 nd,.int .i64 t.length] 306);have hr12:=Rd.newS w11.drew 306 [.string ⟨sm.toArray⟩,.int .i64 (k:Int),.int .i64 nd,.int .i64 t.length] 4 rfl;have hxc:[Value.string ⟨sm.toArray⟩,.int .i64 (k:Int),.int .i64 nd,.int .i64 t.length]=ptc [xA]:=by rw [hxA];rfl
      have h114:=Zij [xA];rw [←hxc] at h114;have hxc':[Value.string ⟨sm.toArray⟩,.int .i64 (k:Int),.int .i64 nd,.int .i64 t.length]=xA.cells:=by rw [hxA];rfl
      have hX12:=hX11.drew.alloc (.cells #[.string ⟨sm.toArray⟩,.int .i64 (k:Int),.int .i64 nd,.int .i64 t.length] 306);have hG12:=hG11.drew.alloc (.cells #[.string ⟨sm.toArray⟩,.int .i64 (k:Int),.int .i64 nd,.int .i64 t.length] 306);have hA12:=hA11.drew.alloc (.cells #[.string ⟨sm.toArray⟩,.int .i64 (k:Int),.int .i64 nd,.int .i64 t.length] 306);have e0:(w11.drew.alloc (.cells #[.string ⟨sm.toArray⟩,.int .i64 (k:Int),.int .i64 nd,.int .i64 t.length] 306)).cell? ⟨gr,3,none⟩=some (.pointer (some ⟨g,0,none⟩)):=by rw [hG12.cell];rfl
      have e1:(w11.drew.alloc (.cells #[.string ⟨sm.toArray⟩,.int .i64 (k:Int),.int .i64 nd,.int .i64 t.length] 306)).cell? ⟨g,0,none⟩=some (.slice A l.length c):=by rw [hA12.cell];rfl
      have e2:(w11.drew.alloc (.cells #[.string ⟨sm.toArray⟩,.int .i64 (k:Int),.int .i64 nd,.int .i64 t.length] 306)).cell? ⟨gx,0,none⟩=some (.string ⟨sm.toArray⟩):=by rw [hX12.cell];rfl
      have e3:(w11.drew.alloc (.cells #[.string ⟨sm.toArray⟩,.int .i64 (k:Int),.int .i64 nd,.int .i64 t.length] 306)).cell? ⟨gx,1,none⟩=some (.int .i64 (k:Int)):=by rw [hX12.cell];rfl
      have e4:(w11.drew.alloc (.cells #[.string ⟨sm.toArray⟩,.int .i64 (k:Int),.int .i64 nd,.int .i64 t.length] 306)).cell? ⟨gx,2,none⟩=some (.int .i64 nd):=by rw [hX12.cell];rfl
      have e5:(w11.drew.alloc (.cells #[.string ⟨sm.toArray⟩,.int .i64 (k:Int),.int .i64 nd,.int .i64 t.length] 306)).cell? ⟨gx,3,none⟩=some (.int .i64 t.length):=by rw [hX12.cell];rfl
      refine wpAnyH_ready (rs:=[12]) (by kernel_rfl) (by simp) (AllReadyH.cons (o:=_) rfl (fun K hK=> ?_) AllReadyH.nil);go_simp;refine hK.out _ _ ⟨e0,e1,e2,e3,e4,e5⟩ (fun hHeld=> ?_);clear hK K
      try simp only [Act.put,sA,sB,sC]
      refine wpAnyH_ready (rs:=[13]) (by kernel_rfl) (by simp) (AllReadyH.cons (o:=_) rfl (fun K hK=> ?_) AllReadyH.nil);refine ZeZ rfl (.tmp 129) (.tmp 131) 203 306 _ 4 40 rfl Tryz.underlying203 Zh1 rfl (by decide) base _ l.length (ptc l) rfl hE12 _ _ 1 1 _ rfl hr12 h114 (by unfold maxLen;omega) (by omega) (lT hbase (lT hgw11.size (by simp))) ?_;intro A5 c5 w13 hE13 hb13 hg13 i6 i7;have n1:some gx≠(Value.slice A l.length c).ownBlock:=fun e=>hpx (by rw [←e]);have n2:some gr≠(Value.slice A l.length c).ownBlock:=fun e=>own_ne hE12 hG12 (by decide) e.symm;have n3:some g≠(Value.slice A l.length c).ownBlock:=fun e=>own_ne hE12 hA12 (by decide) e.symm;have hX13:=hX12.grown hg13 n1;have hG13:=hG12.grown hg13 n2;have hA13:=hA12.grown hg13 n3;have f0:w13.cell? ⟨gr,3,none⟩=some (.pointer (some ⟨g,0,none⟩)):=by rw [hG13.cell];rfl
      have f1:w13.cell? ⟨g,0,none⟩=some (.slice A l.length c):=by rw [hA13.cell];rfl
      have f2:w13.cell? ⟨gx,0,none⟩=some (.string ⟨sm.toArray⟩):=by rw [hX13.cell];rfl
      have f3:w13.cell? ⟨gx,1,none⟩=some (.int .i64 (k:Int)):=by rw [hX13.cell];rfl
      have f4:w13.cell? ⟨gx,2,none⟩=some (.int .i64 nd):=by rw [hX13.cell];rfl
      have f5:w13.cell? ⟨gx,3,none⟩=some (.int .i64 t.length):=by rw [hX13.cell];rfl
      refine hK.out _ _ ⟨f0,f1,f2,f3,f4,f5⟩ (fun hHeld=> ?_);clear hK K
      try simp only [Act.put,sA,sB,sC,sD,sE,sF]
      refine tk 14 (.pointer (some ⟨g,0,none⟩)) rfl (fun _ _ _ h=>h) (Or.inl ⟨by rfl,fun w9 hS=> ?_⟩) hHeld ?_
      ·obtain ⟨s0,s1,s2,s3,s4,s5⟩:=hS
       go_simp
      try simp only [Act.put,sA,sB,sC,sD,sE,sF]
      refine tk 15 (.pointer (some ⟨g,0,none⟩)) rfl (fun _ _ _ h=>h) (Or.inl ⟨by rfl,fun w9 hS=> ?_⟩) hHeld ?_
      ·obtain ⟨s0,s1,s2,s3,s4,s5⟩:=hS
       go_simp
      try simp only [Act.put,sA,sB,sC,sD,sE,sF]
      refine tk 16 (undef) rfl (fun _ _ _ h=>h) (Or.inl ⟨by rfl,fun w9 hS=> ?_⟩) hHeld ?_
      ·obtain ⟨s0,s1,s2,s3,s4,s5⟩:=hS
       go_simp
      try simp only [Act.put,sD,sE,sF]
      refine wpAnyH_done (by kernel_rfl) ?_ _;have ff:=hA13.free 0;simp only [Z1s];go_simp;have hgz:w13.grownBy (w13.setCell ⟨g,0,none⟩ (.slice A5 (l.length+1) c5)) (some g):=Z0 (gR _ _) 0 _;obtain ⟨w14,hw14⟩: ∃w14,w14=w13.setCell ⟨g,0,none⟩ (.slice A5 (l.length+1) c5):=⟨_,rfl⟩;have hA14:Blk w14 g 205 [.slice A5 (l.length+1) c5,.map (some m),.int .u32 0,.int .i32 0,.int .u32 0,.slice none 0 0]:=by rw [hw14];exact hA13.set 0 _
      rw [←hw14] at hgz ⊢;have hb12:Below w11.heap.size w11 (w11.drew.alloc (.cells #[.string ⟨sm.toArray⟩,.int .i64 (k:Int),.int .i64 nd,.int .i64 t.length] 306)):=((bR _ _).drew).alloc (by simp) _;have hO12:Other (w11.drew.alloc (.cells #[.string ⟨sm.toArray⟩,.int .i64 (k:Int),.int .i64 nd,.int .i64 t.length] 306)) 0 (Value.slice A l.length c).ownBlock:=Other.own hE12 (by decide) (zL _);have hO13:Other w13 0 (some g):=Other.blk hA13 (by decide) (zL _);have hup8: ∀(A':OA) (l':LU),B8 w11 base A' l'→B8 w14 base A' l':=fun A' l' h8=>((h8.keepB (fun i _ hi=>hb12.block i hi) hb12.size).grown hg13 hO12).grown hgz hO13;have hG14:=hG13.grown hgz (fun e=>hgg (by injection e with e;exact e.symm));have hQ14:=Z0Z (Zio (hQ11.belowW hb12) hE12 (by decide) hg13) hA13 (by decide) hgz;have hm14:=((hm11.belowW hb12).grown hg13 (fun e=>(hm11.belowW hb12).own_ne hE12 e.symm)).grown hgz (fun e=>hmg (by injection e with e;exact e.symm));have hE14:=Ze hE13 hA13 (by decide) hgz;have hbe:Below base w w14:=(hgw11.trans (hb12.mono (lT hbase hgw11.size))).trans (hb13.trans (Z2 hgz h.pck.gb (lT (lT hbase hgw11.size) (lT hb12.size hb13.size))));have hxl:(l++[xA]).length=l.length+1:=by simp
      have hnl: ¬sm∈l.map fun x=>x.p.id:=fun h1=>by
       obtain ⟨z,hz,e2⟩:=List.mem_map.1 h1;unfold Z1Y at hno;have h3:=List.find?_eq_none.1 hno z.p (List.mem_map.2 ⟨z,hz,rfl⟩);simp [e2] at h3
      have hfin:ZeH w base gr g l m r (.returned (.int .i64 0)) w14:=by
       rw [hrw.out];refine ⟨hbe,?_⟩;rw [if_neg hnl];refine ⟨rfl,xA,A5,c5,q2,A2,c2,?_,hq2e,?_,h.gb,⟨?_,hP10.gb,hP10.mb,?_,hm14,?_,.inl ⟨rfl,rfl⟩⟩,hQ14,?_⟩
       ·unfold Hid;rw [hxA,HND.out,hraw1.out]
       ·rw [hxA];exact hG14
       ·rw [hxl];exact hA14
       ·rw [hxl,ZgZ,←hxc'];exact hE14
       ·intro x hx
        rcases List.mem_append.1 hx with hx | hx
        ·exact ⟨hup8 _ _ (hRs11 x hx).1,(hRs11 x hx).2⟩
        ·obtain rfl:=List.mem_singleton.1 hx
         rw [hxA];exact ⟨hup8 _ _ hB811,i4,i5⟩
       ·rw [hxA];exact ⟨hup8 _ _ hB811,i4,i5⟩
      have HFIN:=qI hfin;clear hfin hw14 hxA;go_wp2_with fail;go_ret;exact HFIN.out
    ·
     have hr:Hid (r=none):=by unfold Hid;rw [hrw.out,if_neg (fun h=>hsum h.1)]
     go_upto_region 9 with (fail)
     refine wp_region_held_drew (S:=fun W=>W.cell? ⟨gx,0,none⟩=some (.string ⟨id.toArray⟩)) (by kernel_rfl) (k5) (fun hHeld=> ?_);refine tk 0 (.int .i64 0) rfl (fun _ _ _ h=>h) (Or.inl ⟨by rfl,fun w9 hS=> ?_⟩) hHeld ?_
     ·have s0:=hS
      go_simp
     try simp only [Act.put,sA,sB,sC,sD,sF]
     refine tk 1 (.bool false) rfl (fun _ _ _ h=>h) (Or.inl ⟨by rfl,fun w9 hS=> ?_⟩) hHeld ?_
     ·have s0:=hS
      go_simp
     try simp only [Act.put,sA,sB,sC,sD,sE,sF]
     refine tk 2 (.bool false) rfl (fun _ _ _ h=>h) (Or.inl ⟨by rfl,fun w9 hS=> ?_⟩) hHeld ?_
     ·have s0:=hS
      go_simp
     try simp only [Act.put,sA,sB,sC,sD,sE,sF]
     refine tk 3 (.bool false) rfl (fun _ _ _ h=>h) (Or.inl ⟨by rfl,fun w9 hS=> ?_⟩) hHeld ?_
     ·have s0:=hS
      go_simp
     try simp only [Act.put,sA,sB,sC,sD,sE,sF]
     refine tk 4 (.bool false) rfl (fun _ _ _ h=>h) (Or.inl ⟨by rfl,fun w9 hS=> ?_⟩) hHeld ?_
     ·have s0:=hS
      go_simp
     try simp only [Act.put,sA,sB,sC,sD,sE,sF]
     refine tk 5 (.bool false) rfl (fun _ _ _ h=>h) (Or.inl ⟨by rfl,fun w9 hS=> ?_⟩) hHeld ?_
     ·have s0:=hS
      go_simp
     try simp only [Act.put,sA,sB,sC,sD,sE,sF]
     refine tk 6 (.slice A4 raw1.length c4) rfl (fun _ _ _ h=>h) (Or.inl ⟨by rfl,fun w9 hS=> ?_⟩) hHeld ?_
     ·have s0:=hS
      go_simp
     try simp only [Act.put,sA,sB,sC,sD,sE,sF]
     refine tk 8 (.pointer (some ⟨gx,0,none⟩)) rfl (fun _ _ _ h=>h) (Or.inl ⟨by rfl,fun w9 hS=> ?_⟩) hHeld ?_
     ·have s0:=hS
      go_simp
     try simp only [Act.put,sA,sB,sC,sD,sE,sF]
     refine tk 9 (.string ⟨id.toArray⟩) rfl (fun _ _ _ h=>h) (Or.inl ⟨by rfl,fun w9 hS=> ?_⟩) hHeld ?_
     ·have s0:=hS
      go_simp
     try simp only [Act.put,sA,sB,sC,sD,sE,sF]
     refine wpAnyH_ready (rs:=[7]) (by kernel_rfl) (by simp) (AllReadyH.cons (o:=_) rfl (fun K hK=> ?_) AllReadyH.nil);go_simp;refine (hSum.out).mono ?_;rintro e w6 ⟨sm,hsm,rfl,hb6⟩;have hb6:Below v5.heap.size v5 w6:=⟨hb6.os,hb6.tape,hb6.output,hb6.size,hb6.block⟩;have k6:=(hb6.cell (p:=⟨gx,0,none⟩) hX5.lt).trans k5;have hsm2:Hid (sm=ZC raw):=by unfold Hid;rw [hsm.out,hraw1.out]
     clear hsm;refine hK.out _ _ k6 (fun hHeld=> ?_);clear hK K
     try simp only [Act.put,sA,sB,sC,sD,sE,sF]
     have hne: ¬sm=id:=by rw [hsm2.out];exact hsum
     refine tk 10 (.bool true) rfl (fun _ _ _ h=>h) (Or.inl ⟨by rfl,fun w9 hS=> ?_⟩) hHeld ?_
     ·have s0:=hS
      go_simp
     try simp only [Act.put,sA,sB,sC,sD,sE,sF]
     refine tk 11 (.bool true) rfl (fun _ _ _ h=>h) (Or.inl ⟨by rfl,fun w9 hS=> ?_⟩) hHeld ?_
     ·have s0:=hS
      go_simp
     try simp only [Act.put,sA,sB,sC,sD,sE,sF]
     refine tk 12 (.bool true) rfl (fun _ _ _ h=>h) (Or.inl ⟨by rfl,fun w9 hS=> ?_⟩) hHeld ?_
     ·have s0:=hS
      go_simp
     try simp only [Act.put,sA,sB,sC,sD,sE,sF]
     refine tk 13 (undef) rfl (fun _ _ _ h=>h) (Or.inr ⟨by rfl,rfl⟩) hHeld ?_
     try simp only [Act.put,sA,sB,sC,sD,sE,sF]
     refine tk 14 (undef) rfl (fun _ _ _ h=>h) (Or.inr ⟨by rfl,rfl⟩) hHeld ?_
     try simp only [Act.put,sA,sB,sC,sD,sE,sF]
     refine tk 15 (undef) rfl (fun _ _ _ h=>h) (Or.inr ⟨by rfl,rfl⟩) hHeld ?_
     try simp only [Act.put,sA,sB,sC,sD,sE,sF]
     refine tk 16 (.bool true) rfl (fun _ _ _ h=>h) (Or.inl ⟨by rfl,fun w9 hS=> ?_⟩) hHeld ?_
     ·have s0:=hS
      go_simp
     try simp only [Act.put,sA,sB,sC,sD,sE,sF]
     refine wpAnyH_done (by kernel_rfl) ?_ _;go_wp2_with fail;go_ret;rw [hr.out];exact ⟨rfl,(hb05.next hb6).mono hbase⟩
   ·
    have hlk: ∀n,(Instr.lookup 140 (.map (some m)) (.string ⟨id.toArray⟩) true).run Tryz.prog (w4.drewN n)= .ok (.tuple #[.slice x0.A x0.p.raw.length x0.c,.bool true]) (w4.drewN n):=fun n=>hlk0 (w4.drewN n) rfl;clear hlk0;go_wp2_with fail;go_quiet (fail);go_wp2_with fail;go_quiet (fail);go_wp2_with fail;go_ret;have hin:id∈l.map fun x=>x.p.id:=by
     have h1:=List.find?_some hlx;have h2:x0.p.id=id:=by simpa using of_decide_eq_true h1
     exact List.mem_map.2 ⟨x0,hx0,h2⟩
    rw [hrw.out];split
    ·exact ⟨((hb04.drewN' _).drewN' _).mono hbase,by rw [if_pos hin];rfl⟩
    ·exact ⟨rfl,((hb04.drewN' _).drewN' _).mono hbase⟩
end
end Go.Proofs.YtecpbcmpncgokaaGreat
