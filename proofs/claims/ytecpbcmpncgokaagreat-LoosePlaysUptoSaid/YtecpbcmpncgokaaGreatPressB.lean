/- The walks of the layer 'press', its eighth part: four bytes at a place; how many are alike. Conditions: lengths below 2^20. -/
import Derived.Test.YtecpbcmpncgokaaGreatPressA
import Derived.Test.YtecpbcmpncgokaaGreatWordsA
import Derived.Laws.Cover3
import Derived.Deep.RegionHeld3
import Derived.Deep.LoopGhost
import Derived.Deep.DrawnRows
import Derived.Deep.DeepCutAuto
import Derived.Deep.RegionLaw
import Derived.Deep.Onto
import Derived.Test.YtecpbcmpncgokaaGreatShort
set_option maxRecDepth 100000
set_option maxHeartbeats 4000000
set_option linter.unusedVariables false
namespace Go.Proofs.YtecpbcmpncgokaaGreat
open Go.RowKit Go.Dol
attribute [local irreducible] wpStill
theorem Z66 {b:LU} {i:Nat} (h:i+4≤b.length):(b.drop i).take 4=[b[i],b[i+1],b[i+2],b[i+3]]:=by
 rw [List.drop_eq_getElem_cons (by omega),List.drop_eq_getElem_cons (by omega),List.drop_eq_getElem_cons (by omega),List.drop_eq_getElem_cons (by omega)]
 rfl
theorem Zeg (A:OA) (b:LU) (c i:Nat) (w:World) (hr:Rd w w.heap.size 1 A b.length (bc b)) (hb:b.length≤140737488355328) (hc:b.length≤c) (hi:i+4≤b.length):
  Calls Tryz.prog 240 #[.slice A b.length c,.int .i64 i] w fun e w'=>e= .returned (.agg (bc ((b.drop i).take 4)).toArray)∧Below w.heap.size w w':=by
 obtain ⟨bb,off,rfl,hbb,hcell⟩:=hr.at_ (by omega);rw [Z66 hi];have q0:=hcell i _ (Z09 b i (by omega));have q1:=hcell (i+1) _ (Z09 b (i+1) (by omega));have q2:=hcell (i+2) _ (Z09 b (i+2) (by omega));have q3:=hcell (i+3) _ (Z09 b (i+3) (by omega));obtain ⟨x0,hx0⟩: ∃x,x=b[i]:=⟨_,rfl⟩;obtain ⟨x1,hx1⟩: ∃x,x=b[i+1]:=⟨_,rfl⟩;obtain ⟨x2,hx2⟩: ∃x,x=b[i+2]:=⟨_,rfl⟩;obtain ⟨x3,hx3⟩: ∃x,x=b[i+3]:=⟨_,rfl⟩;rw [←hx0] at q0 ⊢;rw [←hx1] at q1 ⊢;rw [←hx2] at q2 ⊢;rw [←hx3] at q3 ⊢;simp only [bc,List.map_cons,List.map_nil];have r1:(i:Int)+4≤(c:Int):=by omega
 have f1:IntKind.i64.wrap ((i:Int)+4)=(i:Int)+4:=qJ _ (by omega);have hcn: ¬c=i:=by omega
 have p1:i+4-i=4:=by omega
 have harr: ∀w:World,(Instr.arrayAt 293 (.slice (some ⟨bb,off+i,none⟩) 4 (c-i))).run Tryz.prog w= .ok (.pointer (some ⟨bb,off+i,none⟩)) w:=fun w=>run_arrayAt w _ _ 4 _ 4 _ Tryz.underlying293 (lR _);have q1':w.cell? ⟨bb,off+i+1,none⟩=some (.int .u8 x1.toNat):=q1;have q2':w.cell? ⟨bb,off+i+2,none⟩=some (.int .u8 x2.toNat):=q2;have q3':w.cell? ⟨bb,off+i+3,none⟩=some (.int .u8 x3.toNat):=q3;clear hx0 hx1 hx2 hx3 hcell;go_in;go_wp2_with fail;exact bodyPost_ret (v:=.agg #[.int .u8 x0.toNat,.int .u8 x1.toNat,.int .u8 x2.toNat,.int .u8 x3.toNat]) (by simp [results,Tryz.results240,go_sem]) rfl ⟨rfl,(bR _ _).alloc (lR _) _⟩
theorem Zb0 (fb:Nat) (vm vk:Value) (A:OA) (b:LU) (c k i:Nat) (w:World) (B:Nat) (hf:Blk w fb 233 [.slice A b.length c,vm,vk]) (hr:Rd w B 1 A b.length (bc b)) (hb:b.length≤140737488355328) (hk:k<i) (hi:i≤b.length):
  Calls Tryz.prog 241 #[.pointer (some ⟨fb,0,none⟩),.int .i64 k,.int .i64 i] w fun e w'=>e= .returned (.int .i64 (ZV b k i:Nat))∧ ∃n,w'=w.drewN n:=by
 go_in;go_wp2_with fail;go_loopw [7] (fun n wr=>ZaV b k i w n wr) (fun n _=>259-(intOf n).toNat)
 case atStart=>exact ⟨0,0,rfl,by omega,by omega,fun j hj=>by omega,rfl⟩
 case round=>
  obtain ⟨m,q,rfl,hm,him,hs,hwr⟩:=hrel;have hrw:Rd wr B 1 A b.length (bc b):=by rw [hwr.out];exact hr.drewN q
  have hfw:Blk wr fb 233 [.slice A b.length c,vm,vk]:=by rw [hwr.out];exact hf.drewN q
  have c0:wr.cell? ⟨fb,0,none⟩=some (.slice A b.length c):=by rw [hfw.cell];rfl
  have hm0:(0:Int)≤(m:Int):=by omega
  have f1:IntKind.i64.wrap ((i:Int)+(m:Int))=(i:Int)+(m:Int):=qJ _ (by omega);have f2:IntKind.i64.wrap ((k:Int)+(m:Int))=(k:Int)+(m:Int):=qJ _ (by omega)
  by_cases h1:m<259
  ·have d1:decide ((m:Int)<259)=true:=by simp;omega
   have d1':(m:Int)<259:=by omega
   by_cases h2:i+m<b.length
   ·have d2:decide ((i:Int)+(m:Int)<(b.length:Int))=true:=by simp;omega
    have d2':(i:Int)+(m:Int)<(b.length:Int):=by omega
    obtain ⟨bb,off,rfl,hbb,hcell⟩:=hrw.at_ (by omega);have c1:=hcell (k+m) _ (Z09 b (k+m) (by omega));have c2:=hcell (i+m) _ (Z09 b (i+m) h2);have g1:b[k+m]?=some b[k+m]:=gE (by omega);have g2:b[i+m]?=some b[i+m]:=gE h2;obtain ⟨x,hx⟩: ∃x,x=(b[k+m]).toNat:=⟨_,rfl⟩;obtain ⟨y,hy⟩: ∃y,y=(b[i+m]).toNat:=⟨_,rfl⟩;rw [←hx] at c1;rw [←hy] at c2;have p1:((i:Int)+(m:Int)).toNat=i+m:=by omega
    have p2:((k:Int)+(m:Int)).toNat=k+m:=by omega
    have r1:(0:Int)≤(k:Int)+(m:Int):=by omega
    have r2:(k:Int)+(m:Int)<(b.length:Int):=by omega
    have r3:(0:Int)≤(i:Int)+(m:Int):=by omega
    have hxy:Hid (b[k+m]?=b[i+m]?↔x=y):=by
     unfold Hid;rw [g1,g2,hx,hy];constructor
     ·intro h;injection h with h;rw [h]
     ·intro h;rw [UInt8.toNat_inj.1 h]
    clear hx hy g1 g2 hcell
    by_cases h3:x=y
    ·have hq:=hxy.out.2 h3
     have HQ:=qI hq;clear hq hxy;subst h3;go_wp2_with fail;go_quiet (fail);go_wp2_with fail;refine ⟨⟨m+1,q+nq,by go_num,by omega,by omega,?_,?_⟩,by simp [intOf];omega⟩
     ·intro j hj
      by_cases hjm:j=m
      ·rw [hjm];exact HQ.out
      ·exact hs.out j (by omega)
     ·unfold Hid;rw [hwr.out,World.drewN_drewN]
    ·have hq: ¬(b[k+m]?=b[i+m]?):=fun h=>h3 (hxy.out.1 h)
     have HQ:=qI hq;have d3:((x:Int)==(y:Int))=false:=by simp;omega
     have ha:=Z1G (b:=b) (k:=k) (i:=i) (n:=m) (by omega) (by omega) (by omega) hs.out (.inr (.inr HQ.out));have HA:=qI ha;clear hq hxy ha;go_wp2_with fail;go_quiet (fail);go_wp2_with fail;go_ret;exact ⟨by rw [HA.out];rfl,q+nq,by rw [hwr.out,World.drewN_drewN]⟩
   ·have d2:decide ((i:Int)+(m:Int)<(b.length:Int))=false:=by simp;omega
    have d2': ¬((i:Int)+(m:Int)<(b.length:Int)):=by omega
    have ha:=Z1G (b:=b) (k:=k) (i:=i) (n:=m) (by omega) (by omega) (by omega) hs.out (.inr (.inl (by omega)));have HA:=qI ha;clear ha;go_wp2_with fail;go_quiet (fail);go_wp2_with fail;go_ret;exact ⟨by rw [HA.out];rfl,q+nq,by rw [hwr.out,World.drewN_drewN]⟩
  ·have hm9:m=259:=by omega
   have d1:decide ((m:Int)<259)=false:=by simp;omega
   have d1': ¬((m:Int)<259):=by omega
   have ha:=Z1G (b:=b) (k:=k) (i:=i) (n:=m) (by omega) (by omega) (by omega) hs.out (.inl hm9);have HA:=qI ha;have HM:=qI hm9;clear ha hm9;go_wp2_with fail;go_quiet (fail);go_wp2_with fail;go_ret;exact ⟨by rw [HA.out];rfl,q+nq,by rw [hwr.out,World.drewN_drewN]⟩
end Go.Proofs.YtecpbcmpncgokaaGreat
namespace Go.Dol
open Go.RowKit
def ZE (b:LU) (n:Nat) (K:LU):List Nat:=(List.range n).filter fun j=>(b.drop j).take 4=K
theorem Zc0 (b:LU) (n:Nat) (K:LU):ZE b (n+1) K=ZE b n K++(if (b.drop n).take 4=K then [n] else []):=by
 unfold ZE;rw [List.range_succ,List.filter_append]
 by_cases h:(b.drop n).take 4=K<;>simp [h]
theorem Z5D (b:LU) (n:Nat) (K:LU):(ZE b n K).length≤n:=by
 have:=List.length_filter_le (fun j=>decide ((b.drop j).take 4=K)) (List.range n);rw [List.length_range] at this;exact this
def ic (zs:List Nat):List Value:=zs.map fun n=> .int .i64 (n:Nat)
def kv (K:LU):Value:=.agg (bc K).toArray
theorem Zeh {K L:LU} (h:kv K=kv L):K=L:=by
 have h1:bc K=bc L:=by
  have h2:(bc K).toArray=(bc L).toArray:=by injection h
  simpa using h2
 refine (List.map_inj_right (fun a b hab=> ?_)).1 h1;injection hab with _ hab
 exact UInt8.toNat_inj.1 (by omega)
def Z40 (f:LU→List Nat) (K:LU) (x:Nat) (L:LU):List Nat:=if L=K then f L++[x] else f L
theorem Zc1 (f:LU→List Nat) (K:LU) (x:Nat):Z40 f K x K=f K++[x]:=by unfold Z40;rw [if_pos rfl]
theorem Z41 (f:LU→List Nat) {K L:LU} (x:Nat) (h:L≠K):Z40 f K x L=f L:=by unfold Z40;rw [if_neg h]
def Grp (w:World) (base:Nat) (T:TypeId) (f:LU→List Nat) (al:List (Value×Value)):Prop:=
 (∀p∈al,∃K:LU,K.length=4∧p.1=kv K∧w.ownsRow base T 1 p.2 (f K).length (ic (f K)))∧
 (∀K:LU,K.length=4→(∀p∈al,p.1≠kv K)→f K=[])∧
 al.Pairwise (fun p q=>p.2.ownBlock=none∨p.2.ownBlock≠q.2.ownBlock)
section
variable {w w':World} {base:Nat} {T:TypeId} {f:LU→List Nat} {al:List (Value×Value)}
theorem Grp.keep (h:Grp w base T f al) (hk: ∀p∈al,∀(n:Nat) xs,w.ownsRow base T 1 p.2 n xs→w'.ownsRow base T 1 p.2 n xs):Grp w' base T f al:=
 ⟨fun p hp=>by obtain ⟨K,h1,h2,h3⟩:=h.1 p hp;exact ⟨K,h1,h2,hk p hp _ _ h3⟩,h.2⟩
theorem Grp.belowW (h:Grp w base T f al) (hb:Below w.heap.size w w'):Grp w' base T f al:=h.keep fun p _ n xs ho=>Zh ho hb
theorem Grp.drewN (h:Grp w base T f al) (n:Nat):Grp (w.drewN n) base T f al:=h.keep fun _ _ _ _ ho=>ho
theorem Grp.alloc (h:Grp w base T f al) (o:Obj):Grp (w.alloc o) base T f al:=h.keep fun _ _ _ _ ho=>ho.alloc o
theorem Grp.at {K:LU} {v0:Value} (h:Grp w base T f al) (hK:K.length=4) (hv:((∀p∈al,p.1≠kv K)∧v0= .slice none 0 0)∨(kv K,v0)∈al):w.ownsRow base T 1 v0 (f K).length (ic (f K)):=by
 rcases hv with ⟨h1,rfl⟩ | hv
 ·rw [h.2.1 K hK h1]
  exact ⟨by simp [ic],.inl ⟨rfl,rfl⟩⟩
 ·obtain ⟨L,h1,h2,h3⟩:=h.1 _ hv
  have e:K=L:=Zeh h2;rw [e];exact h3
theorem Grp.put {K:LU} {v0 v':Value} {x:Nat} {al':List (Value×Value)} (h:Grp w base T f al) (hnd:(al.map Prod.fst).Nodup) (hK:K.length=4) (hv:((∀p∈al,p.1≠kv K)∧v0= .slice none 0 0)∨(kv K,v0)∈al)
  (hg:w.grownBy w' v0.ownBlock) (ho:w'.ownsRow base T 1 v' ((f K).length+1) (ic (f K++[x]))) (hl:v'.ownBlock=v0.ownBlock∨ ∃g,v'.ownBlock=some g∧w.heap.size≤g) (hp:MPut al (kv K) v' al'):
  Grp w' base T (Z40 f K x) al':=by
 have hne: ∀p∈al,p.1≠kv K→p.2.ownBlock=none∨p.2.ownBlock≠v0.ownBlock:=by
  intro p hp hpk;rcases hv with ⟨_,rfl⟩ | hv
  ·cases hh:p.2.ownBlock with
   | none=>exact .inl rfl
   | some g=>exact .inr (by simp [Value.ownBlock])
  ·obtain ⟨l,r,rfl⟩:=List.append_of_mem hv
   have hpw:=List.pairwise_append.1 h.2.2;rcases List.mem_append.1 hp with hp | hp
   ·exact hpw.2.2 p hp (kv K,v0) (by simp)
   ·rcases List.mem_cons.1 hp with rfl | hp
    ·exact absurd rfl hpk
    ·have:=(List.pairwise_cons.1 hpw.2.1).1 p hp
     rcases this with h1 | h1
     ·cases hh:p.2.ownBlock with
      | none=>exact .inl rfl
      | some g=>exact .inr (by rw [show v0.ownBlock=none from h1];simp)
     ·exact .inr fun e=>h1 e.symm
 have hne': ∀p∈al,p.1≠kv K→p.2.ownBlock=none∨p.2.ownBlock≠v'.ownBlock:=by
  intro p hp hpk;rcases hl with hl | ⟨g,hl,hgl⟩
  ·rw [hl];exact hne p hp hpk
  ·cases hh:p.2.ownBlock with
   | none=>exact .inl rfl
   | some k=>
    obtain ⟨L,_,_,h3⟩:=h.1 p hp;have:=(h3.lt k hh).2;rw [hl];exact .inr (by intro e;injection e;omega)
 have hold: ∀p∈al,p.1≠kv K→ ∃L:LU,L.length=4∧p.1=kv L∧w'.ownsRow base T 1 p.2 (Z40 f K x L).length (ic (Z40 f K x L)):=by
  intro p hp hpk;obtain ⟨L,h1,h2,h3⟩:=h.1 p hp;have hLK:L≠K:=fun e=>hpk (by rw [h2,e]);refine ⟨L,h1,h2,?_⟩;rw [Z41 f x hLK];exact h3.kept hg (hne p hp hpk)
 have hnew: ∃L:LU,L.length=4∧kv K=kv L∧w'.ownsRow base T 1 v' (Z40 f K x L).length (ic (Z40 f K x L)):=by
  refine ⟨K,hK,rfl,?_⟩;rw [Zc1,List.length_append,List.length_singleton];exact ho
 rcases hp with ⟨habs,rfl⟩ | ⟨l,r,u0,rfl,rfl⟩
 ·refine ⟨fun p hp=> ?_,fun L hL hno=> ?_,?_⟩
  ·rcases List.mem_append.1 hp with hp | hp
   ·exact hold p hp (habs p hp)
   ·have e:p=(kv K,v'):=by simpa using hp
    rw [e];exact hnew
  ·have hLK:L≠K:=fun e=>hno (kv K,v') (by simp) (by rw [e])
   rw [Z41 f x hLK];exact h.2.1 L hL fun p hp=>hno p (by simp [hp])
  ·refine List.pairwise_append.2 ⟨h.2.2,by simp,fun p hp q hq=> ?_⟩
   have e:q=(kv K,v'):=by simpa using hq
   rw [e];exact hne' p hp (habs p hp)
 ·rw [List.map_append,List.map_cons] at hnd
  have hnd2:=List.nodup_append.1 hnd;have hnd3:=List.nodup_cons.1 hnd2.2.1;have hl1: ∀p∈l,p.1≠kv K:=fun p hp e=>hnd2.2.2 _ (List.mem_map.2 ⟨p,hp,e⟩) _ (by simp) rfl;have hr1: ∀p∈r,p.1≠kv K:=fun p hp e=>hnd3.1 (List.mem_map.2 ⟨p,hp,e⟩);have hpw:=List.pairwise_append.1 h.2.2;refine ⟨fun p hp=> ?_,fun L hL hno=> ?_,?_⟩
  ·rcases List.mem_append.1 hp with hp | hp
   ·exact hold p (by simp [hp]) (hl1 p hp)
   ·rcases List.mem_cons.1 hp with rfl | hp
    ·exact hnew
    ·exact hold p (by simp [hp]) (hr1 p hp)
  ·have hLK:L≠K:=fun e=>hno (kv K,v') (by simp) (by rw [e])
   rw [Z41 f x hLK];refine h.2.1 L hL fun p hp=> ?_;rcases List.mem_append.1 hp with hp | hp
   ·exact hno p (by simp [hp])
   ·rcases List.mem_cons.1 hp with rfl | hp
    ·exact fun e=>hLK (Zeh e).symm
    ·exact hno p (by simp [hp])
  ·refine List.pairwise_append.2 ⟨hpw.1,List.pairwise_cons.2 ⟨fun q hq=> ?_,(List.pairwise_cons.1 hpw.2.1).2⟩,fun p hp q hq=> ?_⟩
   ·rcases hne' q (by simp [hq]) (hr1 q hq) with h1 | h1
    ·cases hv':v'.ownBlock with
     | none=>exact .inl rfl
     | some g=>exact .inr (by rw [h1];simp)
    ·exact .inr fun e=>h1 e.symm
   ·rcases List.mem_cons.1 hq with rfl | hq
    ·exact hne' p (by simp [hp]) (hl1 p hp)
    ·exact hpw.2.2 p hp q (by simp [hq])
end
end Go.Dol
namespace Go.Proofs.YtecpbcmpncgokaaGreat
open Go.RowKit Go.Dol
theorem Z5E:Go.Maps.Keyed Tryz.prog 293:=
 Go.Maps.Keyed.of_law (deep_law_laid (m:=2) (by kernel_rfl) (by decide) (of_decide_eq_true (by kernel_rfl)) (by kernel_rfl) (by rw [Tryz.underlying293]))
theorem Zb1 (K:LU) (hK:K.length=4): ∃kl,keyOf Tryz.prog 293 (kv K)=some kl:=
 Zbt (n:=4) Tryz.underlying293 (by kernel_rfl) (by kernel_rfl) Tryz.underlying5 (by kernel_rfl) ⟨Tryz.prog.types.size-1,by kernel_rfl⟩ K hK
theorem Z4v (w:World):(zeroValue 41).run Tryz.prog w= .ok (.slice none 0 0) w:=by kernel_rfl
theorem Zei:(Tryz.prog.info? 3).map (fun i=>(i.zero,i.size,i.bytes))=some (some (.int .i64 0),1,8):=by kernel_rfl
structure Bk (T:TypeId) (base:Nat) (w w':World):Prop where
 below:Below base w w'
 keep: ∀(g:Nat) (cs:Array Value) (fz:Nat×Nat),w.heap[g]?=some (Obj.cells cs T fz)→w'.heap[g]?=some (Obj.cells cs T fz)
section
variable {T:TypeId} {base:Nat} {a w w':World}
theorem Bk.refl (T:TypeId) (base:Nat) (w:World):Bk T base w w:=⟨bR _ _,fun _ _ _ h=>h⟩
theorem Bk.size (h:Bk T base w w'):w.heap.size≤w'.heap.size:=h.below.size
theorem Z7B {w:World} {g:Nat} {o:Obj} (h:w.heap[g]?=some o):g<w.heap.size:=(Array.getElem?_eq_some_iff.1 h).1
theorem Bk.transB (h:Bk T base a w) (hb:Below w.heap.size w w') (hs:base≤w.heap.size):Bk T base a w':=
 ⟨h.below.trans (hb.mono hs),fun g cs fz hg=>(hb.block g (Z7B (h.keep g cs fz hg))).trans (h.keep g cs fz hg)⟩
theorem Bk.drew (h:Bk T base a w):Bk T base a w.drew:=⟨h.below.drew,h.keep⟩
theorem Bk.drewN' (h:Bk T base a w) (n:Nat):Bk T base a (w.drewN n):=⟨h.below.drewN' n,h.keep⟩
theorem Bk.alloc (h:Bk T base a w) (hs:base≤w.heap.size) (o:Obj):Bk T base a (w.alloc o):=h.transB ((bR w.heap.size w).alloc (lR _) o) hs
theorem Bk.grown {row:Option Nat} (h:Bk T base a w) (hg:w.grownBy w' row) (hB:base≤w.heap.size) (hr: ∀k,row=some k→base≤k) (hn: ∀k,row=some k→ ∀(cs:Array Value) (fz:Nat×Nat),w.heap[k]?≠some (Obj.cells cs T fz)):Bk T base a w':=
 ⟨h.below.grown hg hB hr,fun g cs fz hh=>by
  have h1:=h.keep g cs fz hh
  exact (hg.block g (Z7B h1) (fun e=>hn g e.symm cs fz h1)).trans h1⟩
theorem Bk.setCell (h:Bk T base a w) {p:Addr} (hp:base≤p.block) (hn: ∀(cs:Array Value) (fz:Nat×Nat),w.heap[p.block]?≠some (Obj.cells cs T fz)) (u:Value):Bk T base a (w.setCell p u):=
 ⟨h.below.setCell hp u,fun g cs fz hh=>by
  have h1:=h.keep g cs fz hh
  exact (Below.heap_setCell w p u g (fun e=>hn cs fz (e▸h1))).trans h1⟩
theorem Bk.own {n:Nat} {v:Value} {xs:List Value} {b0 size:Nat} (h:Bk T base w w') (ho:w.ownsRow b0 T size v n xs):w'.ownsRow b0 T size v n xs:=
 ⟨ho.1,ho.2.imp id fun ⟨g,cap,cur,h1,h2,h3,h4⟩=>⟨g,cap,cur,h1,h2,h.keep g cur _ h3,h4⟩⟩
theorem Zb2 {w:World} {B:Nat} (h:MapAt w B): ∀k,some B=some k→ ∀(cs:Array Value) (fz:Nat×Nat),w.heap[k]?≠some (Obj.cells cs T fz):=by
 rintro k hk cs fz hh;obtain ⟨es,cl,h⟩:=h;injection hk with hk
 rw [←hk,h] at hh;cases hh
theorem Zej {w:World} {g:Nat} {T':TypeId} {cs':List Value} (h:Blk w g T' cs') (hT:T'≠T): ∀(cs:Array Value) (fz:Nat×Nat),w.heap[g]?≠some (Obj.cells cs T fz):=by
 intro cs fz hh;unfold Blk at h;rw [h] at hh;injection hh with hh
 injection hh with _ hh
 exact hT hh
theorem Zek {w:World} {b0:Nat} {T':TypeId} {size n:Nat} {v:Value} {xs:List Value} (h:w.ownsRow b0 T' size v n xs) (hT:T'≠T): ∀k,v.ownBlock=some k→ ∀(cs:Array Value) (fz:Nat×Nat),w.heap[k]?≠some (Obj.cells cs T fz):=by
 intro k hk cs fz hh;rcases h.2 with ⟨rfl,_⟩ | ⟨k',cap,cur,rfl,_,h3,_⟩
 ·cases hk
 ·have hk':k'=k:=by simpa [Value.ownBlock] using hk
  rw [hk',hh] at h3;injection h3 with h3
  injection h3 with _ h3
  exact hT h3.symm
end
def Fin (w:World) (base fb:Nat) (A:OA) (b:LU) (c n:Nat):Prop:=
 ∃(B:Nat) (al:List (Value×Value)),Blk w fb 233 [.slice A b.length c,.map (some B),.int .i64 (n:Nat)]∧MapL Tryz.prog 293 w B al∧Grp w base 3 (ZE b n) al∧base≤fb∧base≤B
theorem Fin.belowW {w w':World} {base fb:Nat} {A:OA} {b:LU} {c n:Nat} (h:Fin w base fb A b c n) (hb:Below w.heap.size w w'):Fin w' base fb A b c n:=by
 obtain ⟨B,al,h1,h2,h3,h4⟩:=h;exact ⟨B,al,h1.below hb h1.lt,h2.belowW hb,h3.belowW hb,h4⟩
theorem ZgK {P:Program} {w:World} {ops:Array Oper} {o:Oper} {a:Act} {K:Act→World→Prop} {Q:Exit→Act→World→Prop} {E:Prop} (hgd:o.guard=none) (s x:Operand) (t e:TypeId) (z:Value) (bytes:Nat)
  (ho:o.op= .call { callee:=.builtin .append,args:=#[s,x],argTypes:=#[t,t] })
  (ht:P.underlying t=some (.slice e)) (hi:(P.info? e).map (fun i=>(i.zero,i.size,i.bytes))=some (some z,1,bytes)) (hzs:z.cells.size=1)
  (base:Nat) (v:Value) (n:Nat) (xs:List Value) (hs:a.eval s=v) (hown:w.ownsRow base e 1 v n xs)
  (B:Nat) (A:OA) (m c:Nat) (news:List Value) (hx:a.eval x= .slice A m c) (hr:Rd w B 1 A m news) (h1: ∀u∈news,u.oneCell'=true)
  (hmax:n+m≤maxLen) (hlen:(n+m)*bytes≤140737488355328) (hbase:base≤w.heap.size)
  (h: ∀(A':OA) (c':Nat) (w':World),w'.ownsRow base e 1 (.slice A' (n+m) c') (n+m) (xs++news)→w.grownBy w' v.ownBlock→Hid ((Value.slice A' (n+m) c').ownBlock=v.ownBlock∨(Value.slice A' (n+m) c').ownBlock=some w.heap.size)→
   K (a.put o.dst (.slice A' (n+m) c')) w'):if Region.wanted o (yielded ops a.tmps)=true then Oper.wp P o a w K Q else E:=by
 have hw:Region.wanted o (yielded ops a.tmps)=true:=by simp [Region.wanted,hgd]
 rw [if_pos hw];refine Z0U w s x _ ho base _ _ 1 bytes ht hi hzs (by decide) v n xs hs hown B A m c news hx hr h1 hmax hlen hbase ?_;intro A' c' w' h1 h2 h3 h4 h5;exact h _ c' w' h1 h2 h3
theorem Rd.cellOne {w:World} {g:Nat} {u:Value} (hc:w.cell? ⟨g,0,none⟩=some u):Rd w (g+1) 1 (some ⟨g,0,none⟩) 1 [u]:=by
 refine ⟨by simp,fun _=>⟨g,0,rfl,by omega,fun j u' hu=> ?_⟩⟩;have hj:j<1:=by have:=(List.getElem?_eq_some_iff.1 hu).1;simpa using this
 obtain rfl:j=0:=by omega
 have:u'=u:=by simpa using hu.symm
 rw [this];exact hc
theorem Zd9 (b:LU) (n:Nat) (K:LU) (h:(b.drop n).take 4=K):ZE b (n+1)=Z40 (ZE b n) K n:=by
 funext L
 rw [Zc0,h];unfold Z40
 by_cases e:L=K
 ·rw [if_pos e.symm,if_pos e]
 ·rw [if_neg (fun h=>e h.symm),if_neg e,List.append_nil]
theorem cutA {wq w5:World} {x0 x1 x2 x3:UInt8} (hb5:Below (World.drew wq).heap.size (World.drew wq) w5):
  wq.heap.size≤w5.heap.size∧Blk (w5.alloc (.cells #[.int .u8 x0.toNat,.int .u8 x1.toNat,.int .u8 x2.toNat,.int .u8 x3.toNat] 293)) w5.heap.size 293 [.int .u8 x0.toNat,.int .u8 x1.toNat,.int .u8 x2.toNat,.int .u8 x3.toNat]∧
  Below wq.heap.size wq (w5.alloc (.cells #[.int .u8 x0.toNat,.int .u8 x1.toNat,.int .u8 x2.toNat,.int .u8 x3.toNat] 293)):=
 ⟨hb5.size,Blk.new w5 _ [_,_,_,_],((bR wq.heap.size wq).drew.trans hb5).alloc hb5.size _⟩
theorem cutB {wq w5:World} {x0 x1 x2 x3:UInt8} (hb5:Below (World.drew (wq.alloc (.cells #[.int .u8 0,.int .u8 0,.int .u8 0,.int .u8 0] 293))).heap.size (World.drew (wq.alloc (.cells #[.int .u8 0,.int .u8 0,.int .u8 0,.int .u8 0] 293))) w5):
  wq.heap.size≤wq.heap.size∧Blk ((((w5.setCell ⟨wq.heap.size,0,none⟩ (.int .u8 x0.toNat)).setCell ⟨wq.heap.size,1,none⟩ (.int .u8 x1.toNat)).setCell ⟨wq.heap.size,2,none⟩ (.int .u8 x2.toNat)).setCell ⟨wq.heap.size,3,none⟩ (.int .u8 x3.toNat)) wq.heap.size 293 [.int .u8 x0.toNat,.int .u8 x1.toNat,.int .u8 x2.toNat,.int .u8 x3.toNat]∧
  Below wq.heap.size wq ((((w5.setCell ⟨wq.heap.size,0,none⟩ (.int .u8 x0.toNat)).setCell ⟨wq.heap.size,1,none⟩ (.int .u8 x1.toNat)).setCell ⟨wq.heap.size,2,none⟩ (.int .u8 x2.toNat)).setCell ⟨wq.heap.size,3,none⟩ (.int .u8 x3.toNat)):=by
 have h0:Blk (World.drew (wq.alloc (.cells #[.int .u8 0,.int .u8 0,.int .u8 0,.int .u8 0] 293))) wq.heap.size 293 [.int .u8 0,.int .u8 0,.int .u8 0,.int .u8 0]:=(Blk.new wq 293 [_,_,_,_]).drew;have h1:=h0.below hb5 h0.lt;have hb:Below wq.heap.size wq w5:=(((bR wq.heap.size wq).alloc (lR _) _).drew).trans (hb5.mono (by show wq.heap.size≤(wq.alloc _).heap.size;simp));exact ⟨lR _,(((h1.set 0 _).set 1 _).set 2 _).set 3 _,(((hb.setCell (lR _) _).setCell (lR _) _).setCell (lR _) _).setCell (lR _) _⟩
theorem Zda {w wa w2 w3:World} {base fb B c n:Nat} {A A':OA} {b K:LU} {al al':List (Value×Value)} {v0:Value} {c':Nat} (hK:(b.drop n).take 4=K) (hK4:K.length=4)
  (hblk:Blk wa fb 233 [.slice A b.length c,.map (some B),.int .i64 (n:Nat)]) (hgrp:Grp wa base 3 (ZE b n) al) (hnd:(al.map Prod.fst).Nodup) (hat:MapAt wa B)
  (hor:((∀p∈al,p.1≠kv K)∧v0= .slice none 0 0)∨(kv K,v0)∈al) (hg2:wa.grownBy w2 v0.ownBlock) (ho2:w2.ownsRow base 3 1 (.slice A' ((ZE b n K).length+1) c') ((ZE b n K).length+1) (ic (ZE b n K)++[.int .i64 (n:Nat)]))
  (hl:Hid ((Value.slice A' ((ZE b n K).length+1) c').ownBlock=v0.ownBlock∨(Value.slice A' ((ZE b n K).length+1) c').ownBlock=some wa.heap.size)) (hmap3:MapL Tryz.prog 293 w3 B al') (hput:MPut al (kv K) (.slice A' ((ZE b n K).length+1) c') al')
  (hg3:w2.grownBy w3 (some B)) (hbel:Bk 5 base w wa) (hbf:base≤fb) (hbB:base≤B) (hbs:base≤wa.heap.size):
  ∃al',Blk w3 fb 233 [.slice A b.length c,.map (some B),.int .i64 (n:Nat)]∧MapL Tryz.prog 293 w3 B al'∧Grp w3 base 3 (ZE b (n+1)) al'∧Bk 5 base w w3:=by
 have hown:=hgrp.at hK4 hor;have hneB:v0.ownBlock≠some B:=hat.own_ne hown;have hat2:MapAt w2 B:=hat.keepB (hg2.block B hat.lt (fun e=>hneB e.symm));have hne:fb≠B:=by
  rintro rfl;obtain ⟨es,cl,hh⟩:=hat;unfold Blk at hblk;rw [hblk] at hh;cases hh
 refine ⟨al',(hblk.grown hg2 (fun e=>own_ne hown hblk (by decide) e.symm)).grown hg3 (fun e=>hne (by injection e)),hmap3,?_,?_⟩
 ·rw [Zd9 b n K hK]
  have hic:ic (ZE b n K++[n])=ic (ZE b n K)++[.int .i64 (n:Nat)]:=by simp [ic]
  exact (hgrp.put hnd hK4 hor hg2 (by rw [hic];exact ho2) (hl.out.imp id fun h=>⟨_,h,lR _⟩) hput).keep fun p _ m xs ho=>hat2.kept ho hg3
 ·have hb2:Bk 5 base w w2:=hbel.grown hg2 hbs (fun k hk=>(hown.lt k hk).1) (Zek hown (by decide))
  exact hb2.grown hg3 (lT hbs hg2.size) (fun k hk=>by injection hk with hk;omega) (Zb2 hat2)
theorem Zdb {w w3:World} {base fb B c n:Nat} {A:OA} {b:LU} {al:List (Value×Value)} (hb:Blk w3 fb 233 [.slice A b.length c,.map (some B),.int .i64 (n:Nat)]) (hm:MapL Tryz.prog 293 w3 B al) (hg:Grp w3 base 3 (ZE b (n+1)) al) (hbel:Bk 5 base w w3)
  (hbf:base≤fb) (hbB:base≤B):Fin (w3.setCell ⟨fb,2,none⟩ (.int .i64 ((n:Int)+1))) base fb A b c (n+1)∧Bk 5 base w (w3.setCell ⟨fb,2,none⟩ (.int .i64 ((n:Int)+1))):=by
 have hG:w3.grownBy (w3.setCell ⟨fb,2,none⟩ (.int .i64 ((n:Int)+1))) (some fb):=Z0 (gR _ _) _ _;have h1:=hb.set 2 (.int .i64 ((n:Int)+1));exact ⟨⟨B,al,h1,hm.far (p:=⟨fb,2,none⟩) (fun e=>hm.blk_ne hb e.symm) _,hg.keep fun p _ k xs ho=>Zc ho hb (by decide) hG,hbf,hbB⟩,hbel.setCell (p:=⟨fb,2,none⟩) hbf (Zej hb (by decide)) _⟩
theorem Zel (A:OA) (b:LU) (c i:Nat) (w:World) (x0 x1 x2 x3:UInt8) (hK:Hid ((b.drop i).take 4=[x0,x1,x2,x3])) (hr:Rd w w.heap.size 1 A b.length (bc b)) (hb:b.length≤140737488355328) (hc:b.length≤c) (hi:i+4≤b.length):
  Calls Tryz.prog 240 #[.slice A b.length c,.int .i64 i] w fun e w'=>e= .returned (.agg #[.int .u8 x0.toNat,.int .u8 x1.toNat,.int .u8 x2.toNat,.int .u8 x3.toNat])∧Below w.heap.size w w':=by
 refine (Zeg A b c i w hr hb hc hi).mono ?_;rintro e w' ⟨rfl,h⟩;rw [hK.out];exact ⟨rfl,h⟩
theorem Zc2 (base fb:Nat) (A:OA) (b:LU) (c n i:Nat) (w:World) (hf:Fin w base fb A b c n) (hr:Rd w base 1 A b.length (bc b)) (hb:b.length≤16777216) (hc:b.length≤c) (hni:n≤i) (hi:i+4≤b.length):
  Calls Tryz.prog 239 #[.pointer (some ⟨fb,0,none⟩),.int .i64 i] w fun e w'=>e= .returned (.tuple #[])∧Fin w' base fb A b c i∧Bk 5 base w w':=by
 have hz0:base≤w.heap.size:=by obtain ⟨B,al,h1,_,_,h4,_⟩:=hf;have:=h1.lt;omega
 go_in;go_wp2_with fail;go_loopg [] (i-n) (fun k wr=> ∃n',k=i-n'∧n'≤i∧Fin wr base fb A b c n'∧Bk 5 base w wr)
 case atStart=>exact ⟨n,rfl,hni,hf,Bk.refl _ _ _⟩
 case round=>
  clear hf hni;obtain ⟨n',rfl,hni,hf,hbel⟩:=hrel;obtain ⟨B,al,hblk,hmap,hgrp,hbf,hbB⟩:=hf;have hs:=hbel.size;have c0:wr.cell? ⟨fb,0,none⟩=some (.slice A b.length c):=by rw [hblk.cell];rfl
  have c2:wr.cell? ⟨fb,2,none⟩=some (.int .i64 (n':Nat)):=by rw [hblk.cell];rfl
  have f1:IntKind.i64.wrap ((n':Int)+4)=(n':Int)+4:=qJ _ (by omega)
  by_cases hlt:n'<i
  ·have d1:decide ((n':Int)<(i:Int))=true:=by simp;omega
   have d1':(n':Int)<(i:Int):=by omega
   have d2:decide ((n':Int)+4≤(b.length:Int))=true:=by simp;omega
   have d2':(n':Int)+4≤(b.length:Int):=by omega
   go_wp2_with fail;go_quiet (fail);go_wp2_with fail;obtain ⟨wq,hwq⟩: ∃wq,wq=wr.drewN nq:=⟨_,rfl⟩;have hblkq:Blk wq fb 233 [.slice A b.length c,.map (some B),.int .i64 (n':Nat)]:=by rw [hwq];exact hblk.drewN nq
   have hmapq:MapL Tryz.prog 293 wq B al:=by rw [hwq];exact hmap.drewN nq
   have hgrpq:Grp wq base 3 (ZE b n') al:=by rw [hwq];exact hgrp.drewN nq
   have hbelq:Bk 5 base w wq:=by rw [hwq];exact hbel.drewN' nq
   rw [←hwq];clear hwq hblk hmap hgrp hbel c0 c2 hs;have hsq:=hbelq.size;have hlb:=hblkq.lt;have c0:wq.cell? ⟨fb,0,none⟩=some (.slice A b.length c):=by rw [hblkq.cell];rfl
   have c2:wq.cell? ⟨fb,2,none⟩=some (.int .i64 (n':Nat)):=by rw [hblkq.cell];rfl
   have hrq:Rd wq wq.heap.size 1 A b.length (bc b):=(hr.below hbelq.below).more (by omega);have hK4:=Z66 (b:=b) (i:=n') (by omega);obtain ⟨x0,hx0⟩: ∃x,x=b[n']:=⟨_,rfl⟩;obtain ⟨x1,hx1⟩: ∃x,x=b[n'+1]:=⟨_,rfl⟩;obtain ⟨x2,hx2⟩: ∃x,x=b[n'+2]:=⟨_,rfl⟩;obtain ⟨x3,hx3⟩: ∃x,x=b[n'+3]:=⟨_,rfl⟩;rw [←hx0,←hx1,←hx2,←hx3] at hK4;have HK4:=qI hK4;clear hx0 hx1 hx2 hx3 hK4;have hnew0:=World.new_ne wq _ c0;have hnew2:=World.new_ne wq _ c2;go_cut [4] (fun v wx=> ∃lb:Nat,v= .pointer (some ⟨lb,0,none⟩)∧wq.heap.size≤lb∧Blk wx lb 293 [.int .u8 x0.toNat,.int .u8 x1.toNat,.int .u8 x2.toNat,.int .u8 x3.toNat]∧Below wq.heap.size wq wx)
   case first=>
    go_region_with
     ((go_at_call 240;refine (Zel A b c n' _ x0 x1 x2 x3 HK4 ?_ (by omega) hc (by omega)).mono ?_;(first | exact hrq.drew | exact ((hrq.alloc (lR _) _).more (by simp)).drew);rintro e w5 ⟨rfl,hb5⟩;have hz5:=hb5.size;have hl5:wq.heap.size≤w5.heap.size:=(by simp at hz5;omega);have hn5:fb≠w5.heap.size:=(by omega);have hn6: ¬w5.heap.size=fb:=(by omega);have hn7:fb≠wq.heap.size:=(by omega);have hn8: ¬wq.heap.size=fb:=(by omega);obtain ⟨hbc5,hbf5⟩:=Go.Dol.bcell hb5))
    all_goals
     go_wp2_with fail;go_meet
     first
      | (have hA:=(by with_reducible exact cutA (wq:=wq) (w5:=w5) (x0:=x0) (x1:=x1) (x2:=x2) (x3:=x3) hb5);exact ⟨w5.heap.size,rfl,hA⟩)
      | (have hA:=cutB (wq:=wq) (w5:=w5) (x0:=x0) (x1:=x1) (x2:=x2) (x3:=x3) hb5;exact ⟨wq.heap.size,rfl,hA⟩)
   case rest=>
    obtain ⟨lb,rfl,hlb1,hlblk,hcb⟩:=hcut;have hblkc:=hblkq.below hcb hlb;have hmapc:=hmapq.belowW hcb;have hgrpc:=hgrpq.belowW hcb;have hbelc:Bk 5 base w wc:=hbelq.transB hcb (by omega);have hsc:=hbelc.size;clear hblkq hmapq hgrpq hbelq c0 c2 hrq hnew0 hnew2 hcb;go_wp2_with fail;have c1:wc.cell? ⟨fb,1,none⟩=some (.map (some B)):=by rw [hblkc.cell];rfl
    have c2:wc.cell? ⟨fb,2,none⟩=some (.int .i64 (n':Nat)):=by rw [hblkc.cell];rfl
    have l0:wc.cell? ⟨lb,0,none⟩=some (.int .u8 x0.toNat):=by rw [hlblk.cell];rfl
    have l1:wc.cell? ⟨lb,1,none⟩=some (.int .u8 x1.toNat):=by rw [hlblk.cell];rfl
    have l2:wc.cell? ⟨lb,2,none⟩=some (.int .u8 x2.toNat):=by rw [hlblk.cell];rfl
    have l3:wc.cell? ⟨lb,3,none⟩=some (.int .u8 x3.toNat):=by rw [hlblk.cell];rfl
    have hnew1:=World.new_ne wc _ c1;have hnewl:=World.new_ne wc _ l0;have hltB:=hmapc.lt;have hltf:=hblkc.lt;have hneB:some fb≠some B:=fun e=>hmapc.blk_ne hblkc (by injection e);have hneL:some lb≠some B:=fun e=>hmapc.blk_ne hlblk (by injection e);have hneS:some wc.heap.size≠some B:=fun e=>by injection e;omega
    have hkey:Hid (∃kl,keyOf Tryz.prog 293 (.agg #[.int .u8 x0.toNat,.int .u8 x1.toNat,.int .u8 x2.toNat,.int .u8 x3.toNat])=some kl):=Zb1 [x0,x1,x2,x3] rfl;have hlenK:=Z5D b n' [x0,x1,x2,x3];have hWm:=(hmapc.alloc (.cells #[.int .i64 (n':Nat)] 3)).drew;have hWb:=(hblkc.alloc (.cells #[.int .i64 (n':Nat)] 3)).drew;have hWg:Grp (World.drew (wc.alloc (.cells #[.int .i64 (n':Nat)] 3))) base 3 (ZE b n') al:=(hgrpc.alloc (.cells #[.int .i64 (n':Nat)] 3)).drewN 1;have hWbel:Bk 5 base w (World.drew (wc.alloc (.cells #[.int .i64 (n':Nat)] 3))):=(hbelc.alloc (by omega) _).drew;have hWs:(World.drew (wc.alloc (.cells #[.int .i64 (n':Nat)] 3))).heap.size=wc.heap.size+1:=by show (wc.alloc _).heap.size=_;simp
    have hWc:(World.drew (wc.alloc (.cells #[.int .i64 (n':Nat)] 3))).cell? ⟨wc.heap.size,0,none⟩=some (.int .i64 (n':Nat)):=by rw [(Blk.new wc 3 [.int .i64 (n':Nat)]).drew.cell];rfl
    obtain ⟨kl,hkl⟩:=hkey.out;obtain ⟨v0,st,w1,hent,hg1,hat1,hor1,hst1⟩:=hWm.entry Z5E Tryz.underlying231 Z4v hkl;have hent':(Instr.mapEntry 231 (.map (some B)) (.agg #[.int .u8 x0.toNat,.int .u8 x1.toNat,.int .u8 x2.toNat,.int .u8 x3.toNat])).run Tryz.prog (World.drew (wc.alloc (.cells #[.int .i64 (n':Nat)] 3)))= .ok (.tuple #[v0,.int .i64 (st:Nat)]) w1:=hent;have hB1:=hWb.grown hg1 hneB;have hgr1:Grp w1 base 3 (ZE b n') al:=hWg.keep (fun p _ n xs ho=>hWm.is.kept ho hg1);have hbel1:Bk 5 base w w1:=hWbel.grown hg1 (by omega) (fun k hk=>by injection hk with hk;omega) (Zb2 hWm.is);have hc1:w1.cell? ⟨wc.heap.size,0,none⟩=some (.int .i64 (n':Nat)):=(World.cell?_of_block (hg1.block wc.heap.size (by omega) hneS)).trans hWc;have hs1:=hg1.size;have hown1:=hgr1.at (K:=[x0,x1,x2,x3]) rfl hor1;have hnd:=hWm.nodup;have HS:=qI hst1;have HWS:=qI hWs;have hs1b:base≤w1.heap.size:=by omega
    have hLa:=hlblk.alloc (.cells #[.int .i64 (n':Nat)] 3);have hFa:=hblkc.alloc (.cells #[.int .i64 (n':Nat)] 3);have la0:(wc.alloc (.cells #[.int .i64 (n':Nat)] 3)).cell? ⟨lb,0,none⟩=some (.int .u8 x0.toNat):=by rw [hLa.cell];rfl
    have la1:(wc.alloc (.cells #[.int .i64 (n':Nat)] 3)).cell? ⟨lb,1,none⟩=some (.int .u8 x1.toNat):=by rw [hLa.cell];rfl
    have la2:(wc.alloc (.cells #[.int .i64 (n':Nat)] 3)).cell? ⟨lb,2,none⟩=some (.int .u8 x2.toNat):=by rw [hLa.cell];rfl
    have la3:(wc.alloc (.cells #[.int .i64 (n':Nat)] 3)).cell? ⟨lb,3,none⟩=some (.int .u8 x3.toNat):=by rw [hLa.cell];rfl
    have fa1:(wc.alloc (.cells #[.int .i64 (n':Nat)] 3)).cell? ⟨fb,1,none⟩=some (.map (some B)):=by rw [hFa.cell];rfl
    clear hst1 hent hWs hWb hWg hWm hWbel hWc hLa hFa
    go_region_law ((refine ZgK (by rfl) (.tmp 45) (.tmp 50) 41 3 _ 8 (by rfl) Tryz.underlying41 Zei rfl base v0 (ZE b n' [x0,x1,x2,x3]).length (ic (ZE b n' [x0,x1,x2,x3])) (by rfl) (w:=w1) hown1 (wc.heap.size+1) _ 1 1 [.int .i64 (n':Nat)] (by rfl) (Rd.cellOne hc1) (by simp [Value.oneCell']) (by unfold maxLen;omega) (by omega) hs1b ?_;intro A' c' w2 ho2 hg2 hl2;obtain ⟨al',w3,hrun3,hmap3,hput3,hg3⟩:=HS.out w2 (.slice A' ((ZE b n' [x0,x1,x2,x3]).length+1) c') (hg2.block B hat1.lt (fun e=>hat1.own_ne hown1 e.symm));have hrun3':(Instr.entryStore 231 (.map (some B)) (.int .i64 (st:Nat)) (.slice A' ((ZE b n' [x0,x1,x2,x3]).length+1) c')).run Tryz.prog w2= .ok () w3:=hrun3))
    all_goals
     obtain ⟨al2,hb3,hm3,hgr3,hbel3⟩:=Zda HK4.out rfl hB1 hgr1 hnd hat1 hor1 hg2 ho2 hl2 hmap3 hput3 hg3 hbel1 hbf hbB hs1b;have hnx:=Zdb hb3 hm3 hgr3 hbel3 hbf hbB;have c23:w3.cell? ⟨fb,2,none⟩=some (.int .i64 (n':Nat)):=by rw [hb3.cell];rfl
     have fr23:=hb3.free 2;have HNX:=qI hnx;clear hnx hb3 hm3 hgr3 hbel3 hB1 hgr1 hnd hat1 hor1 hg2 ho2 hl2 hmap3 hput3 hg3 hbel1 la0 la1 la2 la3 fa1 c1 c2 l0 l1 l2 l3 hent' hrun3 hrun3' hc1 hown1;go_wp2_with fail;go_roundg (i-(n'+1))
     case measure=>omega
     case rel=>exact ⟨n'+1,rfl,by omega,HNX.out.1,HNX.out.2⟩
  ·have d1:decide ((n':Int)<(i:Int))=false:=by simp;omega
   have d1':(i:Int)≤(n':Int):=by omega
   have hin:n'=i:=by omega
   have HI:=qI hin;clear hin;go_wp2_with fail;go_quiet (fail);go_wp2_with fail;go_end0;refine ⟨rfl,?_,hbel.drewN' nq⟩;rw [←HI.out];exact ⟨B,al,hblk.drewN nq,hmap.drewN nq,hgrp.drewN nq,hbf,hbB⟩
end Go.Proofs.YtecpbcmpncgokaaGreat
namespace Go.Dol
theorem Z4w {b:LU} {n p:Nat} {K:LU}:p∈ZE b n K↔p<n∧(b.drop p).take 4=K:=by
 unfold ZE;rw [List.mem_filter,List.mem_range];simp
theorem Z5F (b:LU) (n:Nat) (K:LU):(ZE b n K).Pairwise (· < ·):=List.Pairwise.filter _ List.pairwise_lt_range
def LgInv (b:LU) (i:Nat) (zs:List Nat) (m d:Nat):Prop:=
 m≤zs.length∧d≤i∧d≤4096∧(∀j p,j<m→zs[j]?=some p→p+d<i)∧(∀e,d<e→e≤i→(b.drop (i-e)).take 4=(b.drop i).take 4→ ∃j,j<m∧zs[j]?=some (i-e))
theorem LgInv.start (b:LU) (i:Nat):LgInv b i (ZE b i ((b.drop i).take 4)) (ZE b i ((b.drop i).take 4)).length 0:=by
 refine ⟨lR _,zL _,zL _,fun j p hj hp=> ?_,fun e he hei hK=> ?_⟩
 ·have:=(Z4w.1 (List.mem_of_getElem? hp)).1
  omega
 ·obtain ⟨j,hj,hjp⟩:=List.getElem_of_mem (Z4w.2 ⟨show i-e<i by omega,hK⟩)
  exact ⟨j,hj,by rw [gE hj,hjp]⟩
theorem LgInv.none_between {b:LU} {i m d d':Nat} {zs:List Nat} (h:LgInv b i zs m d) (hi:i+4≤b.length) (hd:d≤d') (hd':d'≤i) (hz: ∀e,d<e→e≤d'→ ¬ ∃j,j<m∧zs[j]?=some (i-e)):lngD b i d'=lngD b i d:=by
 have e1:d'=d+(d'-d):=by omega
 rw [e1];refine Z7v _ fun e he hle=> ?_;rcases Nat.lt_or_ge (ZV b (i-e) i) 4 with h4 | h4
 ·exact h4
 ·exact absurd (h.2.2.2.2 e he (by omega) ((ZaS (by omega) hi).2 h4)) (hz e he (by omega))
theorem LgInv.end0 {b:LU} {i d:Nat} {zs:List Nat} (h:LgInv b i zs 0 d) (hi:i+4≤b.length):lngD b i d=lng b i:=by
 unfold lng;exact (h.none_between hi (Nat.le_min.2 ⟨h.2.2.1,h.2.1⟩) (by omega) fun e _ _ ⟨j,hj,_⟩=>by omega).symm
theorem LgInv.endF {b:LU} {i m d:Nat} {zs:List Nat} (h:LgInv b i zs m d) (hf:(lngD b i d).1=259):lngD b i d=lng b i:=by
 unfold lng;have e1:min 4096 i=d+(min 4096 i-d):=by have:=h.2.1;have:=h.2.2.1;omega
 rw [e1,Zd4 hf]
theorem LgInv.endW {b:LU} {i m d p:Nat} {K:LU} (h:LgInv b i (ZE b i K) (m+1) d) (hi:i+4≤b.length) (hp:(ZE b i K)[m]?=some p) (hw:4096<i-p):lngD b i d=lng b i:=by
 unfold lng;refine (h.none_between hi (Nat.le_min.2 ⟨h.2.2.1,h.2.1⟩) (by omega) fun e he hle ⟨j,hj,hjp⟩=> ?_).symm;have hpw:=Z5F b i K;have hjl:=(List.getElem?_eq_some_iff.1 hjp);have hml:=(List.getElem?_eq_some_iff.1 hp);rcases Nat.lt_or_ge j m with hjm | hjm
 ·have:=List.pairwise_iff_getElem.1 hpw j m hjl.1 hml.1 hjm
  rw [hjl.2,hml.2] at this;omega
 ·have:j=m:=by omega
  subst this;rw [hp] at hjp;injection hjp;omega
theorem LgInv.step {b:LU} {i m d p:Nat} (h:LgInv b i (ZE b i ((b.drop i).take 4)) (m+1) d) (hi:i+4≤b.length) (hp:(ZE b i ((b.drop i).take 4))[m]?=some p) (hw:i-p≤4096):
  LgInv b i (ZE b i ((b.drop i).take 4)) m (i-p)∧p<i∧lngD b i (i-p)=if (lngD b i d).1<ZV b p i then (ZV b p i,i-p) else lngD b i d:=by
 have hpw:=Z5F b i ((b.drop i).take 4);have hml:=(List.getElem?_eq_some_iff.1 hp);have hpm:=Z4w.1 (List.mem_of_getElem? hp);have hpd:=h.2.2.2.1 m p (by omega) hp;have hlt: ∀j q,j<m→(ZE b i ((b.drop i).take 4))[j]?=some q→q<p:=fun j q hj hq=>by
  have hjl:=(List.getElem?_eq_some_iff.1 hq);have:=List.pairwise_iff_getElem.1 hpw j m hjl.1 hml.1 hj;rw [hjl.2,hml.2] at this;exact this
 refine ⟨⟨by have:=h.1;omega,by omega,hw,fun j q hj hq=> ?_,fun e he hei hK=> ?_⟩,hpm.1,?_⟩
 ·have:=hlt j q hj hq
  omega
 ·obtain ⟨j,hj,hjp⟩:=h.2.2.2.2 e (by omega) hei hK
  refine ⟨j,?_,hjp⟩;rcases Nat.lt_or_ge j m with hjm | hjm
  ·exact hjm
  ·have:j=m:=by omega
   subst this;rw [hp] at hjp;injection hjp;omega
 ·have h4:4≤ZV b (i-((i-p-1)+1)) i:=by
   rw [show i-((i-p-1)+1)=p by omega];exact (ZaS (by omega) hi).1 hpm.2
  have hb:=h.none_between (d':=i-p-1) hi (by omega) (by omega) fun e he hle ⟨j,hj,hjp⟩=>by
   rcases Nat.lt_or_ge j m with hjm | hjm
   ·have:=hlt j _ hjm hjp
    omega
   ·have:j=m:=by omega
    subst this;rw [hp] at hjp;injection hjp;omega
  have ht:=Zd3 h4;rw [show i-((i-p-1)+1)=p by omega,show (i-p-1)+1=i-p by omega,hb] at ht;exact ht
theorem Zb3 (b:LU) (i d:Nat):(lngD b i d).1≤259∧(lngD b i d).2≤d:=by
 unfold lngD;have:=Z2s b i d;split
 ·exact ⟨this.2.1,this.1⟩
 ·exact ⟨by simp,by simp⟩
end Go.Dol
namespace Go.Proofs.YtecpbcmpncgokaaGreat
open Go.RowKit Go.Dol
attribute [local irreducible] wpStill
theorem Zem {al:List (Value×Value)} {k u v:Value} (h:(al.map Prod.fst).Nodup) (h1:(k,u)∈al) (h2:(k,v)∈al):u=v:=by
 induction al with
 | nil=>cases h1
 | cons p ps ih=>
  rw [List.map_cons,List.nodup_cons] at h;rcases List.mem_cons.1 h1 with e1 | h1<;>rcases List.mem_cons.1 h2 with e2 | h2
  ·rw [←e1] at e2;injection e2 with _ e2;exact e2.symm
  ·exact absurd (List.mem_map.2 ⟨_,h2,by rw [←e1]⟩) h.1
  ·exact absurd (List.mem_map.2 ⟨_,h1,by rw [←e2]⟩) h.1
  ·exact ih h.2 h1 h2
theorem Zen {w:World} {B:Nat} {al:List (Value×Value)} (h:MapL Tryz.prog 293 w B al) {K:LU} (hK:K.length=4):
  ∃v,(((∀p∈al,p.1≠kv K)∧v= .slice none 0 0)∨(kv K,v)∈al)∧ ∀q,(Instr.lookup 231 (.map (some B)) (kv K) false).run Tryz.prog (w.drewN q)= .ok v (w.drewN q):=by
 obtain ⟨kl,hkl⟩:=Zb1 K hK;rcases h.look Z5E Tryz.underlying231 (Z4v w) hkl false with ⟨h1,h2⟩ | ⟨v,h1,h2⟩
 ·refine ⟨.slice none 0 0,.inl ⟨h1,rfl⟩,fun q=> ?_⟩
  rcases (h.drewN q).look Z5E Tryz.underlying231 (Z4v _) hkl false with ⟨_,h3⟩ | ⟨v,h3,_⟩
  ·exact h3
  ·exact absurd rfl (h1 _ h3)
 ·refine ⟨v,.inr h1,fun q=> ?_⟩
  rcases (h.drewN q).look Z5E Tryz.underlying231 (Z4v _) hkl false with ⟨h3,_⟩ | ⟨u,h3,h4⟩
  ·exact absurd rfl (h3 _ h1)
  ·rw [Zem h.nodup h1 h3];exact h4
def ZgL (b:LU) (i:Nat) (w:World) (best back j:Value) (wr:World):Prop:=
 ∃m d q x y:Nat,best= .int .i64 (x:Nat)∧back= .int .i64 (y:Nat)∧j= .int .i64 ((m:Int)-1)∧Hid (lngD b i d=(x,y))∧LgInv b i (ZE b i ((b.drop i).take 4)) m d∧Hid (wr=w.drewN q)
theorem Z8m (base fb:Nat) (A:OA) (b:LU) (c n i:Nat) (w:World) (hf:Fin w base fb A b c n) (hr:Rd w base 1 A b.length (bc b)) (hb:b.length≤16777216) (hc:b.length≤c) (hni:n≤i) (hi:i≤b.length):
  Calls Tryz.prog 168 #[.pointer (some ⟨fb,0,none⟩),.int .i64 i] w fun e w'=>e= .returned (.tuple #[.int .i64 ((lng b i).1:Nat),.int .i64 ((lng b i).2:Nat)])∧(∃n',n'≤i∧Fin w' base fb A b c n')∧Bk 5 base w w':=by
 have hf0:=hf;have f1:IntKind.i64.wrap ((i:Int)+4)=(i:Int)+4:=qJ _ (by omega);have hz0:base≤w.heap.size:=by obtain ⟨B,al,h1,_,_,h4,_⟩:=hf;have:=h1.lt;omega
 have c0:w.cell? ⟨fb,0,none⟩=some (.slice A b.length c):=by obtain ⟨B,al,h1,_⟩:=hf;rw [h1.cell];rfl
 have HF:=qI hf;clear hf hf0
 by_cases h4:i+4≤b.length
 ·have d1:decide ((b.length:Int)<(i:Int)+4)=false:=by simp;omega
  have d1': ¬((b.length:Int)<(i:Int)+4):=by omega
  go_in;go_wp2_with fail;refine (Zc2 base fb A b c n i w HF.out hr hb hc hni h4).mono ?_;rintro e w1 ⟨rfl,hf1,hb1⟩;have HF1:=qI hf1;obtain ⟨B,al,hblk,hmap,hgrp,hbf,hbB⟩:=hf1;clear HF c0;have hs1:=hb1.size;have hr1:Rd w1 base 1 A b.length (bc b):=hr.below hb1.below;have hrq:Rd w1 w1.heap.size 1 A b.length (bc b):=hr1.more (by omega);have c0:w1.cell? ⟨fb,0,none⟩=some (.slice A b.length c):=by rw [hblk.cell];rfl
  have c1:w1.cell? ⟨fb,1,none⟩=some (.map (some B)):=by rw [hblk.cell];rfl
  have hlb:=hblk.lt;have hK4:=Z66 (b:=b) (i:=i) (by omega);obtain ⟨x0,hx0⟩: ∃x,x=b[i]:=⟨_,rfl⟩;obtain ⟨x1,hx1⟩: ∃x,x=b[i+1]:=⟨_,rfl⟩;obtain ⟨x2,hx2⟩: ∃x,x=b[i+2]:=⟨_,rfl⟩;obtain ⟨x3,hx3⟩: ∃x,x=b[i+3]:=⟨_,rfl⟩;rw [←hx0,←hx1,←hx2,←hx3] at hK4;have HK4:=qI hK4;clear hx0 hx1 hx2 hx3 hK4;go_wp2_with fail;go_cut [8] (fun v wx=>(((∀p∈al,p.1≠kv [x0,x1,x2,x3])∧v= .slice none 0 0)∨(kv [x0,x1,x2,x3],v)∈al)∧Below w1.heap.size w1 wx)
  case first=>
   go_region_with
    ((go_at_call 240;refine (Zel A b c i _ x0 x1 x2 x3 HK4 hrq.drew (by omega) hc (by omega)).mono ?_;rintro e w5 ⟨rfl,hb5⟩;have hb5':Below w1.heap.size w1 w5:=((bR w1.heap.size w1).drew.trans hb5);have c1b:w5.cell? ⟨fb,1,none⟩=some (.map (some B)):=(by rw [(hblk.below hb5' hlb).cell];rfl);have c1c:w5.drew.cell? ⟨fb,1,none⟩=some (.map (some B)):=(c1b);clear hb5;obtain ⟨v,hv,hlook⟩:=Zen (hmap.belowW hb5') (K:=[x0,x1,x2,x3]) rfl;have hlk0:(Instr.lookup 231 (.map (some B)) (.agg #[.int .u8 x0.toNat,.int .u8 x1.toNat,.int .u8 x2.toNat,.int .u8 x3.toNat]) false).run Tryz.prog w5= .ok v w5:=(hlook 0);have hlk1:(Instr.lookup 231 (.map (some B)) (.agg #[.int .u8 x0.toNat,.int .u8 x1.toNat,.int .u8 x2.toNat,.int .u8 x3.toNat]) false).run Tryz.prog w5.drew= .ok v w5.drew:=(hlook 1);have HV:=qI hv;clear hv hlook))
   all_goals
    go_wp2_with fail;go_meet
    first
     | exact ⟨HV.out,hb5'⟩
     | exact ⟨HV.out,hb5'.drew⟩
  case rest=>
   have hcb:=hcut.2;have hor:=hcut.1;clear hcut c0 c1 hrq;have hblkc:=hblk.below hcb hlb;have hmapc:=hmap.belowW hcb;have hgrpc:=hgrp.belowW hcb;have hbc:Bk 5 base w wc:=hb1.transB hcb (by omega);have hown:=hgrpc.at (K:=[x0,x1,x2,x3]) rfl hor;obtain ⟨A2,c2,rfl,hN1,hN2⟩:=Z1s hown;have hrz:=Rd.of_own hown;have hinv:=LgInv.start b i;rw [HK4.out] at hinv;obtain ⟨N,hN⟩: ∃N,N=(ZE b i [x0,x1,x2,x3]).length:=⟨_,rfl⟩;have hNi:N≤i:=by rw [hN];exact Z5D b i _
   rw [←hN] at hrz hown hN1 hinv;have HNN:=qI hN;have HINV:=qI hinv;have HFc:Hid (Fin wc base fb A b c i):=⟨B,al,hblkc,hmapc,hgrpc,hbf,hbB⟩;have hrc:Rd wc base 1 A b.length (bc b):=hr1.below (hcb.mono (by omega));have fN:IntKind.i64.wrap ((N:Int)-1)=(N:Int)-1:=qJ _ (by omega);rw [←hN];clear hown hor hN hinv hblk hmap hgrp hb1 hr1 HF1 hs1 hlb hgrpc hmapc;go_wp2_with fail;go_loopw [6,7,9] (fun best back j wr=>ZgL b i wc best back j wr) (fun _ _ j _=>(intOf j+1).toNat)
   case atStart=>exact ⟨N,0,0,0,0,rfl,rfl,rfl,by rw [Zd1];rfl,by rw [HK4.out];exact HINV.out,rfl⟩
   case round=>
    obtain ⟨m,d,q,x,y,rfl,rfl,rfl,hxy,hlg,hwr⟩:=hrel;have hxb:=(Zb3 b i d).1;rw [hxy.out] at hxb;have HLG:=qI hlg;clear hlg HINV;have hFw:Hid (Fin wr base fb A b c i∧Bk 5 base w wr):=by
     unfold Hid;rw [hwr.out];obtain ⟨B,al,k1,k2,k3,k4⟩:=HFc.out;exact ⟨⟨B,al,k1.drewN q,k2.drewN q,k3.drewN q,k4⟩,hbc.drewN' q⟩
    rcases m with _ | m
    ·have hfin:Hid (lng b i=(x,y)):=by unfold Hid;rw [←HLG.out.end0 h4,hxy.out]
     go_wp2_with fail;go_ret2;rw [hfin.out];exact ⟨rfl,⟨i,lR _,hFw.out.1⟩,hFw.out.2⟩
    ·have hjm:((m+1:Nat):Int)-1=(m:Int):=by omega
     rw [hjm];have hml:m<(ZE b i ((b.drop i).take 4)).length:=HLG.out.1;obtain ⟨p,hp⟩: ∃p,(ZE b i ((b.drop i).take 4))[m]?=some p:=⟨_,gE hml⟩;have hpi:p<i:=(Z4w.1 (List.mem_of_getElem? hp)).1;have hmN:m<N:=by have:=HNN.out;rw [HK4.out] at hml;omega
     have hrzw:Rd wr wc.heap.size 1 A2 N (ic (ZE b i [x0,x1,x2,x3])):=by rw [hwr.out];exact hrz.drewN q
     have hpz:(ic (ZE b i [x0,x1,x2,x3]))[m]?=some (.int .i64 (p:Nat)):=by
      rw [HK4.out] at hp;unfold ic;rw [List.getElem?_map,hp]
      rfl
     obtain ⟨bb,off,rfl,hbb,hcell⟩:=hrzw.at_ (by omega);have c1:=hcell m _ hpz;have HP:=qI hp;have d0:(0:Int)≤(m:Int):=by omega
     have d0':(m:Int)<(N:Int):=by omega
     have fp:IntKind.i64.wrap ((i:Int)-(p:Int))=(i:Int)-(p:Int):=qJ _ (by omega);have fm:IntKind.i64.wrap ((m:Int)-1)=(m:Int)-1:=qJ _ (by omega);have hrw:Rd wr base 1 A b.length (bc b):=by rw [hwr.out];exact hrc.drewN q
     have hblkw:Blk wr fb 233 [.slice A b.length c,.map (some B),.int .i64 (i:Nat)]:=by rw [hwr.out];exact hblkc.drewN q
     clear hcell hpz hp hml hrzw hjm
     by_cases hw:i-p≤4096
     ·have dw:decide ((i:Int)-(p:Int)≤4096)=true:=by simp;omega
      have dw':(i:Int)-(p:Int)≤4096:=by omega
      by_cases hx:x<259
      ·have dx:decide ((x:Int)<259)=true:=by simp;omega
       have dx':(x:Int)<259:=by omega
       have hst:=HLG.out.step h4 HP.out hw;rw [hxy.out] at hst;obtain ⟨g,hg⟩: ∃g,g=ZV b p i:=⟨_,rfl⟩;rw [←hg] at hst;have HST:=qI hst;have HG:=qI hg;clear hst hg;go_wp2_with fail;refine (Zb0 fb (.map (some B)) (.int .i64 (i:Nat)) A b c p i wr base hblkw hrw (by omega) hpi hi).mono ?_;rintro e w2 ⟨rfl,q2,hw2⟩;have hw2':Hid (w2=wc.drewN (q+q2)):=by unfold Hid;rw [hw2,hwr.out,World.drewN_drewN]
       have c1':w2.cell? ⟨bb,off+m,none⟩=some (.int .i64 (p:Nat)):=by rw [hw2];exact c1
       rw [←HG.out];clear hw2 c1 hblkw hrw
       by_cases hxg:x<g
       ·have dg:decide ((x:Int)<(g:Int))=true:=by simp;omega
        have dg':(x:Int)<(g:Int):=by omega
        go_wp2_with fail;go_quiet (fail);go_wp2_with fail;refine ⟨⟨m,i-p,q+q2+nq,g,i-p,rfl,congrArg (Value.int IntKind.i64) (by omega),rfl,by unfold Hid;rw [HST.out.2.2,if_pos hxg],HST.out.1,?_⟩,by simp [intOf]⟩;unfold Hid;rw [hw2'.out,World.drewN_drewN]
       ·have dg:decide ((x:Int)<(g:Int))=false:=by simp;omega
        have dg': ¬(x:Int)<(g:Int):=by omega
        go_wp2_with fail;exact ⟨⟨m,i-p,q+q2,x,y,rfl,rfl,rfl,by unfold Hid;rw [HST.out.2.2,if_neg hxg],HST.out.1,hw2'⟩,by simp [intOf]⟩
      ·have dx:decide ((x:Int)<259)=false:=by simp;omega
       have dx': ¬(x:Int)<259:=by omega
       have hfin:Hid (lng b i=(x,y)):=by unfold Hid;rw [←HLG.out.endF (by rw [hxy.out];show x=259;omega),hxy.out]
       go_wp2_with fail;go_ret2;rw [hfin.out];exact ⟨rfl,⟨i,lR _,hFw.out.1⟩,hFw.out.2⟩
     ·have dw:decide ((i:Int)-(p:Int)≤4096)=false:=by simp;omega
      have dw': ¬(i:Int)-(p:Int)≤4096:=by omega
      have hfin:Hid (lng b i=(x,y)):=by unfold Hid;rw [←HLG.out.endW h4 HP.out (by omega),hxy.out]
      go_wp2_with fail;go_ret2;rw [hfin.out];exact ⟨rfl,⟨i,lR _,hFw.out.1⟩,hFw.out.2⟩
 ·have d1:decide ((b.length:Int)<(i:Int)+4)=true:=by simp;omega
  have d1':(b.length:Int)<(i:Int)+4:=by omega
  go_in;go_wp2_with fail;go_ret2;rw [Zfq (by omega)];exact ⟨rfl,⟨n,hni,HF.out⟩,Bk.refl _ _ _⟩
end Go.Proofs.YtecpbcmpncgokaaGreat
namespace Go.Proofs.YtecpbcmpncgokaaGreat
open Go.RowKit Go.Dol
def Zdc (b:LU) (w:World) (fb:Nat) (A:OA) (c:Nat) (out frm i:Value) (wr:World):Prop:=
 ∃(k f:Nat) (l:LU) (A1:OA) (c1 n:Nat),out= .slice A1 l.length c1∧frm= .int .i64 f∧i= .int .i64 k∧f≤k∧k≤b.length∧Hid (Zp b=l++Z0p b k f)∧
  wr.ownsRow w.heap.size 5 1 (.slice A1 l.length c1) l.length (bc l)∧Below w.heap.size w wr∧l.length≤c1∧c1≤maxLen∧n≤k∧Fin wr w.heap.size fb A b c n
theorem Zcy (A:OA) (out:LU) (c:Nat) (A2:OA) (l:LU) (n c2:Nat) (w:World) (base:Nat) (hn:n=l.length) (ho:w.ownsRow base 5 1 (.slice A out.length c) out.length (bc out)) (hbase:base≤w.heap.size) (hc:out.length≤c) (hc2:c≤maxLen) (hr2:Rd w w.heap.size 1 A2 n (bc l))
  (hl:out.length+9+n≤140737488355328):
  Calls Tryz.prog 169 #[.slice A out.length c,.slice A2 n c2] w fun e w'=> ∃(l':LU) (A':OA) (c':Nat),Hid (l'=out++runB l)∧e= .returned (.slice A' l'.length c')∧w'.ownsRow base 5 1 (.slice A' l'.length c') l'.length (bc l')∧Below w.heap.size w w'∧l'.length≤c'∧c'≤maxLen:=by
 have hr:=Rd.of_own ho
 by_cases h0:l=[]
 ·subst h0
  subst hn;go_in;go_wp2_with fail;go_ret;exact ⟨out,A,c,by simp [Hid,runB],rfl,ho,bR _ _,hc,hc2⟩
 ·have hp:0<l.length:=List.length_pos_iff.2 h0
  have HN:=qI hn;have hp2:0<n:=by omega
  have hz:((n:Int)==0)=false:=by simp;omega
  have f1:IntKind.i64.wrap ((n:Int)-1)=(n:Int)-1:=qJ _ (by omega);have hcl:Hid (Zk (2*((n:Int)-1))=2*(l.length-1)):=by unfold Hid Zk;omega
  clear hn hp;go_in;go_wp2_with fail;refine (Z02 A out c _ w hr (by omega)).mono ?_;rintro e w1 ⟨l1,A1,c1,e1,rfl,ho1,hb1,i1,i2⟩;have hl1:l1.length≤out.length+9:=by
   rw [e1.out,List.length_append];have:=Za 8 (Zk (2*((n:Int)-1))) (by have:=Z0v (2*((n:Int)-1));unfold Ze at this;omega);omega
  have hr2':=(hr2.belowW hb1 (lR _)).more hb1.size;go_wp2_with (at_builtin;refine app8 rfl (.tmp 14) (.tmp 15) rfl w.heap.size _ l1.length l1 rfl ho1 w1.heap.size A2 n c2 l rfl hr2' (by omega) hb1.size ?_);intro l2 A3 c3 w2 e2 ho2 hb2 _ _ i3 i4;go_wp2_with fail;go_ret;refine ⟨l2,A3,c3,?_,rfl,ho2.base hbase,hb1.trans hb2,i3,i4⟩;unfold Hid runB;rw [e2.out,e1.out,hcl.out,if_neg h0,List.append_assoc]
theorem Zdd (A:OA) (b:LU) (c:Nat) (w:World) (hr:Rd w w.heap.size 1 A b.length (bc b)) (hb:b.length≤16777216) (hc:b.length≤c):
  Calls Tryz.prog 100 #[.slice A b.length c] w (RetB 5 w (Zp b)):=by
 go_in;have hmm:=@run_makeMap Tryz.prog;go_wp2_with fail;clear hmm;have hm0:MapL Tryz.prog 293 (w.alloc (.map #[] 0)) w.heap.size []:=MapL.new w;have hz0:(w.alloc (.map #[] 0)).heap.size=w.heap.size+1:=by simp
 obtain ⟨v0,hv0⟩: ∃v,v=w.alloc (.map #[] 0):=⟨_,rfl⟩;have hbel0:Below w.heap.size w v0:=by rw [hv0];exact (bR _ w).alloc (lR _) _
 rw [←hv0] at hm0 hz0 ⊢;have hB0:=Blk.new v0 233 [.slice A b.length c,.map (some w.heap.size),.int .i64 0];have hm1:=hm0.alloc (.cells #[.slice A b.length c,.map (some w.heap.size),.int .i64 0] 233);have hbel1:=hbel0.alloc (B:=w.heap.size) (by omega) (.cells #[.slice A b.length c,.map (some w.heap.size),.int .i64 0] 233);obtain ⟨v1,hv1⟩: ∃v,v=v0.alloc (.cells #[.slice A b.length c,.map (some w.heap.size),.int .i64 0] 233):=⟨_,rfl⟩;obtain ⟨fb,hfb⟩: ∃fb,fb=w.heap.size+1:=⟨_,rfl⟩;rw [hz0] at hB0;have hF1:Fin v1 w.heap.size fb A b c 0:=⟨w.heap.size,[],by rw [hv1,hfb];exact hB0,by rw [hv1];exact hm1,⟨by simp,fun _ _ _=>by simp [ZE],.nil⟩,by omega,lR _⟩;rw [←hv1] at hbel1 ⊢;rw [←hfb];have HF1:=qI hF1;have hs1:=hbel1.size;clear hF1 hv0 hm0 hz0 hB0 hm1 hbel0 hfb hv1;refine (Z02 none [] 0 _ v1 Rd.nil (by decide)).mono ?_;rintro e w1 ⟨l1,A1,c1,e1,rfl,ho1,hb1,i1,i2⟩;have HF2:Hid (Fin w1 w.heap.size fb A b c 0):=HF1.out.belowW hb1;have hbel2:=hbel1.trans (hb1.mono hs1);have ho2:=ho1.mono hs1;clear HF1 hbel1 ho1 hb1;have hstart:Hid (Zp b=l1++Z0p b 0 0):=by
  unfold Hid Zp;rw [e1.out,List.nil_append,Z4u (by omega)]
 clear e1;go_wp2_with fail;go_loopw [4,5,6] (fun out f i wr=>Zdc b w fb A c out f i wr) (fun _ _ i _=>b.length-(intOf i).toNat)
 case atStart=>exact ⟨0,0,l1,A1,c1,0,rfl,rfl,rfl,lR _,zL _,hstart,ho2,hbel2,i1,i2,lR _,HF2.out⟩
 case round=>
  clear ho2 hbel2 hstart i1 i2 HF2 hs1;obtain ⟨k,f,l,A1,c1,n0,rfl,rfl,rfl,hfk,hk,heq,hro,hbel,i1,i2,hn0,hfin0⟩:=hrel;have HFI:=qI hfin0;clear hfin0;have hlb:=Z6t hb heq.out;have hs:=hbel.size;have hrb:=(hr.belowW hbel (lR _)).more hs
  by_cases hlt:k<b.length
  ·have hki:(k:Int)<(b.length:Int):=by omega
   go_wp2_with fail;refine (Z8m w.heap.size fb A b c n0 k wr HFI.out (hr.below hbel) hb hc hn0 hk).mono ?_;rintro e w2 ⟨rfl,⟨n1,hn1,hfin1⟩,hbk⟩;have HF2:=qI hfin1;have hro2:=hbk.own hro;have hbel2:Below w.heap.size w w2:=hbel.trans hbk.below;have hrb2:Rd w2 w2.heap.size 1 A b.length (bc b):=(hr.below hbel2).more hbel2.size;clear hfin1 HFI hbk hro hrb hbel hs;have hs:=hbel2.size;have hll:=Z7w b k;have hsp:=Z2a (b:=b) (i:=k);have hlt4:=Zgc b k;have hge4:=Zgd (b:=b) (i:=k);obtain ⟨n,hn⟩: ∃n,n=(lng b k).1:=⟨_,rfl⟩;obtain ⟨d,hd⟩: ∃d,d=(lng b k).2:=⟨_,rfl⟩;rw [←hn] at hlt4 hge4;rw [←hn,←hd]
   by_cases h4:n<4
   ·have h4i:(n:Int)<4:=by omega
    have heq':Hid (Zp b=l++Z0p b (k+1) f):=by unfold Hid;rw [heq.out,Z3o hlt (hlt4.1 h4)]
    have HN:=qI hn;have HD:=qI hd;clear hn hd hsp hlt4 hge4 hll;go_wp2_with fail;exact ⟨⟨k+1,f,l,A1,c1,n1,rfl,rfl,by go_num,by omega,by omega,heq',hro2,hbel2,i1,i2,by omega,HF2.out⟩,by simp [intOf];omega⟩
   ·have heqL:=hge4 (by omega)
    rw [heqL] at hn hd;rw [←hn,←hd] at hsp;rw [←hn] at hll;have hsp:=hsp (by omega);have h4i: ¬((n:Int)<4):=by omega
    have heq':Hid (Zp b=l++(runB ((b.drop f).take (k-f))++(num (2*(n-4)+1)++(num d++Z0p b (k+n) (k+n))))):=by unfold Hid;rw [heq.out,Z3p hlt (by rw [←hn];omega),←hn,←hd]
    have hcut:=hrb2.cut (lo:=f) (hi:=k) (cap:=c) hfk hk hc;rw [if_neg (by omega),Nat.mul_one,Nat.mul_one,Z18,Z0E] at hcut;have hd1:=hsp.1;have hd2:=hsp.2.2.1;have hn2:=hsp.2.2.2.1;have hn3:=hsp.2.2.2.2.1;have HN:=qI hn;have HD:=qI hd;clear hn hd hsp heq hlt4 hge4 heqL;have hfi:(f:Int)≤(k:Int):=by omega
    have hkc:(k:Int)≤(c:Int):=by omega
    have hcf: ¬(c=f):=by omega
    go_wp2_with fail;refine (Zd6 A1 l c1 _ ((b.drop f).take (k-f)) (k-f) _ w2 (by rw [List.length_take,List.length_drop];omega) (Rd.of_own hro2) i1 i2 hcut (by omega)).mono ?_;rintro e w3 ⟨l3,A3,c3,e3,rfl,hr3,hb3,j1,j2⟩;go_wp2_with fail;have hl3:l3.length≤37748800:=by
     have:=(Z3q ((b.drop f).take (k-f)) (by rw [List.length_take,List.length_drop];omega)).2.2.2;rw [List.length_take,List.length_drop] at this;rw [e3.out,List.length_append];omega
    have hcl1:Hid (Zk (2*((n:Int)-4)+1)=2*(n-4)+1):=by unfold Hid Zk;omega
    have hcl2:Hid (Zk (d:Int)=d):=Z4u (by omega);refine (Z02 A3 l3 c3 _ w3 hr3 (by omega)).mono ?_;rintro e w4 ⟨l4,A4,c4,e4,rfl,ho4,hb4,j3,j4⟩;have hl4:l4.length≤37748809:=by
     have:=Za 8 (2*(n-4)+1) (by omega);rw [e4.out,hcl1.out,List.length_append];omega
    go_wp2_with fail;refine (Z02 A4 l4 c4 _ w4 (Rd.of_own ho4) (by omega)).mono ?_;rintro e w5 ⟨l5,A5,c5,e5,rfl,ho5,hb5,j5,j6⟩;have hfin:Hid (Zp b=l5++Z0p b (k+n) (k+n)):=by
     unfold Hid;rw [e5.out,e4.out,e3.out,hcl1.out,hcl2.out,heq'.out];simp only [List.append_assoc]
    have hbel5:=((hbel2.trans (hb3.mono hs)).trans (hb4.mono (lT hs hb3.size))).trans (hb5.mono (lT (lT hs hb3.size) hb4.size));go_wp2_with fail;exact ⟨⟨k+n,k+n,l5,A5,c5,n1,rfl,by go_num,by go_num,lR _,hn3,hfin,ho5.mono (lT (lT hs hb3.size) hb4.size),hbel5,j5,j6,by omega,((HF2.out.belowW hb3).belowW hb4).belowW hb5⟩,by simp [intOf];omega⟩
  ·have hki: ¬((k:Int)<(b.length:Int)):=by omega
   have htail:=hrb.tail (k:=f) (cap:=c) (by omega) hc;have hfin:Hid (Zp b=l++runB (b.drop f)):=by unfold Hid;rw [heq.out,Z4s (by omega)]
   have hfi:(f:Int)≤(b.length:Int):=by omega
   by_cases hcf:c=f
   ·rw [if_pos hcf] at htail
    have HC:=qI hcf;go_wp2_with fail;refine (Zcy A1 l c1 _ (b.drop f) (b.length-f) _ wr w.heap.size (by rw [List.length_drop]) hro hs i1 i2 htail (by omega)).mono ?_;rintro e w3 ⟨l3,A3,c3,e3,rfl,hr3,hb3,j1,j2⟩;go_wp2_with fail;go_ret;exact ⟨l3,A3,c3,by unfold Hid;rw [e3.out,hfin.out],rfl,hr3,hbel.trans (hb3.mono hs),j1,j2⟩
   ·rw [if_neg hcf] at htail
    have HC:=qI hcf;go_wp2_with fail;refine (Zcy A1 l c1 _ (b.drop f) (b.length-f) _ wr w.heap.size (by rw [List.length_drop]) hro hs i1 i2 htail (by omega)).mono ?_;rintro e w3 ⟨l3,A3,c3,e3,rfl,hr3,hb3,j1,j2⟩;go_wp2_with fail;go_ret;exact ⟨l3,A3,c3,by unfold Hid;rw [e3.out,hfin.out],rfl,hr3,hbel.trans (hb3.mono hs),j1,j2⟩
end Go.Proofs.YtecpbcmpncgokaaGreat
