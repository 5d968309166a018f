/- Plain laws of reading a pack's parts one behind the other. No program is in sight. Conditions: none. The walk of a pack's Parse. Conditions: bytes of at most 2^47 - 4096. -/
import Derived.Test.YtecpbcmpncgokaaGreatDisk2
import Derived.Test.YtecpbcmpncgokaaGreatShort
import Derived.Test.YtecpbcmpncgokaaGreatPckPart
import Derived.Test.YtecpbcmpncgokaaGreatSto1
import Derived.Deep.DeepCutAuto
import Derived.Deep.CutBlock
set_option linter.unusedVariables false
namespace Go.Dol
def Z18 (prev:LU) (ps:List Pt):LU:=match ps.getLast? with | none=>prev | some p=>p.raw
def Z3x (d:Nat) (ps:List Pt):Nat:=match ps.getLast? with | none=>d | some p=>p.depth
theorem ZaG (prev:LU) (p:Pt) (ps:List Pt):Z18 prev (p::ps)=Z18 p.raw ps:=by
 unfold Z18
 cases ps with
 | nil=>rfl
 | cons a b=>rw [List.getLast?_cons_cons,List.getLast?_cons]
theorem ZdB (d:Nat) (p:Pt) (ps:List Pt):Z3x d (p::ps)=Z3x p.depth ps:=by
 unfold Z3x
 cases ps with
 | nil=>rfl
 | cons a b=>rw [List.getLast?_cons_cons,List.getLast?_cons]
theorem ZaH (prev:LU) (p:Pt) (ps:List Pt):Z18 prev (ps++[p])=p.raw:=by simp [Z18]
theorem ZdC (d:Nat) (p:Pt) (ps:List Pt):Z3x d (ps++[p])=p.depth:=by simp [Z3x]
theorem Z5A {ge:BA→BA→Bool} (k:Nat): ∀(i:Nat) (prev:LU) (d:Nat) (l:LU),ZD ge (i+k) prev d l=match ZD ge i prev d l with
  | none=>none
  | some (ps,r)=>match ZD ge k (Z18 prev ps) (Z3x d ps) r with
   | none=>none
   | some (qs,r')=>some (ps++qs,r')
 | 0,prev,d,l=>by
  rw [Nat.zero_add];show _=match ZD ge k prev d l with | none=>none | some (qs,r')=>some ([]++qs,r')
  cases ZD ge k prev d l with
  | none=>rfl
  | some x=>rfl
 | i+1,prev,d,l=>by
  have e:i+1+k=(i+k)+1:=by omega
  rw [e,ZD,ZD]
  cases h1:Z1g ge 1099511627776 prev d l with
  | none=>rfl
  | some x=>
   obtain ⟨p,rest⟩:=x;simp only;rw [Z5A k i p.raw p.depth rest]
   cases h2:ZD ge i p.raw p.depth rest with
   | none=>rfl
   | some y=>
    obtain ⟨ps,r⟩:=y;simp only;rw [ZaG,ZdB]
    cases ZD ge k (Z18 p.raw ps) (Z3x p.depth ps) r with
    | none=>rfl
    | some z=>rfl
section
variable {ge:BA→BA→Bool} {i n:Nat} {l r:LU} {ps:List Pt}
theorem Z9L (h:ZD ge i [] 0 l=some (ps,r)) {p:Pt} {rest:LU} (h1:Z1g ge 1099511627776 (Z18 [] ps) (Z3x 0 ps) r=some (p,rest)):ZD ge (i+1) [] 0 l=some (ps++[p],rest):=by
 rw [Z5A,h];simp only;rw [ZD,h1]
 rfl
theorem ZdD (h:ZD ge i [] 0 l=some (ps,r)) (hi:i<n) (h1:Z1g ge 1099511627776 (Z18 [] ps) (Z3x 0 ps) r=none):ZD ge n [] 0 l=none:=by
 obtain ⟨k,rfl⟩: ∃k,n=i+(k+1):=⟨n-i-1,by omega⟩;rw [Z5A,h];simp only;rw [ZD,h1]
theorem ZdE (h:ZD ge i [] 0 l=some (ps,r)) (hi:i<n) {p:Pt} {rest:LU} (h1:Z1g ge 1099511627776 (Z18 [] ps) (Z3x 0 ps) r=some (p,rest)) (h2:p.id∈ps.map (·.id)) {qs:List Pt} {r':LU} (h3:ZD ge n [] 0 l=some (qs,r')): ¬(qs.map (·.id)).Nodup:=by
 obtain ⟨k,rfl⟩: ∃k,n=(i+1)+k:=⟨n-i-1,by omega⟩;rw [Z5A,Z9L h h1] at h3;simp only at h3;split at h3
 ·cases h3
 ·injection h3 with h3
  injection h3 with h3 _
  subst h3;rw [List.append_assoc,List.map_append,List.singleton_append,List.map_cons,List.nodup_append];intro h4;obtain ⟨q,hq,e⟩:=List.mem_map.1 h2;exact h4.2.2 q.id (List.mem_map.2 ⟨q,hq,rfl⟩) p.id (List.mem_cons_self ..) e
end
theorem ZdF {ge:BA→BA→Bool} {most:Int} {prev:LU} {d:Nat} {l:LU} {p:Pt} {rest:LU} (h:Z1g ge most prev d l=some (p,rest)) (hd:d≤7):Zd ge p.raw=true∧p.depth≤7∧rest.length≤l.length∧p.id=ZC p.raw:=by
 unfold Z1g at h;split at h
 ·cases h
 ·rename_i k q hkq
  split at h
  ·cases h
  ·rename_i t rest' ht
   split at h
   ·cases h
   ·rename_i raw hraw
    split at h
    ·rename_i hc
     injection h with h
     injection h with h1 h2
     subst h1 h2;refine ⟨hc.2,?_,?_,hc.1.symm⟩
     ·show Z0g d k.toNat≤7
      unfold Z0g;split
      ·rename_i hk
       unfold Z11 at hraw;rw [if_neg (by omega),if_neg (by omega),if_pos hk] at hraw;split at hraw
       ·rename_i h7;omega
       ·cases hraw
      ·omega
     ·have h3:=congrArg List.length (Z0c ht).1
      rw [List.length_append] at h3;have h4:=congrArg List.length hkq;rw [List.length_drop,List.length_cons] at h4;omega
    ·cases h
end Go.Dol
set_option linter.unusedVariables false
namespace Go.Proofs.YtecpbcmpncgokaaGreat
open Go.RowKit Go.Dol
def ZgW (w:World) (r:Option (List Pt)) (e:Ending) (w':World):Prop:=
 Below w.heap.size w w'∧match r with
 | none=>e= .returned (.tuple #[.pointer none,.int .i64 2])
 | some ps=> ∃g l A c m,Hid (ptp l=ps)∧e= .returned (.tuple #[.pointer (some ⟨g,0,none⟩),.int .i64 0])∧Pck w' w.heap.size g l A c m 0 (.slice none 0 0)
def Z81 (p0:LU) (n:Nat) (gr g m:Nat) (w:World) (i:Value) (wr:World):Prop:=
 ∃(l:List PtA) (A:OA) (c:Nat) (p:LU) (Ar:OA) (cr:Nat) (pv:PtA),i= .int .i64 l.length∧l.length≤n∧Rdr wr w.heap.size gr g l A c m p Ar cr pv∧Hid (ZD geS l.length [] 0 p0=some (ptp l,p))∧Hid (pv.p.raw=Z18 [] (ptp l)∧pv.p.depth=Z3x 0 (ptp l))∧pv.p.raw.length≤2097152∧pv.p.depth≤7∧p.length≤p0.length∧Below w.heap.size w wr
set_option maxRecDepth 100000 in
set_option maxHeartbeats 6400000 in
theorem Zch (A:OA) (b:LU) (c:Nat) (w:World) (hr:Rd w w.heap.size 1 A b.length (bc b)) (hc:b.length≤c) (hcm:c≤maxLen) (hl:b.length≤140737488351232):
  Calls Tryz.prog 140 #[.slice A b.length c] w (ZgW w (Z0M geS b)):=by
 obtain ⟨r,hre⟩: ∃r,r=Z0M geS b:=⟨_,rfl⟩;rw [←hre];have HR:=qI hre;clear hre;obtain ⟨aN,haN⟩: ∃aN,aN=b.length-32:=⟨_,rfl⟩;have w1:IntKind.i64.wrap ((b.length:Int)-32)=(b.length:Int)-32:=qJ _ (by omega);have hM1: ∀W:World,(Builtin.max_ #[3,3] 3 #[.int .i64 ((b.length:Int)-32),.int .i64 0]).run Tryz.prog W= .ok (.int .i64 (aN:Int)) W:=fun W=>by
  have e:(aN:Int)=if 0>((b.length:Int)-32) then 0 else ((b.length:Int)-32):=by split<;>omega
  rw [e];exact run_max_int2 _ _ _ _ _ _ _
 obtain ⟨bp,hbp,hbp1,hbpB,hbpp,_,hsl⟩:=Zd1 (k:=aN) (aN:Int) rfl hr (by omega) hc hcm;have HA:=qI haN;clear haN;have kc:=Z7n w;have hbg:Below w.heap.size w (w.alloc (.cells #[.int .u8 68,.int .u8 80,.int .u8 75,.int .u8 49] 5 (4,5))):=(bR _ _).alloc (lR _) _;have hcut:Calls Tryz.prog 208 #[.slice A bp.length c,.slice (some ⟨w.heap.size,0,none⟩) 4 4] (w.alloc (.cells #[.int .u8 68,.int .u8 80,.int .u8 75,.int .u8 49] 5 (4,5))) (Z7o (w.alloc (.cells #[.int .u8 68,.int .u8 80,.int .u8 75,.int .u8 49] 5 (4,5))) w.heap.size A bp c mgL):=Z70 A bp c (some ⟨w.heap.size,0,none⟩) mgL 4 (w.alloc (.cells #[.int .u8 68,.int .u8 80,.int .u8 75,.int .u8 49] 5 (4,5))) w.heap.size _ (hbpp.1.alloc (lR _) _) (Zbl w) hbpp.2.1 hcm;have HCUT:=qI hcut;clear hcut;go_in;go_wp2_with fail;refine HCUT.out.mono ?_;intro e v0 hcr;unfold Z7o at hcr
 by_cases hpre:bp.take mgL.length=mgL
 ·rw [if_pos hpre] at hcr
  obtain ⟨mb,Am,cm,hmb,rfl,hmp,hv⟩:=hcr;have h36:36≤b.length:=by
   have h1:=congrArg List.length hpre;rw [List.length_take] at h1;have h2:mgL.length=4:=rfl;have h3:=HA.out;omega
  have hpre2:Hid (b.take 4=magicL):=by
   unfold Hid;have h1:bp.take 4=magicL:=hpre;rw [hbp.out,List.take_take] at h1;rw [←h1]
   congr 1
   have:=HA.out;omega
  have hat:(b.length:Int)-32=(aN:Int):=by have:=HA.out;omega
  obtain ⟨bs,As,cs,hbs,hbs1,hbs2,hbsp,_,_,_,hsl3⟩:=Z0b (k:=aN) (aN:Int) rfl hr (by omega) hc hcm;obtain ⟨v1,hv1⟩: ∃v1,v1=w.alloc (.cells #[.int .u8 68,.int .u8 80,.int .u8 75,.int .u8 49] 5 (4,5)):=⟨_,rfl⟩;rw [←hv1] at hv hbg;have hmp1:Za6 v1 w.heap.size mb Am cm:=by rw [hv1];exact hmp
  subst hv;clear hv1 hmp kc hpre;have hcs:=Z0Q (c:=cs) (hbsp.1.below hbg).drew;have hSum:=qI (Z2e A bp c v0.drew (((hbpp.1.below hbg).more hbg.size).drew) (by omega));have hb1s:=hbsp.1
  by_cases hsum:ZC bp=bs
  ·have HS:=qI hsum
   clear hsum;go_upto_region 3 with (fail)
   refine wp_region_held_drew (S:=fun W=>(convert 36 9 (.slice As bs.length cs)).run Tryz.prog W= .ok (.string ⟨bs.toArray⟩) W) (by kernel_rfl) (hcs) (fun hHeld=> ?_);refine tk 0 (.bool true) rfl (fun _ _ _ h=>h) (Or.inl ⟨by rfl,fun w9 hS=> ?_⟩) hHeld ?_
   ·have s0:=hS
    go_simp
   try simp only [Act.put,sA,sB,sC,sD,sF]
   refine tk 1 (.bool false) rfl (fun _ _ _ h=>h) (Or.inl ⟨by rfl,fun w9 hS=> ?_⟩) hHeld ?_
   ·have s0:=hS
    go_simp
   try simp only [Act.put,sA,sB,sC,sD,sE,sF]
   refine tk 2 (.bool false) rfl (fun _ _ _ h=>h) (Or.inl ⟨by rfl,fun w9 hS=> ?_⟩) hHeld ?_
   ·have s0:=hS
    go_simp
   try simp only [Act.put,sA,sB,sC,sD,sE,sF]
   refine tk 3 (.slice A b.length c) rfl (fun _ _ _ h=>h) (Or.inl ⟨by rfl,fun w9 hS=> ?_⟩) hHeld ?_
   ·have s0:=hS
    go_simp
   try simp only [Act.put,sA,sB,sC,sD,sE,sF]
   refine tk 4 (.int .i64 (aN:Int)) rfl (fun _ _ _ h=>h) (Or.inl ⟨by rfl,fun w9 hS=> ?_⟩) hHeld ?_
   ·have s0:=hS
    go_simp
   try simp only [Act.put,sA,sB,sC,sD,sE,sF]
   refine tk 5 (.slice A bp.length c) rfl (fun _ _ _ h=>h) (Or.inl ⟨by rfl,fun w9 hS=> ?_⟩) hHeld ?_
   ·have s0:=hS
    go_simp
   try simp only [Act.put,sA,sB,sC,sD,sE,sF]
   refine tk 7 (.slice A b.length c) rfl (fun _ _ _ h=>h) (Or.inl ⟨by rfl,fun w9 hS=> ?_⟩) hHeld ?_
   ·have s0:=hS
    go_simp
   try simp only [Act.put,sA,sB,sC,sD,sE,sF]
   refine tk 8 (.int .i64 (aN:Int)) rfl (fun _ _ _ h=>h) (Or.inl ⟨by rfl,fun w9 hS=> ?_⟩) hHeld ?_
   ·have s0:=hS
    go_simp
   try simp only [Act.put,sA,sB,sC,sD,sE,sF]
   refine tk 9 (.slice As bs.length cs) rfl (fun _ _ _ h=>h) (Or.inl ⟨by rfl,fun w9 hS=> ?_⟩) hHeld ?_
   ·have s0:=hS
    go_simp
   try simp only [Act.put,sA,sB,sC,sD,sE,sF]
   refine tk 10 (.string ⟨bs.toArray⟩) rfl (fun _ _ _ h=>h) (Or.inl ⟨by rfl,fun w9 hS=> ?_⟩) hHeld ?_
   ·have s0:=hS
    go_simp
   try simp only [Act.put,sA,sB,sC,sD,sE,sF]
   refine wpAnyH_ready (rs:=[6]) (by kernel_rfl) (by simp) (AllReadyH.cons (o:=_) rfl (fun K hK=> ?_) AllReadyH.nil);go_simp;refine (hSum.out).mono ?_;rintro e w2 ⟨sm,hsm,rfl,hb2⟩;have hb2:Below v0.heap.size v0 w2:=⟨hb2.os,hb2.tape,hb2.output,hb2.size,hb2.block⟩;have hcs2:=Z0Q (c:=cs) ((hb1s.below hbg).belowW hb2 hbg.size);refine hK.out _ _ hcs2 (fun hHeld=> ?_);clear hK K
   try simp only [Act.put,sA,sB,sC,sD,sE,sF]
   obtain rfl:sm=bs:=by rw [hsm.out];exact HS.out
   refine tk 11 (.bool false) rfl (fun _ _ _ h=>h) (Or.inl ⟨by rfl,fun w9 hS=> ?_⟩) hHeld ?_
   ·have s0:=hS
    go_simp
   try simp only [Act.put,sA,sB,sC,sD,sE,sF]
   refine tk 12 (.bool false) rfl (fun _ _ _ h=>h) (Or.inl ⟨by rfl,fun w9 hS=> ?_⟩) hHeld ?_
   ·have s0:=hS
    go_simp
   try simp only [Act.put,sA,sB,sC,sD,sE,sF]
   refine wpAnyH_done (by kernel_rfl) ?_ _;have hb02:=hbg.next hb2;have hs02:=hb02.size;have hmb2:=(hmp1.1.belowW hb2 hbg.size).more hs02;have hmbl:mb.length≤b.length:=by rw [hmb.out,hbp.out,List.length_drop,List.length_take];omega
   have hrp:Hid (r=match Z3 mb with
    | none=>none
    | some (n,p)=>if 4096<n then none else match ZD geS n [] 0 p with
     | none=>none
     | some (ps,q)=>if q=[]∧(ps.map (·.id)).Nodup then some ps else none):=by
    unfold Hid;rw [HR.out];unfold Z0M
    rw [if_neg (by
     rintro (h | h | h)
     ·omega
     ·exact h hpre2.out
     ·exact h (by rw [←HA.out,←hbp.out,←hbs.out];exact HS.out))]
    rw [←HA.out,←hbp.out];rw [show bp.drop 4=mb from hmb.out.symm]
    rfl
   have htn:=ZW Am mb cm w2 hmb2 (by omega) hmp1.2.1;clear HS hcs hcs2 hSum hsm hb2 hmp1 hbsp hb1s hsl3 hsl hbpp hM1 hpre2 HCUT
   cases hnt:Z3 mb with
   | none=>
    rw [hnt] at htn hrp;have HT:=qI htn;have hr0:Hid (r=none):=hrp.out;clear htn hnt;go_wp2_with fail;refine HT.out.mono ?_;rintro e w3 ⟨rfl,hb3⟩;go_wp2_with fail;go_ret2;rw [hr0.out];exact ⟨hb02.next hb3,rfl⟩
   | some np=>
    obtain ⟨n,p⟩:=np;rw [hnt] at htn hrp;have HT:=qI htn;have hpl:=Zh hnt;clear htn hnt;go_wp2_with fail;refine HT.out.mono ?_;rintro e w3 ⟨q,Aq,cq,hq,rfl,hoq,hb3,i1,i2⟩;have hb03:=hb02.next hb3;have hs03:=hb03.size;have hoq:=hoq.base hs02
    by_cases hn:n≤4096
    ·have d4:decide ((4096:Int)<(n:Int))=false:=qF (by omega)
     have d4': ¬(4096:Int)<(n:Int):=by omega
     have hmm:=@run_makeMap Tryz.prog
     have hrn:Hid (r=match ZD geS n [] 0 p with
      | none=>none
      | some (ps,q)=>if q=[]∧(ps.map (·.id)).Nodup then some ps else none):=by unfold Hid;rw [hrp.out];(try simp only);rw [if_neg (by omega)]
     clear HT hrp;obtain ⟨m,hm⟩: ∃m,m=w3.heap.size:=⟨_,rfl⟩;obtain ⟨w4,hw4⟩: ∃w4,w4=(((w3.alloc (.map #[] 0)).alloc (.cells #[.slice none 0 0,.map (some w3.heap.size),.int .u32 0,.int .i32 0,.int .u32 0,.slice none 0 0] 205)).alloc (.cells #[.slice Aq q.length cq,.slice none 0 0,.int .i64 0,.pointer (some ⟨w3.heap.size+1,0,none⟩)] 276)):=⟨_,rfl⟩;have hb34:Below w3.heap.size w3 w4:=by rw [hw4];exact ((((bR _ _).alloc (lR _) _).alloc (by simp) _).alloc (by simp;omega) _)
     have hM4:MapL Tryz.prog 9 w4 m []:=by rw [hw4,hm];exact ((MapL.new w3).alloc _).alloc _
     have hG4:Blk w4 (m+1) 205 [.slice none 0 0,.map (some m),.int .u32 0,.int .i32 0,.int .u32 0,.slice none 0 0]:=by
      rw [hw4,hm];have h:=(Blk.new (w3.alloc (.map #[] 0)) 205 [.slice none 0 0,.map (some w3.heap.size),.int .u32 0,.int .i32 0,.int .u32 0,.slice none 0 0]).alloc (.cells #[.slice Aq q.length cq,.slice none 0 0,.int .i64 0,.pointer (some ⟨w3.heap.size+1,0,none⟩)] 276);rw [show (w3.alloc (.map #[] 0)).heap.size=w3.heap.size+1 by simp] at h;exact h
     have hD4:Blk w4 (m+1+1) 276 [.slice Aq q.length cq,.slice none 0 0,.int .i64 0,.pointer (some ⟨m+1,0,none⟩)]:=by
      rw [hw4,hm];have h:=Blk.new ((w3.alloc (.map #[] 0)).alloc (.cells #[.slice none 0 0,.map (some w3.heap.size),.int .u32 0,.int .i32 0,.int .u32 0,.slice none 0 0] 205)) 276 [.slice Aq q.length cq,.slice none 0 0,.int .i64 0,.pointer (some ⟨w3.heap.size+1,0,none⟩)];rw [show ((w3.alloc (.map #[] 0)).alloc (.cells #[.slice none 0 0,.map (some w3.heap.size),.int .u32 0,.int .i32 0,.int .u32 0,.slice none 0 0] 205)).heap.size=w3.heap.size+1+1 by simp] at h;exact h
     have hR4:Rdr w4 w.heap.size (m+1+1) (m+1) [] none 0 m q Aq cq ⟨⟨[],0,0,0,[]⟩,none,0⟩:=
      ⟨hD4,by omega,⟨hG4,by omega,by omega,World.ownsRow_nil _ _ _ _,hM4,(fun x hx=>(List.not_mem_nil hx).elim),.inl ⟨rfl,rfl⟩⟩,(Seg.of_own hoq).belowW hb34,B8.nil,lR _,by show 0≤maxLen;unfold maxLen;omega⟩
     have hpq:q=p:=hq.out;have hst:Z81 p n (m+1+1) (m+1) m w (.int .i64 0) w4:=⟨[],none,0,q,Aq,cq,_,rfl,zL _,hR4,by unfold Hid;rw [hpq];rfl,qI ⟨rfl,rfl⟩,by simp,by simp,by rw [hpq];exact lR _,hb03.next hb34⟩;have HST:=qI hst;have HPL:Hid (p.length≤140737488351232):=by unfold Hid;omega
     clear hst hR4 hD4 hG4 hM4 hb34 hpq hq hoq hb3 hb03 hpl;go_upto_block 1 with (fail)
     rw [←hw4,←hm];clear hw4 hm hmm hs03;go_loopw [57] (fun i wr=>Z81 p n (m+1+1) (m+1) m w i wr) (fun i _=>n-(intOf i).toNat)
     case atStart=>exact HST.out
     case round=>
      clear HST;obtain ⟨l,A5,c5,p5,Ar,cr,pv,rfl,hln,hR,hread,hlast,hraw,hd,hple,hbel⟩:=hrel;have hs:=hbel.size;have f1:IntKind.i64.wrap ((l.length:Int)+1)=(l.length:Int)+1:=qJ _ (by omega)
      by_cases h1:l.length<n
      ·have d1:decide ((l.length:Int)<(n:Int))=true:=dT (by omega)
       have d1':(l.length:Int)<(n:Int):=by omega
       have hp:=ZdM hR (by omega) hraw hd (by have:=HPL.out;omega) hs;rw [ZgR Z17] at hp
       cases hone:Z1g geS 1099511627776 pv.p.raw pv.p.depth p5 with
       | none=>
        rw [hone] at hp;have hr0:Hid (r=none):=by
         unfold Hid;rw [hrn.out,ZdD hread.out h1 (by rw [←hlast.out.1,←hlast.out.2];exact hone)]
        have HP:=qI hp;clear hp hone hread hlast hR;go_wp2_with fail;refine HP.out.mono ?_;rintro e w5 ⟨rfl,hb5⟩;go_wp2_with fail;go_ret2;rw [hr0.out];exact ⟨hbel.trans hb5,rfl⟩
       | some pr=>
        obtain ⟨pt,rest⟩:=pr;rw [hone] at hp;obtain ⟨ho1,ho2,ho3,ho4⟩:=ZdF hone hd;have hone2:Hid (Z1g geS 1099511627776 (Z18 [] (ptp l)) (Z3x 0 (ptp l)) p5=some (pt,rest)):=by unfold Hid;rw [←hlast.out.1,←hlast.out.2];exact hone
        have hfew:=Z17 _ ho1;clear hone ho1
        by_cases hin:pt.id∈l.map fun x=>x.p.id
        ·have hr0:Hid (r=none):=by
          unfold Hid;rw [hrn.out]
          cases hrd:ZD geS n [] 0 p with
          | none=>rfl
          | some qr=>
           obtain ⟨qs,q'⟩:=qr;have:=ZdE hread.out h1 hone2.out (by simpa [ptp] using hin) hrd;simp only;rw [if_neg (fun h=>this h.2)]
         have hp2:Calls Tryz.prog 210 #[.pointer (some ⟨m+1+1,0,none⟩)] wr (fun e w'=>e= .returned (.int .i64 2)∧Below w.heap.size wr w'):=hp.mono fun e w' hh=>by
          obtain ⟨h8,h9⟩:=hh;rw [if_pos hin] at h9;exact ⟨h9,h8⟩
         have HP:=qI hp2;clear hp hp2 hread hlast hR hin;go_wp2_with fail;refine HP.out.mono ?_;rintro e w5 ⟨rfl,hb5⟩;go_wp2_with fail;go_ret2;rw [hr0.out];exact ⟨hbel.trans hb5,rfl⟩
        ·have hp2:Calls Tryz.prog 210 #[.pointer (some ⟨m+1+1,0,none⟩)] wr (fun e w'=>e= .returned (.int .i64 0)∧Z81 p n (m+1+1) (m+1) m w (.int .i64 ((l.length+1:Nat):Int)) w'):=hp.mono fun e w' hh=>by
          obtain ⟨h8,h9⟩:=hh;rw [if_neg hin] at h9;obtain ⟨h9,x,A6,c6,q6,Ar6,cr6,hxp,hq6,hR6⟩:=h9;have e6:(l++[x]).length=l.length+1:=by simp
          have ep:ptp (l++[x])=ptp l++[pt]:=by unfold ptp;rw [List.map_append,List.map_cons,hxp.out];rfl
          refine ⟨h9,l++[x],A6,c6,q6,Ar6,cr6,x,by rw [e6],by omega,hR6,?_,?_,?_,?_,?_,hbel.trans h8⟩
          ·unfold Hid
           rw [e6,ep,hq6.out];exact Z9L hread.out hone2.out
          ·unfold Hid
           rw [ep,ZaH,ZdC,hxp.out];exact ⟨rfl,rfl⟩
          ·rw [hxp.out];exact hfew
          ·rw [hxp.out];exact ho2
          ·rw [hq6.out];omega
         have HP:=qI hp2;clear hp hp2 hread hlast hR hin hone2;go_wp2_with fail;refine HP.out.mono ?_;rintro e w5 ⟨rfl,hrel5⟩;have HREL:=qI hrel5;clear hrel5;go_wp2_with fail;exact ⟨by rw [show ((l.length:Int)+1)=((l.length+1:Nat):Int) by omega];exact HREL.out,by simp [intOf];omega⟩
      ·have d1:decide ((l.length:Int)<(n:Int))=false:=qF (by omega)
       have d1': ¬(l.length:Int)<(n:Int):=by omega
       have hln2:l.length=n:=by omega
       have hrd:Hid (r=if p5=[]∧((ptp l).map (·.id)).Nodup then some (ptp l) else none):=by
        unfold Hid;rw [hrn.out,←hln2,hread.out]
       have k0:wr.cell? ⟨m+1+1,0,none⟩=some (.slice Ar p5.length cr):=by rw [hR.blk.cell];rfl
       have k3:wr.cell? ⟨m+1+1,3,none⟩=some (.pointer (some ⟨m+1,0,none⟩)):=by rw [hR.blk.cell];rfl
       have hnd:((ptp l).map (·.id)).Nodup:=by have:=hR.pck.nodup;unfold ptp;rw [List.map_map];exact this
       have HPK:=qI hR.pck;clear hln2 hread hlast hR
       by_cases hp0:p5.length=0
       ·have hpe:p5=[]:=nZ hp0
        have hr0:Hid (r=some (ptp l)):=by unfold Hid;rw [hrd.out,if_pos ⟨hpe,hnd⟩]
        have d2:decide ((0:Int)<(p5.length:Int))=false:=qF (by omega);have d2': ¬(0:Int)<(p5.length:Int):=by omega
        have d2n: ¬0<p5.length:=by omega
        clear hpe hp0 hnd;go_wp2_with fail;go_ret2;rw [hr0.out];exact ⟨hbel,m+1,l,A5,c5,m,rfl,rfl,HPK.out⟩
       ·have hr0:Hid (r=none):=by unfold Hid;rw [hrd.out,if_neg (fun h=>hp0 (by rw [h.1];rfl))]
        have d2:decide ((0:Int)<(p5.length:Int))=true:=dT (by omega);have d2':(0:Int)<(p5.length:Int):=by omega
        have d2n:0<p5.length:=by omega
        clear hnd;go_wp2_with fail;go_ret2;rw [hr0.out];exact ⟨hbel,rfl⟩
    ·have d4:decide ((4096:Int)<(n:Int))=true:=dT (by omega)
     have d4':(4096:Int)<(n:Int):=by omega
     have hr0:Hid (r=none):=by unfold Hid;rw [hrp.out];(try simp only);rw [if_pos (by omega)]
     clear HT;go_wp2_with fail;go_ret2;rw [hr0.out];exact ⟨hb03,rfl⟩
  ·have hr0:Hid (r=none):=by unfold Hid;rw [HR.out];unfold Z0M;rw [if_pos (.inr (.inr (by rw [←HA.out,←hbp.out,←hbs.out];exact hsum)))]
   go_upto_region 3 with (fail)
   refine wp_region_held_drew (S:=fun W=>(convert 36 9 (.slice As bs.length cs)).run Tryz.prog W= .ok (.string ⟨bs.toArray⟩) W) (by kernel_rfl) (hcs) (fun hHeld=> ?_);refine tk 0 (.bool true) rfl (fun _ _ _ h=>h) (Or.inl ⟨by rfl,fun w9 hS=> ?_⟩) hHeld ?_
   ·have s0:=hS
    go_simp
   try simp only [Act.put,sA,sB,sC,sD,sF]
   refine tk 1 (.bool false) rfl (fun _ _ _ h=>h) (Or.inl ⟨by rfl,fun w9 hS=> ?_⟩) hHeld ?_
   ·have s0:=hS
    go_simp
   try simp only [Act.put,sA,sB,sC,sD,sE,sF]
   refine tk 2 (.bool false) rfl (fun _ _ _ h=>h) (Or.inl ⟨by rfl,fun w9 hS=> ?_⟩) hHeld ?_
   ·have s0:=hS
    go_simp
   try simp only [Act.put,sA,sB,sC,sD,sE,sF]
   refine tk 3 (.slice A b.length c) rfl (fun _ _ _ h=>h) (Or.inl ⟨by rfl,fun w9 hS=> ?_⟩) hHeld ?_
   ·have s0:=hS
    go_simp
   try simp only [Act.put,sA,sB,sC,sD,sE,sF]
   refine tk 4 (.int .i64 (aN:Int)) rfl (fun _ _ _ h=>h) (Or.inl ⟨by rfl,fun w9 hS=> ?_⟩) hHeld ?_
   ·have s0:=hS
    go_simp
   try simp only [Act.put,sA,sB,sC,sD,sE,sF]
   refine tk 5 (.slice A bp.length c) rfl (fun _ _ _ h=>h) (Or.inl ⟨by rfl,fun w9 hS=> ?_⟩) hHeld ?_
   ·have s0:=hS
    go_simp
   try simp only [Act.put,sA,sB,sC,sD,sE,sF]
   refine tk 7 (.slice A b.length c) rfl (fun _ _ _ h=>h) (Or.inl ⟨by rfl,fun w9 hS=> ?_⟩) hHeld ?_
   ·have s0:=hS
    go_simp
   try simp only [Act.put,sA,sB,sC,sD,sE,sF]
   refine tk 8 (.int .i64 (aN:Int)) rfl (fun _ _ _ h=>h) (Or.inl ⟨by rfl,fun w9 hS=> ?_⟩) hHeld ?_
   ·have s0:=hS
    go_simp
   try simp only [Act.put,sA,sB,sC,sD,sE,sF]
   refine tk 9 (.slice As bs.length cs) rfl (fun _ _ _ h=>h) (Or.inl ⟨by rfl,fun w9 hS=> ?_⟩) hHeld ?_
   ·have s0:=hS
    go_simp
   try simp only [Act.put,sA,sB,sC,sD,sE,sF]
   refine tk 10 (.string ⟨bs.toArray⟩) rfl (fun _ _ _ h=>h) (Or.inl ⟨by rfl,fun w9 hS=> ?_⟩) hHeld ?_
   ·have s0:=hS
    go_simp
   try simp only [Act.put,sA,sB,sC,sD,sE,sF]
   refine wpAnyH_ready (rs:=[6]) (by kernel_rfl) (by simp) (AllReadyH.cons (o:=_) rfl (fun K hK=> ?_) AllReadyH.nil);go_simp;refine (hSum.out).mono ?_;rintro e w2 ⟨sm,hsm,rfl,hb2⟩;have hb2:Below v0.heap.size v0 w2:=⟨hb2.os,hb2.tape,hb2.output,hb2.size,hb2.block⟩;have hcs2:=Z0Q (c:=cs) ((hb1s.below hbg).belowW hb2 hbg.size);refine hK.out _ _ hcs2 (fun hHeld=> ?_);clear hK K
   try simp only [Act.put,sA,sB,sC,sD,sE,sF]
   have hne: ¬sm=bs:=by rw [hsm.out];exact hsum
   refine tk 11 (.bool true) rfl (fun _ _ _ h=>h) (Or.inl ⟨by rfl,fun w9 hS=> ?_⟩) hHeld ?_
   ·have s0:=hS
    go_simp
   try simp only [Act.put,sA,sB,sC,sD,sE,sF]
   refine tk 12 (.bool true) rfl (fun _ _ _ h=>h) (Or.inl ⟨by rfl,fun w9 hS=> ?_⟩) hHeld ?_
   ·have s0:=hS
    go_simp
   try simp only [Act.put,sA,sB,sC,sD,sE,sF]
   refine wpAnyH_done (by kernel_rfl) ?_ _;go_wp2_with fail;go_ret2;rw [hr0.out];exact ⟨hbg.next hb2,rfl⟩
 ·rw [if_neg hpre] at hcr
  obtain ⟨rfl,hv⟩:=hcr;have hr0:Hid (r=none):=by
   unfold Hid;rw [HR.out];unfold Z0M;rw [if_pos]
   by_cases h36:b.length<36
   ·exact .inl h36
   ·refine .inr (.inl fun h=>hpre ?_)
    show bp.take 4=magicL
    rw [hbp.out,List.take_take,←h]
    congr 1
    have:=HA.out;omega
  clear hpre;subst hv;go_wp2_with fail;go_quiet (fail);go_wp2_with fail;go_ret2;rw [hr0.out];exact ⟨hbg.drewN' _,rfl⟩
end Go.Proofs.YtecpbcmpncgokaaGreat
