/- The layer 'store': the ids of all packs, sorted, made once. Conditions: packs as they were read; at most 2^20 of them. slices.Concat over rows of texts. Conditions: at most 2^43 texts together. The layer 'store': the walks of sorted and Ids. Conditions: a disk in good order, at most 2^20 packs. -/
import Derived.Test.YtecpbcmpncgokaaGreatSortU
import Derived.Test.YtecpbcmpncgokaaGreatRegEnd
import Derived.Test.YtecpbcmpncgokaaGreatShort
import Derived.Test.YtecpbcmpncgokaaGreatSto0
import Derived.Test.YtecpbcmpncgokaaGreatDiskLaw
import Derived.Test.YtecpbcmpncgokaaGreatSto1
import Derived.Test.YtecpbcmpncgokaaGreatSto3
set_option maxRecDepth 100000
set_option maxHeartbeats 12800000
set_option linter.unusedVariables false
namespace Go.Dol
open Go.RowKit
theorem Zjr {P:Program} {w:World} {ops:Array Oper} {o:Oper} {a:Act} {K:Act→World→Prop} {Q:Exit→Act→World→Prop} {E:Prop} (hgd:o.guard=none) (s x:Operand) (t e:TypeId) (z:Value) (bytes:Nat)
  (ho:o.op= .call { callee:=.builtin .append,args:=#[s,x],argTypes:=#[t,t] })
  (ht:P.underlying t=some (.slice e)) (hi:(P.info? e).map (fun i=>(i.zero,i.size,i.bytes))=some (some z,1,bytes)) (hzs:z.cells.size=1)
  (base:Nat) (v:Value) (n:Nat) (xs:List Value) (hs:a.eval s=v) (hown:w.ownsRow base e 1 v n xs)
  (B:Nat) (A:OA) (m c:Nat) (news:List Value) (hx:a.eval x= .slice A m c) (hr:Rd w B 1 A m news) (h1: ∀u∈news,u.oneCell'=true)
  (hmax:n+m≤maxLen) (hlen:(n+m)*bytes≤140737488355328) (hbase:base≤w.heap.size)
  (h: ∀(A':OA) (c':Nat) (w':World),w'.ownsRow base e 1 (.slice A' (n+m) c') (n+m) (xs++news)→Below base w w'→w.grownBy w' v.ownBlock→Hid ((Value.slice A' (n+m) c').ownBlock=v.ownBlock∨(Value.slice A' (n+m) c').ownBlock=some w.heap.size)→
   n+m≤c'→c'≤maxLen→K (a.put o.dst (.slice A' (n+m) c')) w'):if Region.wanted o (yielded ops a.tmps)=true then Oper.wp P o a w K Q else E:=by
 have hw:Region.wanted o (yielded ops a.tmps)=true:=by simp [Region.wanted,hgd]
 rw [if_pos hw];refine Z0t w s x _ ho base _ _ 1 bytes ht hi hzs (by decide) v n xs hs hown B A m c news hx hr h1 hmax hlen hbase ?_;intro A' c' w' h1 h2 h3 h4 h5;exact h _ c' w' h1 ((bR _ _).grown h2 hbase (fun k hk=>(hown.lt k hk).1)) h2 h3 h4 h5
end Go.Dol
namespace Go.Proofs.YtecpbcmpncgokaaGreat
open Go.RowKit Go.Dol
structure TwI (w w':World) (S:List Nat):Prop where
 os:w'.os=w.os
 tape:w'.tape=w.tape
 output:w'.output=w.output
 size:w.heap.size≤w'.heap.size
 block: ∀i,i<w.heap.size→(i∈S→ ∀cur T fr,w.heap[i]?=some (.cells cur T fr)→T≠205∧T≠138)→w'.heap[i]?=w.heap[i]?
section
variable {w w1 w':World} {S:List Nat} {T:TypeId} {x g m:Nat} {cs:List Value} {D:Dk}
theorem TwI.below (hb:Below w.heap.size w w'):TwI w w' S:=⟨hb.os,hb.tape,hb.output,hb.size,fun i hi _=>hb.block i hi⟩
theorem TwI.step (h:TwI w w1 S) (h2:TwI w1 w' S):TwI w w' S:=
 ⟨h2.os.trans h.os,h2.tape.trans h.tape,h2.output.trans h.output,lT h.size h2.size,fun i hi hS=>by
  have e:=h.block i hi hS
  exact (h2.block i (Nat.lt_of_lt_of_le hi h.size) (fun hm cur T fr e2=>hS hm cur T fr (e▸e2))).trans e⟩
theorem TwI.grown (hB:Blk w x T cs) (hx:x∈S) (hT:T=205∨T=138) (hg:w.grownBy w' (some x)):TwI w w' S:=
 ⟨hg.os,hg.tape,hg.output,hg.size,fun i hi hS=>hg.block i hi fun e=>by
  injection e with e
  subst e;obtain ⟨h1,h2⟩:=hS hx _ _ _ hB
  exact hT.elim h1 h2⟩
theorem TwI.row (h:TwI w w1 S) {row:Option Nat} (hg:w1.grownBy w' row) (hr: ∀k,row=some k→w.heap.size≤k):TwI w w' S:=
 ⟨hg.os.trans h.os,hg.tape.trans h.tape,hg.output.trans h.output,lT h.size hg.size,fun i hi hS=>(hg.block i (Nat.lt_of_lt_of_le hi h.size) fun e=>by have:=hr i e.symm;omega).trans (h.block i hi hS)⟩
theorem TwI.blk (ht:TwI w w' S) (h:Blk w x T cs) (h1:T≠205) (h2:T≠138):Blk w' x T cs:=h.keepB (ht.block x h.lt fun _ cur T' fr e=>by
 unfold Blk at h;rw [h] at e;injection e with e
 injection e with _ e
 subst e
 exact ⟨h1,h2⟩)
theorem TwI.own (ht:TwI w w' S) {base size n:Nat} {v:Value} {xs:List Value} (h:w.ownsRow base T size v n xs) (h1:T≠205) (h2:T≠138):w'.ownsRow base T size v n xs:=Z2d h fun k hk=>ht.block k (Zs h k hk).2 fun _ cur T' fr e=>by
 rcases h.2 with ⟨rfl,_⟩ | ⟨b,cap,cur2,rfl,_,hh,_⟩
 ·cases hk
 ·have hk':b=k:=by simpa [Value.ownBlock] using hk
  subst hk';rw [hh] at e;injection e with e
  injection e with _ e
  subst e;exact ⟨h1,h2⟩
theorem TwI.far (ht:TwI w w' S) {A:OA} {l:LU} (h:Far w 0 A l):Far w' 0 A l:=by
 rcases Nat.eq_zero_or_pos l.length with h0 | h0
 ·rw [nZ h0]
  exact Far.nil
 obtain ⟨b,off,e,hb,hc⟩:=h.1.at_ h0;have hs:Z9 A=some b:=by rw [e];rfl
 rcases h.2 h0 b hs with h5 | ⟨cur,fr,h5⟩
 ·omega
 have hk:=ht.block b hb fun _ cur' T fr' e2=>by
  rw [h5] at e2;injection e2 with e2
  injection e2 with _ e2
  subst e2;exact ⟨by decide,by decide⟩
 refine ⟨⟨h.1.len,fun _=>⟨b,off,e,Nat.lt_of_lt_of_le hb ht.size,fun j u hu=>(World.cell?_of_block hk).trans (hc j u hu)⟩⟩,fun _ k hk2=> ?_⟩;rw [hs] at hk2;injection hk2 with hk2
 subst hk2;exact .inr ⟨cur,fr,by rw [hk];exact h5⟩
theorem TwI.dsk (ht:TwI w w' S) (h:Dsk w g m D):Dsk w' g m D:=by
 obtain ⟨al,hB,hM,M,h1,h2,h3⟩:=h;refine ⟨al,ht.blk hB (by decide) (by decide),hM.keepB (ht.block m hM.lt fun _ cur T fr e=> ?_),M,h1,fun p hp=> ?_,h3⟩
 ·obtain ⟨es,clock,hb,_⟩:=hM
  rw [hb] at e;cases e
 ·obtain ⟨A,c,e1,hf,e2⟩:=h2 p hp
  exact ⟨A,c,e1,ht.far hf,e2⟩
end
section
variable {w w':World} {base g:Nat} {l:List PtA} {A:OA} {c m:Nat} {d:Int} {vi:Value}
theorem Pck.grownB (h:Pck w base g l A c m d vi) {b:Nat} {T:TypeId} {cs:List Value} (hB:Blk w b T cs) (hne:g≠b) (h1:T≠306) (h2:T≠5) (h3:T≠9) (hg:w.grownBy w' (some b)):Pck w' base g l A c m d vi:=
 ⟨h.blk.grown hg (fun e=>hne (by injection e)),h.gb,h.mb,Ze h.parts hB h1 hg,h.map.grown hg (fun e=>by injection e with e;exact h.map.blk_ne hB e.symm),fun x hx=>⟨(h.raws x hx).1.grown hg (Other.blk hB h2 (zL _)),(h.raws x hx).2⟩,by
  rcases h.ids with h4 | ⟨h4,Ai,ci,h5,h6⟩
  ·exact .inl h4
  ·exact .inr ⟨h4,Ai,ci,h5,Ze h6 hB h3 hg⟩⟩
theorem Pck.grownR (h:Pck w base g l A c m d vi) {b n:Nat} {v:Value} {xs:List Value} (ho:w.ownsRow b 9 1 v n xs) (hd: ∀k,vi.ownBlock=some k→v.ownBlock≠some k) (hg:w.grownBy w' v.ownBlock):Pck w' base g l A c m d vi:=
 ⟨h.blk.grown hg (own_ne ho h.blk (by decide)).symm,h.gb,h.mb,h.parts.kept hg (Z3q ho h.parts (by decide)),h.map.grown hg (h.map.own_ne ho).symm,fun x hx=>⟨(h.raws x hx).1.grown hg (Other.own ho (by decide) (zL _)),(h.raws x hx).2⟩,by
  rcases h.ids with h4 | ⟨h4,Ai,ci,h5,h6⟩
  ·exact .inl h4
  ·refine .inr ⟨h4,Ai,ci,h5,h6.kept hg ?_⟩
   subst h5
   cases hv:(Value.slice Ai l.length ci).ownBlock with
   | none=>exact .inl rfl
   | some k=>exact .inr fun e=>hd k hv e.symm⟩
theorem Ze0 (h:Pck w base g l A c m 0 (.slice none 0 0)) (hl:l.length≤4096):Calls Tryz.prog 153 #[.pointer (some ⟨g,0,none⟩)] w fun e w'=>
  (∃Ai ci,e= .returned (.slice Ai l.length ci)∧w'.ownsRow w.heap.size 9 1 (.slice Ai l.length ci) l.length (pc (idsL (ptp l))))∧(∃vi',Pck w' base g l A c m 1 vi'∧ ∀k,vi'.ownBlock=some k→w.heap.size≤k)∧w.grownBy w' (some g):=by
 have hmf: ∀(fn:Fn) (first cap:Array Value) (w:World),(Instr.makeFunc fn first cap).run Tryz.prog w= .ok (.func fn first cap) w:=fun _ _ _ _=>rfl;obtain ⟨v1,hv1⟩: ∃v1,v1=w.alloc (.cells #[.pointer (some ⟨g,0,none⟩)] 139):=⟨_,rfl⟩;have hb1:Below w.heap.size w v1:=by rw [hv1];exact (bR _ _).alloc (lR _) _
 have hP:Blk v1 w.heap.size 139 [.pointer (some ⟨g,0,none⟩)]:=by rw [hv1];exact Blk.new w _ _
 have h1:=h.below hb1;have hgl:=h.blk.lt;have hp1:v1.cell? ⟨w.heap.size,0,none⟩=some (.pointer (some ⟨g,0,none⟩)):=by rw [hP.cell];rfl
 have hs1:v1.heap.size=w.heap.size+1:=by rw [hv1];simp
 have hIL:(idsL (ptp l)).length=l.length:=by rw [Z6F];simp [ptp]
 have HD:=qI (ZgN g 2 205 _ ⟨w.heap.size,0,none⟩ _ v1 h1.blk rfl rfl (Zin h1 hl ⟨w.heap.size,0,none⟩ hp1 (by show w.heap.size≠g;omega) (by show w.heap.size<v1.heap.size;omega)));go_in;go_wp2_with fail;rw [←hv1];refine HD.out.mono ?_;rintro e w4 ⟨rfl,cs',u1,u2,⟨Ai,ci,rfl,ho⟩,hg1,hg2,hB2,hw4⟩;have hg24:u2.grownBy w4 (some g):=by rw [hw4];exact Z0 (Z0 (Z07 (gR _ _)) 2 _) 3 _
 have hB4:Blk w4 g 205 [.slice A l.length c,.map (some m),.int .u32 1,.int .i32 0,.int .u32 0,.slice Ai l.length ci]:=by rw [hw4];exact (hB2.drew.set 2 _).set 3 _
 have hg4:=Za (Za hg1 hg2) hg24;have hsu:v1.heap.size≤u1.heap.size:=hg1.size;have ho4:=Ze ho hB2 (by decide) hg24;have hp4:w4.cell? ⟨w.heap.size,0,none⟩=some (.pointer (some ⟨g,0,none⟩)):=(World.cell?_of_block (hg4.block w.heap.size (by omega) (fun e=>by injection e;omega))).trans hp1;have hgb:=h.gb;have hPk:Pck w4 base g l A c m 1 (.slice Ai l.length ci):=h1.of_cells hg4 hB4 (.inr ⟨rfl,Ai,ci,rfl,ho4.base (by omega)⟩);have k5:w4.cell? ⟨g,5,none⟩=some (.slice Ai l.length ci):=by rw [hB4.cell];rfl
 have HC:=qI (ZaL Ai l.length (idsL (ptp l)) ci w4 hIL (Rd.of_own ho4) (by omega));have hg04:w.grownBy w4 (some g):=Za (Z8 hb1 (some g)) hg4;have hs04:=hg04.size;have hfar: ∀k,(Value.slice Ai l.length ci).ownBlock=some k→w.heap.size≤k:=fun k hk=>by
  have:=(Zs ho4 k hk).1;omega
 clear hw4 hB2 hg24 hg1 hg2 HD;go_wp2_with fail;refine HC.out.mono ?_;rintro e w5 ⟨A5,c5,rfl,ho5,hb5⟩;go_wp2_with fail;go_ret;exact ⟨⟨A5,c5,rfl,ho5.base (by omega)⟩,⟨_,hPk.below hb5,hfar⟩,Z4f hg04 hb5⟩
end
def Z5K (w:World) (base:Nat) (xs:List PkA) (k:Nat) (v:Value):Prop:=
 ∀(j:Nat) (x:PkA),xs[j]?=some x→ ∃d vi,Pck w base x.g x.l x.A x.c x.m d vi∧(∀b,vi.ownBlock=some b→v.ownBlock≠some b)∧(k≤j→d=0∧vi= .slice none 0 0)
def idsF (xs:List PkA):List BA:=xs.flatMap fun x=>idsL (ptp x.l)
def Zk1 (xs:List PkA) (base gp:Nat) (cN cA:Value) (w:World) (i:Value) (wr:World):Prop:=
 ∃(k:Nat) (zs:List BA) (n:Nat) (Ai:OA) (ci:Nat),i= .int .i64 k∧k≤xs.length∧n≤k*4096∧Hid (zs.length=n)∧Blk wr gp 138 [cN,cA,.int .u32 0,.int .i32 1,.int .u32 0,.slice Ai n ci]∧wr.ownsRow w.heap.size 9 1 (.slice Ai n ci) n (sc zs)∧Hid (zs=idsF (xs.take k))∧Hid (Z5K wr base xs k (.slice Ai n ci))∧TwI w wr (gp::xs.map (·.g))
theorem ZfW {xs:List PkA} {k:Nat} {x:PkA} (h:xs[k]?=some x):idsF (xs.take (k+1))=idsF (xs.take k)++idsL (ptp x.l):=by
 unfold idsF;rw [List.take_add_one,h,List.flatMap_append];simp
theorem Zhw {xs:List PkA} (h:(xs.map (·.g)).Nodup) {j k:Nat} {x y:PkA} (hj:xs[j]?=some x) (hk:xs[k]?=some y) (hne:j≠k):x.g≠y.g:=by
 obtain ⟨h1,e1⟩:=List.getElem?_eq_some_iff.1 hj;obtain ⟨h2,e2⟩:=List.getElem?_eq_some_iff.1 hk;have hp:=List.pairwise_iff_getElem.1 h;have l1:j<(xs.map (·.g)).length:=by rw [List.length_map];exact h1
 have l2:k<(xs.map (·.g)).length:=by rw [List.length_map];exact h2
 rcases Nat.lt_or_gt_of_ne hne with hlt | hlt
 ·have:=hp j k l1 l2 hlt
  rw [List.getElem_map,List.getElem_map,e1,e2] at this;exact this
 ·have:=hp k j l2 l1 hlt
  rw [List.getElem_map,List.getElem_map,e1,e2] at this;exact this.symm
theorem Zhx (xs:List PkA):unqU (srtU (idsF xs))=idsK (xs.map PkA.pk):=by
 rw [ZeR];unfold idsK
 congr 1
 refine ZcZ fun z=> ?_;unfold lsS idsF;rw [List.mem_map,List.mem_flatMap];constructor
 ·rintro ⟨y,hy,rfl⟩
  obtain ⟨x,hx,hy⟩:=List.mem_flatMap.1 hy;refine ⟨x.pk,List.mem_map.2 ⟨x,hx,rfl⟩,?_⟩;obtain ⟨q,hq,rfl⟩:=List.mem_map.1 hy;rw [Z2l];exact (Z6o _ _).1 hq
 ·rintro ⟨p,hp,hz⟩
  obtain ⟨x,hx,rfl⟩:=List.mem_map.1 hp;exact ⟨idS z,List.mem_flatMap.2 ⟨x,hx,List.mem_map.2 ⟨z,(Z6o _ _).2 hz,rfl⟩⟩,Z2l z⟩
section
variable {w w':World} {base gp:Nat} {xs:List PkA} {An Aa:OA} {cn ca:Nat}
def Zk2 (xs:List PkA) (base gp:Nat) (cN cA:Value) (cs':List Value) (w1 w2:World):Prop:=
 ∃(zs:List BA) (Ai:OA) (ci:Nat),cs'=[cN,cA,.int .u32 0,.int .i32 1,.int .u32 0,.slice Ai zs.length ci]∧w2.ownsRow w1.heap.size 9 1 (.slice Ai zs.length ci) zs.length (sc zs)∧Hid (zs=idsK (xs.map PkA.pk))∧Z5K w2 base xs xs.length (.slice Ai zs.length ci)∧TwI w1 w2 (gp::xs.map (·.g))
theorem Ze1 (h:Pks w base gp xs An cn Aa ca 0 (.slice none 0 0)) (hz: ∀x∈xs,Pck w base x.g x.l x.A x.c x.m 0 (.slice none 0 0)) (hP:PkOk (xs.map PkA.pk)) (hn:xs.length≤1048576) (pl:Nat) (hpl:Blk w pl 98 [.pointer (some ⟨gp,0,none⟩)]):
  Z7V 152 ⟨pl,0,none⟩ gp 2 138 [.slice An xs.length cn,.slice Aa xs.length ca,.int .u32 0,.int .i32 0,.int .u32 0,.slice none 0 0] (Zk2 xs base gp (.slice An xs.length cn) (.slice Aa xs.length ca)) w:=by
 intro w1 hB hg hs;have hB:Blk w1 gp 138 [.slice An xs.length cn,.slice Aa xs.length ca,.int .u32 0,.int .i32 1,.int .u32 0,.slice none 0 0]:=hB;have hall:=Ze h.all h.blk (by decide) hg;have hL1:Blk w1 pl 98 [.pointer (some ⟨gp,0,none⟩)]:=hpl.grown hg (ZB hpl h.blk (by decide));have hnd:=h.nodup;have hz1:Z5K w1 base xs 0 (.slice none 0 0):=fun j x hx=>by
  have hm:=List.mem_of_getElem? hx;have h9:=hz x hm;refine ⟨0,.slice none 0 0,h9.grownB h.blk (fun e=> ?_) (by decide) (by decide) (by decide) hg,fun b e=>(by cases e),fun _=>⟨rfl,rfl⟩⟩;have h1:=h9.blk;have h2:=h.blk;rw [e] at h1;unfold Blk at h1 h2;rw [h1] at h2;injection h2 with h2
  injection h2 with _ h2
  exact absurd h2 (by decide)
 have HZ:=qI hz1;have HP:=qI hP;have HND:=qI hnd;clear h hz hz1 hP hnd hg hpl;obtain ⟨pv,hpv⟩: ∃pv:Addr,pv=⟨pl,0,none⟩:=⟨_,rfl⟩;have hp1:w1.cell? ⟨pl,0,none⟩=some (.pointer (some ⟨gp,0,none⟩)):=by rw [hL1.cell];rfl
 have k1:w1.cell? ⟨gp,1,none⟩=some (.slice Aa xs.length ca):=by rw [hB.cell];rfl
 clear hpv hs;go_in;go_wp2_with fail;go_loopw [8] (fun i wr=>Zk1 xs base gp (.slice An xs.length cn) (.slice Aa xs.length ca) w1 i wr) (fun i _=>xs.length-(intOf i).toNat)
 case atStart=>exact ⟨0,[],0,none,0,rfl,zL _,zL _,rfl,hB,World.ownsRow_nil _ _ _ _,rfl,HZ,TwI.below (bR _ _)⟩
 case round=>
  clear hB HZ hp1 k1;obtain ⟨k,zs,n,Ai,ci,rfl,hk,hnk,hzl,hBr,hown,hzs,hat,htw⟩:=hrel;have f1:IntKind.i64.wrap ((k:Int)+1)=(k:Int)+1:=qJ _ (by omega);have hLr:=htw.blk hL1 (by decide) (by decide);have hpr:wr.cell? ⟨pl,0,none⟩=some (.pointer (some ⟨gp,0,none⟩)):=by rw [hLr.cell];rfl
  have k5:wr.cell? ⟨gp,5,none⟩=some (.slice Ai n ci):=by rw [hBr.cell];rfl
  have hsr:=htw.size
  by_cases hlt:k<xs.length
  ·have d1:decide ((k:Int)<(xs.length:Int))=true:=dT (by omega)
   have d1':(k:Int)<(xs.length:Int):=by omega
   have hk0:(0:Int)≤(k:Int):=by omega
   obtain ⟨x,hx⟩: ∃x,xs[k]?=some x:=⟨xs[k],gE hlt⟩;obtain ⟨bb,off,rfl,hbb,hcell⟩:=(Rd.of_own (htw.own hall (by decide) (by decide))).at_ (by omega);have q0:wr.cell? ⟨bb,off+k,none⟩=some (.pointer (some ⟨x.g,0,none⟩)):=hcell _ _ (by rw [pkc,List.getElem?_map,hx];rfl);obtain ⟨dx,vx,hpx,_,hdx⟩:=hat.out k x hx;obtain ⟨rfl,rfl⟩:=hdx (lR _);have hxl:x.l.length≤4096:=by
    have:=(HP.out x.pk (List.mem_map.2 ⟨x,List.mem_of_getElem? hx,rfl⟩)).1;simpa [PkA.pk,ptp] using this
   have hxS:x.g∈gp::xs.map (·.g):=List.mem_cons_of_mem _ (List.mem_map.2 ⟨x,List.mem_of_getElem? hx,rfl⟩);have HI:=qI (Ze0 (hpx.below (bR _ _).drew) hxl);have HX:=qI hx;clear hcell hx hdx;go_wp2_with fail;go_upto_region 3 with (fail)
   refine Z2G (S:=fun W=>W.cell? ⟨pl,0,none⟩=some (.pointer (some ⟨gp,0,none⟩))∧W.cell? ⟨gp,5,none⟩=some (.slice Ai n ci)) 10 _ (by kernel_rfl) rfl (by kernel_rfl) rfl rfl ⟨hpr,k5⟩ (fun hHeld=> ?_);simp only [List.setIfInBounds_toArray,List.set_cons_zero,List.set_cons_succ,idle,List.getElem_toArray,List.getElem_cons_succ,List.getElem_cons_zero];refine tk 0 (.pointer (some ⟨gp,0,none⟩)) rfl (fun _ _ _ h=>h) (Or.inl ⟨by rfl,fun w9 hS=> ?_⟩) hHeld ?_
   ·obtain ⟨s0,s1⟩:=hS
    go_simp
   try simp only [Act.put,sA,sB,sC,sD,sF]
   refine tk 1 (.pointer (some ⟨gp,0,none⟩)) rfl (fun _ _ _ h=>h) (Or.inl ⟨by rfl,fun w9 hS=> ?_⟩) hHeld ?_
   ·obtain ⟨s0,s1⟩:=hS
    go_simp
   try simp only [Act.put,sA,sB,sC,sD,sE,sF]
   refine tk 2 (.pointer (some ⟨gp,0,none⟩)) rfl (fun _ _ _ h=>h) (Or.inl ⟨by rfl,fun w9 hS=> ?_⟩) hHeld ?_
   ·obtain ⟨s0,s1⟩:=hS
    go_simp
   try simp only [Act.put,sA,sB,sC,sD,sE,sF]
   refine tk 3 (.pointer (some ⟨gp,5,none⟩)) rfl (fun _ _ _ h=>h) (Or.inl ⟨by rfl,fun w9 hS=> ?_⟩) hHeld ?_
   ·obtain ⟨s0,s1⟩:=hS
    go_simp
   try simp only [Act.put,sA,sB,sC,sD,sE,sF]
   refine tk 4 (.slice Ai n ci) rfl (fun _ _ _ h=>h) (Or.inl ⟨by rfl,fun w9 hS=> ?_⟩) hHeld ?_
   ·obtain ⟨s0,s1⟩:=hS
    go_simp
   try simp only [Act.put,sA,sB,sC,sD,sE,sF]
   refine tk 5 (.pointer (some ⟨x.g,0,none⟩)) rfl (fun _ _ _ h=>h) (Or.inl ⟨by rfl,fun w9 hS=> ?_⟩) hHeld ?_
   ·obtain ⟨s0,s1⟩:=hS
    go_simp
   try simp only [Act.put,sA,sB,sC,sD,sE,sF]
   refine wpAnyH_ready (rs:=[6]) (by kernel_rfl) (by simp) (AllReadyH.cons (o:=_) rfl (fun K hK=> ?_) AllReadyH.nil);go_simp;refine HI.out.mono ?_;rintro e w4 ⟨⟨A4,c4,rfl,ho4⟩,⟨vi,hpk4,hvi⟩,hg4⟩;have hbx:Blk wr.drew x.g 205 [.slice x.A x.l.length x.c,.map (some x.m),.int .u32 0,.int .i32 0,.int .u32 0,.slice none 0 0]:=hpx.blk.drew;have hne4:=ZB hBr.drew hbx (by decide);have hB4:=hBr.drew.grown hg4 hne4;have hL4:=hLr.drew.grown hg4 (ZB hLr.drew hbx (by decide));have hp4:w4.cell? ⟨pl,0,none⟩=some (.pointer (some ⟨gp,0,none⟩)):=by rw [hL4.cell];rfl
   have k54:w4.cell? ⟨gp,5,none⟩=some (.slice Ai n ci):=by rw [hB4.cell];rfl
   have hown4:w4.ownsRow w1.heap.size 9 1 (.slice Ai n ci) n (sc zs):=Ze (w:=wr.drew) hown hbx (by decide) hg4;have htw4:TwI w1 w4 (gp::xs.map (·.g)):=htw.step ((TwI.below ((bR _ _).drew)).step (TwI.grown hbx hxS (.inl rfl) hg4));have hs4:wr.heap.size≤w4.heap.size:=hg4.size;have hat4:Hid (Z5K w4 base xs (k+1) (.slice Ai n ci)):=fun j y hy=>by
    by_cases hjk:j=k
    ·subst hjk
     have e:=hy.symm.trans HX.out;injection e with e
     subst e;refine ⟨1,vi,hpk4,fun b hb e=> ?_,fun h=>absurd h (by omega)⟩;have h1:=hvi b hb;have h2:=(Zs hown b e).2;have h3:wr.drew.heap.size=wr.heap.size:=rfl;omega
    ·obtain ⟨d,v,h1,h2,h3⟩:=hat.out j y hy
     exact ⟨d,v,(h1.below (bR _ _).drew).grownB hbx (Zhw HND.out hy HX.out hjk) (by decide) (by decide) (by decide) hg4,h2,fun h=>h3 (by omega)⟩
   clear hpk4 hvi hat HI;refine hK.out _ _ ⟨hp4,k54⟩ (fun hHeld=> ?_);clear hK K
   try simp only [Act.put,sA,sB,sC,sD,sE,sF]
   refine wpAnyH_ready (rs:=[7]) (by kernel_rfl) (by simp) (AllReadyH.cons (o:=_) rfl (fun K hK=> ?_) AllReadyH.nil);refine Zjr rfl (.tmp 16) (.tmp 18) 38 9 _ 16 rfl Tryz.underlying38 Z2m rfl w1.heap.size (.slice Ai n ci) n (sc zs) rfl hown4 w4.heap.size A4 x.l.length c4 (pc (idsL (ptp x.l))) rfl (Rd.of_own ho4) (ZaK _) (by unfold maxLen;omega) (by omega) (by omega) ?_;intro A6 c6 w6 ho6 hb6 hg6 hl6 _ _;have hB6:=hB4.grown hg6 (own_ne hown4 hB4 (by decide)).symm;have hL6:=hL4.grown hg6 (own_ne hown4 hL4 (by decide)).symm;have hp6:w6.cell? ⟨pl,0,none⟩=some (.pointer (some ⟨gp,0,none⟩)):=by rw [hL6.cell];rfl
   have k56:w6.cell? ⟨gp,5,none⟩=some (.slice Ai n ci):=by rw [hB6.cell];rfl
   have htw6:=htw4.row hg6 (fun b hb=>(Zs hown4 b hb).1);have hat6:Hid (Z5K w6 base xs (k+1) (.slice A6 (n+x.l.length) c6)):=fun j y hy=>by
    obtain ⟨d,v,h1,h2,h3⟩:=hat4.out j y hy;refine ⟨d,v,h1.grownR hown4 h2 hg6,fun b hb e=> ?_,h3⟩;rcases hl6.out with h4 | h4
    ·exact h2 b hb (h4.symm.trans e)
    ·rw [h4] at e
     injection e with e
     have:b<w4.heap.size:=by
      rcases h1.ids with ⟨_,h5⟩ | ⟨_,Aj,cj,h5,h6⟩
      ·rw [h5] at hb
       cases hb
      ·rw [h5] at hb
       exact (Zs h6 b hb).2
     omega
   refine hK.out _ _ ⟨hp6,k56⟩ (fun hHeld=> ?_);clear hK K
   try simp only [Act.put,sA,sB,sC,sD,sE,sF]
   refine tk 8 (.pointer (some ⟨gp,0,none⟩)) rfl (fun _ _ _ h=>h) (Or.inl ⟨by rfl,fun w9 hS=> ?_⟩) hHeld ?_
   ·obtain ⟨s0,s1⟩:=hS
    go_simp
   try simp only [Act.put,sA,sB,sC,sD,sE,sF]
   refine tk 9 (.pointer (some ⟨gp,5,none⟩)) rfl (fun _ _ _ h=>h) (Or.inl ⟨by rfl,fun w9 hS=> ?_⟩) hHeld ?_
   ·obtain ⟨s0,s1⟩:=hS
    go_simp
   try simp only [Act.put,sA,sB,sC,sD,sE,sF]
   refine tk 10 (undef) rfl (fun _ _ _ h=>h) (Or.inl ⟨by rfl,fun w9 hS=> ?_⟩) hHeld ?_
   ·obtain ⟨s0,s1⟩:=hS
    go_simp
   try simp only [Act.put,sD,sE,sF]
   refine wpAnyH_done (by kernel_rfl) ?_ _;have f5:=hB6.free 5;simp only [Z1s];go_simp;have hB7:=hB6.set 5 (.slice A6 (n+x.l.length) c6);have hg7:w6.grownBy (w6.setCell ⟨gp,5,none⟩ (.slice A6 (n+x.l.length) c6)) (some gp):=Z0 (gR _ _) 5 _;have ho7:=Ze ho6 hB6 (by decide) hg7;have htw7:=htw6.step (TwI.grown hB6 (List.mem_cons_self ..) (.inr rfl) hg7);have hat7:Hid (Z5K (w6.setCell ⟨gp,5,none⟩ (.slice A6 (n+x.l.length) c6)) base xs (k+1) (.slice A6 (n+x.l.length) c6)):=fun j y hy=>by
    obtain ⟨d,v,h1,h2,h3⟩:=hat6.out j y hy;refine ⟨d,v,h1.grownB hB6 (fun e=> ?_) (by decide) (by decide) (by decide) hg7,h2,h3⟩;have h4:=ZB h1.blk hB6 (by decide);exact h4 (by rw [e])
   have hzs7:Hid (zs++idsL (ptp x.l)=idsF (xs.take (k+1))):=by
    unfold Hid;rw [ZfW HX.out,←hzs.out]
   have hzl7:Hid ((zs++idsL (ptp x.l)).length=n+x.l.length):=by
    unfold Hid;rw [List.length_append,hzl.out,Z6F];simp [ptp]
   have hsc:sc (zs++idsL (ptp x.l))=sc zs++pc (idsL (ptp x.l)):=by simp [sc,pc]
   rw [←hsc] at ho7;clear hat6 hat4 hzs hzl HX hsc;go_wp2_with fail;exact ⟨⟨k+1,_,n+x.l.length,A6,c6,by go_num,by omega,by omega,hzl7,hB7,ho7,hzs7,hat7,htw7⟩,by simp [intOf];omega⟩
  ·have d1:decide ((k:Int)<(xs.length:Int))=false:=qF (by omega)
   obtain rfl:k=xs.length:=by omega
   have HS:=qI (Z6L hown (by omega));go_wp2_with fail;refine HS.out.mono ?_;rintro e w4 ⟨rfl,ho4,hg4⟩;have hB4:=hBr.grown hg4 (own_ne hown hBr (by decide)).symm;have hL4:=hLr.grown hg4 (own_ne hown hLr (by decide)).symm;have hp4:w4.cell? ⟨pl,0,none⟩=some (.pointer (some ⟨gp,0,none⟩)):=by rw [hL4.cell];rfl
   have k54:w4.cell? ⟨gp,5,none⟩=some (.slice Ai n ci):=by rw [hB4.cell];rfl
   have htw4:=htw.row hg4 (fun b hb=>(Zs hown b hb).1);have hat4:Hid (Z5K w4 base xs xs.length (.slice Ai n ci)):=fun j y hy=>by
    obtain ⟨d,v,h1,h2,h3⟩:=hat.out j y hy;exact ⟨d,v,h1.grownR hown h2 hg4,h2,h3⟩
   have HC:=qI (Z45 (w:=w4.drew) ho4 (by omega));clear HS hat;go_upto_region 6 with (fail)
   refine Z2G (S:=fun W=>W.cell? ⟨pl,0,none⟩=some (.pointer (some ⟨gp,0,none⟩))∧W.cell? ⟨gp,5,none⟩=some (.slice Ai n ci)) 8 _ (by kernel_rfl) rfl (by kernel_rfl) rfl rfl ⟨hp4,k54⟩ (fun hHeld=> ?_);simp only [List.setIfInBounds_toArray,List.set_cons_zero,List.set_cons_succ,idle,List.getElem_toArray,List.getElem_cons_succ,List.getElem_cons_zero];refine tk 0 (.pointer (some ⟨gp,0,none⟩)) rfl (fun _ _ _ h=>h) (Or.inl ⟨by rfl,fun w9 hS=> ?_⟩) hHeld ?_
   ·obtain ⟨s0,s1⟩:=hS
    go_simp
   try simp only [Act.put,sA,sB,sC,sD,sF]
   refine tk 1 (.pointer (some ⟨gp,0,none⟩)) rfl (fun _ _ _ h=>h) (Or.inl ⟨by rfl,fun w9 hS=> ?_⟩) hHeld ?_
   ·obtain ⟨s0,s1⟩:=hS
    go_simp
   try simp only [Act.put,sA,sB,sC,sD,sE,sF]
   refine tk 2 (.pointer (some ⟨gp,0,none⟩)) rfl (fun _ _ _ h=>h) (Or.inl ⟨by rfl,fun w9 hS=> ?_⟩) hHeld ?_
   ·obtain ⟨s0,s1⟩:=hS
    go_simp
   try simp only [Act.put,sA,sB,sC,sD,sE,sF]
   refine tk 3 (.pointer (some ⟨gp,5,none⟩)) rfl (fun _ _ _ h=>h) (Or.inl ⟨by rfl,fun w9 hS=> ?_⟩) hHeld ?_
   ·obtain ⟨s0,s1⟩:=hS
    go_simp
   try simp only [Act.put,sA,sB,sC,sD,sE,sF]
   refine tk 4 (.slice Ai n ci) rfl (fun _ _ _ h=>h) (Or.inl ⟨by rfl,fun w9 hS=> ?_⟩) hHeld ?_
   ·obtain ⟨s0,s1⟩:=hS
    go_simp
   try simp only [Act.put,sA,sB,sC,sD,sE,sF]
   refine wpAnyH_ready (rs:=[5]) (by kernel_rfl) (by simp) (AllReadyH.cons (o:=_) rfl (fun K hK=> ?_) AllReadyH.nil);go_simp;refine HC.out.mono ?_;rintro e w6 ⟨n6,rfl,hn6,hn6l,ho6,hg6⟩;have hB6:=(hB4.drew).grown hg6 (own_ne (w:=w4.drew) ho4 hB4.drew (by decide)).symm;have hL6:=(hL4.drew).grown hg6 (own_ne (w:=w4.drew) ho4 hL4.drew (by decide)).symm;have hp6:w6.cell? ⟨pl,0,none⟩=some (.pointer (some ⟨gp,0,none⟩)):=by rw [hL6.cell];rfl
   have k56:w6.cell? ⟨gp,5,none⟩=some (.slice Ai n ci):=by rw [hB6.cell];rfl
   have htw6:=(htw4.step (TwI.below ((bR _ _).drew))).row hg6 (fun b hb=>(Zs hown b hb).1);have hat6:Hid (Z5K w6 base xs xs.length (.slice Ai n6 ci)):=fun j y hy=>by
    obtain ⟨d,v,h1,h2,h3⟩:=hat4.out j y hy;refine ⟨d,v,(h1.below (bR _ _).drew).grownR (w:=w4.drew) ho4 h2 hg6,fun b hb e=>h2 b hb ?_,h3⟩;rw [←e];cases Ai<;>rfl
   clear hat4 HC;refine hK.out _ _ ⟨hp6,k56⟩ (fun hHeld=> ?_);clear hK K
   try simp only [Act.put,sA,sB,sC,sD,sE,sF]
   refine tk 6 (.pointer (some ⟨gp,0,none⟩)) rfl (fun _ _ _ h=>h) (Or.inl ⟨by rfl,fun w9 hS=> ?_⟩) hHeld ?_
   ·obtain ⟨s0,s1⟩:=hS
    go_simp
   try simp only [Act.put,sA,sB,sC,sD,sE,sF]
   refine tk 7 (.pointer (some ⟨gp,5,none⟩)) rfl (fun _ _ _ h=>h) (Or.inl ⟨by rfl,fun w9 hS=> ?_⟩) hHeld ?_
   ·obtain ⟨s0,s1⟩:=hS
    go_simp
   try simp only [Act.put,sA,sB,sC,sD,sE,sF]
   refine tk 8 (undef) rfl (fun _ _ _ h=>h) (Or.inl ⟨by rfl,fun w9 hS=> ?_⟩) hHeld ?_
   ·obtain ⟨s0,s1⟩:=hS
    go_simp
   try simp only [Act.put,sD,sE,sF]
   refine wpAnyH_done (by kernel_rfl) ?_ _;have f5:=hB6.free 5;simp only [Z1s];go_simp;have hB7:=hB6.set 5 (.slice Ai n6 ci);have hg7:w6.grownBy (w6.setCell ⟨gp,5,none⟩ (.slice Ai n6 ci)) (some gp):=Z0 (gR _ _) 5 _;have ho7:=Ze ho6 hB6 (by decide) hg7;have htw7:=htw6.step (TwI.grown hB6 (List.mem_cons_self ..) (.inr rfl) hg7);have hat7:Z5K (w6.setCell ⟨gp,5,none⟩ (.slice Ai n6 ci)) base xs xs.length (.slice Ai n6 ci):=fun j y hy=>by
    obtain ⟨d,v,h1,h2,h3⟩:=hat6.out j y hy;refine ⟨d,v,h1.grownB hB6 (fun e=> ?_) (by decide) (by decide) (by decide) hg7,h2,h3⟩;have h4:=ZB h1.blk hB6 (by decide);exact h4 (by rw [e])
   have hzk:unqU (srtU zs)=idsK (xs.map PkA.pk):=by rw [hzs.out,List.take_of_length_le (lR _)];exact Zhx xs
   rw [hzk] at ho7 hn6;obtain rfl:n6=(idsK (xs.map PkA.pk)).length:=hn6.out;clear hat6 hzs hzl;go_wp2_with fail;go_end0;exact ⟨rfl,_,hB7,rfl,rfl,_,Ai,ci,rfl,ho7,rfl,hat7,htw7⟩
def Zk3 (w:World) (base gp:Nat) (xs:List PkA) (An:OA) (cn:Nat) (Aa:OA) (ca:Nat) (e:Ending) (w':World):Prop:=
 ∃(zs:List BA) (Ai:OA) (ci:Nat),e= .returned (.slice Ai zs.length ci)∧Hid (zs=idsK (xs.map PkA.pk))∧w'.ownsRow base 9 1 (.slice Ai zs.length ci) zs.length (sc zs)∧Pks w' base gp xs An cn Aa ca 1 (.slice Ai zs.length ci)∧TwI w w' (gp::xs.map (·.g))
end
end Go.Proofs.YtecpbcmpncgokaaGreat
set_option maxRecDepth 100000
set_option maxHeartbeats 1600000
set_option linter.unusedVariables false
namespace Go.Proofs.YtecpbcmpncgokaaGreat
open Go.RowKit Go.Dol
theorem Zf0 (w:World):(sizeOf (Tryz.prog.elem 38)).run Tryz.prog w= .ok 1 w:=by kernel_rfl
theorem ZiO (a b:List BA):sc (a++b)=sc a++sc b:=by simp [sc]
theorem Z7l (k:Nat) (w:World) (hk:k≤8796093022208):
  Calls Tryz.prog 150 #[.slice none 0 0,.int .i64 (k:Nat)] w fun e w'=> ∃(A:OA) (c:Nat),e= .returned (.slice A 0 c)∧w'.ownsRow w.heap.size 9 1 (.slice A 0 c) 0 (sc [])∧Below w.heap.size w w':=by
 have d1:decide ((k:Int)<0)=false:=qF (by omega);have f1:IntKind.i64.wrap ((k:Int)-0)=k:=qJ _ (by omega);rcases Nat.eq_zero_or_pos k with h0 | h0
 ·have hK:=qI h0
  have d2:decide ((k:Int)>0)=false:=qF (by omega);have d2':decide ((0:Int)<(k:Int))=false:=qF (by omega);have d2n:decide (0<k)=false:=qF (by omega);clear h0;go_in;go_wp2_with fail;go_ret;exact ⟨none,0,rfl,World.ownsRow_nil _ _ _ _,bR _ _⟩
 ·have d2:decide ((k:Int)>0)=true:=dT (by omega)
  have d2':decide ((0:Int)<(k:Int))=true:=dT (by omega);have d2n:decide (0<k)=true:=dT h0;obtain ⟨i0,hi,hz0,hz1,hz2⟩:=info_parts Z2m;have hold:(Builtin.firstCells i0.size 0 (.slice none 0 0)).run Tryz.prog w.drew= .ok (#[]:Array Value) w.drew:=by rw [hz1];simp [Builtin.firstCells]
  have hfit:=growslice_fits (need:=0+k) (old:=0) (by omega) (show (0+k)*16≤140737488355328 by omega);have hr:=Lib.run_append_grow_zeros (P:=Tryz.prog) (ty:=38) w 38 3 9 i0 _ .i64 .i64 Tryz.underlying38 Tryz.underlying3 hi hz0 none 0 0 [] hold k h0 (by omega) (by omega) (by omega) (by rw [hz2];omega) (by rw [hz2];exact hfit);have hge:=grownCap_ge w (0+k) 0 9;have hcm:grownCap w (0+k) 0 9≤maxLen:=grownCap_le_maxLen w (0+k) 0 9 (by unfold maxLen;omega);obtain ⟨C,hC⟩: ∃C,C=grownCap w (0+k) 0 9:=⟨_,rfl⟩;rw [←hC] at hr hge hcm;obtain ⟨cs,hcs⟩: ∃cs,cs=(([]:List Value).toArray++Builtin.zeroCells (Value.string ⟨#[]⟩).cells k++Builtin.zeroCells (Value.string ⟨#[]⟩).cells (C-(0+k))):=⟨_,rfl⟩;rw [←hcs] at hr;have hsz:cs.size=C:=by rw [hcs];simp [Builtin.zeroCells,Value.cells];omega
  have hsl:(Instr.sliceAt 38 (.slice (some ⟨w.heap.size,0,none⟩) (0+k) C) none (some (.int .i64 0)) none).run Tryz.prog (w.drew.alloc (.cells cs 9))= .ok (.slice (some ⟨w.heap.size,0,none⟩) 0 C) (w.drew.alloc (.cells cs 9)):=by
   rw [run_sliceAt_slice _ _ _ _ _ _ (by kernel_rfl),run_slice_h _ _ _ _ _ (by kernel_rfl) _ _ (by omega) (by omega),Zf0];simp [sliced,Result.andThen,Addr.add]
  clear hC hcs hold hfit;go_in;go_wp2_with (at_builtin;refine Lib.wpList_append_run w rfl _ _ _ _ rfl _ _ rfl rfl _ _ hr ?_);go_ret;refine ⟨_,_,rfl,⟨by simp [sc],.inr ⟨w.heap.size,C,cs,rfl,lR _,?_,zL _,hcm,by omega,by simp [sc]⟩⟩,((bR _ _).alloc (lR _) _).drew⟩;exact heap_alloc_new w _
def Z9f (ls:List (List BA×OA×Nat)):List Value:=ls.map fun x=> .slice x.2.1 x.1.length x.2.2
def Z1I (ls:List (List BA×OA×Nat)):List BA:=ls.flatMap (·.1)
theorem Z2Y {ls:List (List BA×OA×Nat)} {k:Nat} {x:List BA×OA×Nat} (h:ls[k]?=some x):Z1I (ls.take (k+1))=Z1I (ls.take k)++x.1:=by
 unfold Z1I;rw [List.take_add_one,h,List.flatMap_append];simp
theorem Z5k (ls:List (List BA×OA×Nat)) (k:Nat):(Z1I (ls.take k)).length≤(Z1I ls).length:=by
 unfold Z1I
 conv=>rhs;rw [←List.take_append_drop k ls]
 rw [List.flatMap_append,List.length_append];omega
def ZiP (ls:List (List BA×OA×Nat)) (w:World) (z i:Value) (wr:World):Prop:=∃ k s:Nat,z= .int .i64 s∧i= .int .i64 k∧k≤ls.length∧Hid (s=(Z1I (ls.take k)).length)∧w=wr
def ZhX (ls:List (List BA×OA×Nat)) (w:World) (z i:Value) (wr:World):Prop:=
 ∃(k:Nat) (l1:List BA) (A1:OA) (c1:Nat),z= .slice A1 l1.length c1∧i= .int .i64 k∧k≤ls.length∧wr.ownsRow w.heap.size 9 1 (.slice A1 l1.length c1) l1.length (sc l1)∧Hid (l1=Z1I (ls.take k))∧Below w.heap.size w wr
theorem Z8H (A:OA) (ls:List (List BA×OA×Nat)) (n c:Nat) (hn:n=ls.length) (w:World) (hr:Rd w w.heap.size 1 A n (Z9f ls)) (hl:(Z1I ls).length≤8796093022208) (hnl:n≤8796093022208)
  (hR:Hid (∀x∈ls,Rd w w.heap.size 1 x.2.1 x.1.length (sc x.1))):
  Calls Tryz.prog 81 #[.slice A n c] w (Zeq w (Z1I ls)):=by
 have HN:=qI hn;clear hn;go_in;go_wp2_with fail;go_loopw [3,11] (fun z i wr=>ZiP ls w z i wr) (fun _ i _=>n-(intOf i).toNat)
 case atStart=>exact ⟨0,0,rfl,rfl,zL _,qI rfl,rfl⟩
 case round=>
  obtain ⟨k,s,rfl,rfl,hk,hs,rfl⟩:=hrel;have hkn:k≤n:=by rw [HN.out];exact hk
  have hsl:s≤(Z1I ls).length:=by rw [hs.out];exact Z5k ls k
  by_cases hlt:k<n
  ·have hd:decide ((k:Int)<(n:Int))=true:=dT (by omega)
   obtain ⟨b,off,rfl,hb,hcell⟩:=hr.at_ (by omega);have hlt2:k<ls.length:=by rw [←HN.out];exact hlt
   obtain ⟨x,hx⟩: ∃x,ls[k]?=some x:=⟨ls[k],gE hlt2⟩;obtain ⟨lx,Ax,cx⟩:=x;have hx1:(Z9f ls)[k]?=some (.slice Ax lx.length cx):=by simp [Z9f,hx]
   have k1:=hcell k _ hx1;have hsx:s+lx.length≤(Z1I ls).length:=by
    have h1:=Z5k ls (k+1);rw [Z2Y hx,List.length_append,←hs.out] at h1;exact h1
   have f1:IntKind.i64.wrap ((s:Int)+(lx.length:Int))=((s+lx.length:Nat):Int):=by rw [qJ _ (by omega)];omega
   have d1:decide (((s+lx.length:Nat):Int)<0)=false:=qF (by omega);have HX:=qI hx;clear hx hx1 hcell hr;go_wp2_with fail;refine ⟨⟨k+1,s+lx.length,rfl,by go_num,by omega,qI ?_,rfl⟩,by simp [intOf];omega⟩;rw [Z2Y HX.out,List.length_append,←hs.out]
  ·have hd:decide ((k:Int)<(n:Int))=false:=qF (by omega)
   have hs2:Hid (s=(Z1I ls).length):=by
    have h1:=hs.out;rw [List.take_of_length_le (by rw [←HN.out];omega)] at h1;exact h1
   have hs47:s≤8796093022208:=by omega
   go_wp2_with fail;refine (Z7l s _ (by omega)).mono ?_;rintro e w1 ⟨A1,c1,rfl,ho,hb1⟩;go_wp2_with fail;have hw1:=hb1.size;go_loopw [6,27] (fun z i wr=>ZhX ls w z i wr) (fun _ i _=>n-(intOf i).toNat)
   case atStart=>exact ⟨0,[],A1,c1,rfl,rfl,zL _,ho,qI rfl,hb1⟩
   case round=>
    clear ho hb1;obtain ⟨k',l1,A2,c2,rfl,rfl,hk',ho,hl1,hbl⟩:=hrel;have hkn':k'≤n:=by rw [HN.out];exact hk'
    have hs1:=hbl.size;have hl1l:l1.length≤(Z1I ls).length:=by rw [hl1.out];exact Z5k ls k'
    by_cases hlt:k'<n
    ·have hd:decide ((k':Int)<(n:Int))=true:=dT (by omega)
     have hr2:=hr.belowW hbl (lR _);obtain ⟨b,off,rfl,hb,hcell⟩:=hr2.at_ (by omega);have hlt2:k'<ls.length:=by rw [←HN.out];exact hlt
     obtain ⟨x,hx⟩: ∃x,ls[k']?=some x:=⟨ls[k'],gE hlt2⟩;obtain ⟨lx,Ax,cx⟩:=x;have hx1:(Z9f ls)[k']?=some (.slice Ax lx.length cx):=by simp [Z9f,hx]
     have k1:=hcell k' _ hx1;have hrx:=(hR.out _ (List.mem_of_getElem? hx)).belowW hbl (lR _);have hsx:l1.length+lx.length≤(Z1I ls).length:=by
      have h1:=Z5k ls (k'+1);rw [Z2Y hx,List.length_append,←hl1.out] at h1;exact h1
     have hsx2:l1.length+lx.length≤8796093022208:=by omega
     have HX:=qI hx;clear hx hx1 hcell hr hr2;go_wp2_with (at_builtin;refine ZeX rfl (.tmp 31) (.tmp 32) 38 9 _ 16 rfl Tryz.underlying38 Z2m rfl w.heap.size _ l1.length (sc l1) rfl ho _ Ax lx.length cx (sc lx) rfl hrx (ZaK _) (by unfold maxLen;omega) (by omega) hs1 ?_);intro A' c' w' ho' hb' hg' h1 h2;go_wp2_with fail;refine ⟨⟨k'+1,l1++lx,A',c',by rw [List.length_append],by go_num,by omega,by rw [List.length_append,ZiO];exact ho',qI ?_,hbl.trans hb'⟩,by simp [intOf];omega⟩;rw [Z2Y HX.out,←hl1.out]
    ·have hd:decide ((k':Int)<(n:Int))=false:=qF (by omega)
     go_wp2_with fail;go_ret;refine ⟨l1,A2,c2,qI ?_,rfl,ho,hbl⟩;have h1:=hl1.out;rw [List.take_of_length_le (by rw [←HN.out];omega)] at h1;exact h1
end Go.Proofs.YtecpbcmpncgokaaGreat
set_option maxRecDepth 100000
set_option maxHeartbeats 3200000
set_option linter.unusedVariables false
namespace Go.Proofs.YtecpbcmpncgokaaGreat
open Go.RowKit Go.Dol
def idsS (D:Dk) (P:List Pk):List BA:=unqU (srtU (idsO D++idsK P))
section
variable {w w':World} {base gp gs g m:Nat} {xs:List PkA} {An Aa:OA} {cn ca:Nat} {dn:Int} {vn:Value} {D:Dk}
theorem ZaV (h:Pks w base gp xs An cn Aa ca dn vn) (hP:PkOk (xs.map PkA.pk)) (hn:xs.length≤1048576):Calls Tryz.prog 82 #[.pointer (some ⟨gp,0,none⟩)] w (Zk3 w base gp xs An cn Aa ca):=by
  have hmf: ∀(fn:Fn) (first cap:Array Value) (w:World),(Instr.makeFunc fn first cap).run Tryz.prog w= .ok (.func fn first cap) w:=fun _ _ _ _=>rfl;obtain ⟨v1,hv1⟩: ∃v1,v1=w.alloc (.cells #[.pointer (some ⟨gp,0,none⟩)] 98):=⟨_,rfl⟩;have hb1:Below w.heap.size w v1:=by rw [hv1];exact (bR _ _).alloc (lR _) _
  have hL:Blk v1 w.heap.size 98 [.pointer (some ⟨gp,0,none⟩)]:=by rw [hv1];exact Blk.new w _ _
  have h1:=h.below hb1;have hp1:v1.cell? ⟨w.heap.size,0,none⟩=some (.pointer (some ⟨gp,0,none⟩)):=by rw [hL.cell];rfl
  rcases h.ids with ⟨rfl,rfl⟩ | ⟨rfl,zs,Ai,ci,rfl,hi,hzs⟩
  · have hz: ∀x∈xs,Pck v1 base x.g x.l x.A x.c x.m 0 (.slice none 0 0):=fun x hx=>by
      obtain ⟨d,vi,h2,h3⟩:=h1.packs x hx;obtain ⟨rfl,rfl⟩:=h3 rfl;exact h2
    have HD:=qI (Zft 152 (enters_of Tryz.func152 (by kernel_rfl) rfl) gp 2 138 _ ⟨w.heap.size,0,none⟩ _ v1 h1.blk rfl rfl (Ze1 h1 hz hP hn w.heap.size hL));clear hz;go_in;go_wp2_with fail;rw [←hv1];refine HD.out.mono ?_;rintro e w4 ⟨rfl,cs',u1,u2,⟨zs,Ai,ci,rfl,ho,hzs,hat,htw⟩,hg1,hs1,hB2,hw4⟩;have hg4:u2.grownBy w4 (some gp):=by rw [hw4];exact Z0 (Z0 (Z07 (gR _ _)) 2 _) 3 _
    have hB4:Blk w4 gp 138 [.slice An xs.length cn, .slice Aa xs.length ca, .int .u32 1, .int .i32 0, .int .u32 0, .slice Ai zs.length ci]:=by rw [hw4];exact (hB2.drew.set 2 _).set 3 _
    have hB1:=h1.blk;have hT1:TwI v1 u1 (gp::xs.map (·.g)):=TwI.grown hB1 (List.mem_cons_self ..) (.inr rfl) hg1;have hT4:TwI u2 w4 (gp::xs.map (·.g)):=TwI.grown hB2 (List.mem_cons_self ..) (.inr rfl) hg4;have hT:=(hT1.step htw).step hT4;have hle:=h1.le;have hsz:=hT.size;have ho4:=(Ze ho hB2 (by decide) hg4).base (show base≤u1.heap.size by omega)
    have hPk:Pks w4 base gp xs An cn Aa ca 1 (.slice Ai zs.length ci):=⟨hB4,hT.own h1.names (by decide) (by decide),hT.own h1.all (by decide) (by decide),fun x hx=>by
      obtain ⟨j,hj⟩:=List.getElem?_of_mem hx;obtain ⟨d,vi,h2,_⟩:=hat j x hj
      exact ⟨d,vi,h2.grownB hB2 (fun e=>ZB h2.blk hB2 (by decide) (by rw [e])) (by decide) (by decide) (by decide) hg4,fun e=>by cases e⟩,h.nodup, .inr ⟨rfl,zs,Ai,ci,rfl,ho4,hzs⟩,by omega⟩
    have hL4:=hT.blk hL (by decide) (by decide);have hp4:w4.cell? ⟨w.heap.size,0,none⟩=some (.pointer (some ⟨gp,0,none⟩)):=by rw [hL4.cell];rfl
    have k5:w4.cell? ⟨gp,5,none⟩=some (.slice Ai zs.length ci):=by rw [hB4.cell];rfl
    clear hw4 hB2 hat htw HD hg1 hg4 hB4;go_wp2_with fail;go_ret;exact ⟨zs,Ai,ci,rfl,hzs,ho4,hPk,(TwI.below hb1).step hT⟩
  · have k2:v1.cell? ⟨gp,2,none⟩=some (.int .u32 1):=by rw [h1.blk.cell];rfl
    have k5:v1.cell? ⟨gp,5,none⟩=some (.slice Ai zs.length ci):=by rw [h1.blk.cell];rfl
    have HD:=qI (fun fv=>Zii ⟨gp,2,none⟩ fv v1 k2);have hi1:=Zi hi hb1;go_in;go_wp2_with fail;rw [←hv1];clear hv1;refine (HD.out _).mono ?_;rintro e w4 ⟨rfl,hw⟩;obtain rfl:=hw.symm;go_wp2_with fail;go_ret;exact ⟨zs,Ai,ci,rfl,hzs,hi1,h1,TwI.below hb1⟩
def Ziu (w:World) (gs g m base gp:Nat) (D:Dk) (xs:List PkA) (e:Ending) (w':World):Prop:=
  ∃(ys:List BA) (A:OA) (c:Nat),e= .returned (.slice A ys.length c)∧Hid (ys=idsS D (xs.map PkA.pk))∧w'.ownsRow w.heap.size 9 1 (.slice A ys.length c) ys.length (sc ys)∧Sto w' gs g m base gp D xs∧TwI w w' (gp::xs.map (·.g))
theorem Sto.twI (h:Sto w gs g m base gp D xs) (ht:TwI w w' (gp::xs.map (·.g))) (hp: ∃An cn Aa ca dn vn,Pks w' base gp xs An cn Aa ca dn vn):Sto w' gs g m base gp D xs:=
  ⟨ht.blk h.st (by decide) (by decide),ht.dsk h.dk,h.lt,hp⟩
theorem ZdX (h:Sto w gs g m base gp D xs) (hK:OkW D) (hP:PkOk (xs.map PkA.pk)) (hn:xs.length≤1048576) (hk:(idsK (xs.map PkA.pk)).length≤4398046511104):Calls Tryz.prog 21 #[.pointer (some ⟨gs,0,none⟩)] w (Ziu w gs g m base gp D xs):=by
  have HM:=qI (Z1h h);have hd:=h.dk.drew;have hil:=lT (ZcH D) hK.len;have hst:=h.st.drew;have k0:w.cell? ⟨gs,0,none⟩=some (.pointer (some ⟨g,0,none⟩)):=by rw [h.st.cell];rfl
  have k1:w.cell? ⟨gs,1,none⟩=some (.pointer (some ⟨gp,0,none⟩)):=by rw [h.st.cell];rfl
  have HI:=qI (Z7F hd hK);obtain ⟨An,cn,Aa,ca,dn,vn,hp⟩:=h.pks;have hp:Pks w.drew base gp xs An cn Aa ca dn vn:=hp.below (bR _ _).drew;have HS:=qI h;clear h;go_in;go_wp2_with fail;refine HM.out.mono ?_;rintro e w0 ⟨rfl,hw0⟩;obtain rfl:=hw0.symm;clear HM;go_wp2_with fail
  go_region_held3 (fun w'=>w'.cell? ⟨gs,0,none⟩=some (.pointer (some ⟨g,0,none⟩))∧w'.cell? ⟨gs,1,none⟩=some (.pointer (some ⟨gp,0,none⟩))) (first | go_keep | assumption)
    (first
      | (go_at_call 46;(with_reducible refine HI.out.mono ?_);rintro e w1 ⟨ys,A1,c1,hys,rfl,ho1,hb1⟩
         have hst1:=hst.below hb1 hst.lt;have k01:w1.cell? ⟨gs,0,none⟩=some (.pointer (some ⟨g,0,none⟩)):=by rw [hst1.cell];rfl
         have k11:w1.cell? ⟨gs,1,none⟩=some (.pointer (some ⟨gp,0,none⟩)):=by rw [hst1.cell];rfl
         have HSd:=qI (ZaV (hp.below hb1) hP hn)
         have hyl:ys.length≤3518437208880:=by rw [hys.out];exact hil)
      | (go_at_call 82;(with_reducible refine HSd.out.mono ?_);rintro e w2 ⟨zs,A2,c2,rfl,hzs,ho2,hp2,ht2⟩
         have hst2:=ht2.blk hst1 (by decide) (by decide);have k02:w2.cell? ⟨gs,0,none⟩=some (.pointer (some ⟨g,0,none⟩)):=by rw [hst2.cell];rfl
         have k12:w2.cell? ⟨gs,1,none⟩=some (.pointer (some ⟨gp,0,none⟩)):=by rw [hst2.cell];rfl
         have hb3:Below w2.heap.size w2 (w2.alloc (.cells #[.slice A1 ys.length c1, .slice A2 zs.length c2] 38)):=(bR _ _).alloc (lR _) _;have hst3:=hst2.below hb3 hst2.lt;have k03:(w2.alloc (.cells #[.slice A1 ys.length c1, .slice A2 zs.length c2] 38)).cell? ⟨gs,0,none⟩=some (.pointer (some ⟨g,0,none⟩)):=by rw [hst3.cell];rfl
         have k13:(w2.alloc (.cells #[.slice A1 ys.length c1, .slice A2 zs.length c2] 38)).cell? ⟨gs,1,none⟩=some (.pointer (some ⟨gp,0,none⟩)):=by rw [hst3.cell];rfl
         have hzl:zs.length≤4398046511104:=by rw [hzs.out];exact hk
         have hrr:Rd (w2.alloc (.cells #[.slice A1 ys.length c1, .slice A2 zs.length c2] 38)) (w2.alloc (.cells #[.slice A1 ys.length c1, .slice A2 zs.length c2] 38)).heap.size 1 (some ⟨w2.heap.size,0,none⟩) 2 (Z9f [(ys,A1,c1),(zs,A2,c2)]):=(Rd.new2v w2 38 (.slice A1 ys.length c1) (.slice A2 zs.length c2)).more (by simp)
         have HC:=qI (Z8H (some ⟨w2.heap.size,0,none⟩) [(ys,A1,c1),(zs,A2,c2)] 2 2 rfl _ hrr (by simp [Z1I];omega) (by decide) (qI (fun x hx=>by
           rcases List.mem_cons.1 hx with rfl | hx
           · exact ((Rd.of_own (ht2.own ho1 (by decide) (by decide))).below hb3).more hb3.size
           · obtain rfl:=List.mem_singleton.1 hx
             exact ((Rd.of_own ho2).below hb3).more hb3.size))))
      | (go_at_call 81;(with_reducible refine HC.out.mono ?_);rintro e w4 ⟨us,A4,c4,hus,rfl,ho4,hb4⟩
         have hst4:=hst3.below hb4 hst3.lt;have k04:w4.cell? ⟨gs,0,none⟩=some (.pointer (some ⟨g,0,none⟩)):=by rw [hst4.cell];rfl
         have k14:w4.cell? ⟨gs,1,none⟩=some (.pointer (some ⟨gp,0,none⟩)):=by rw [hst4.cell];rfl))
  obtain ⟨W3,hW3⟩: ∃W3,W3=w2.alloc (.cells #[.slice A1 ys.length c1, .slice A2 zs.length c2] 38):=⟨_,rfl⟩;rw [←hW3] at hb3 ho4 hb4;have hT3:TwI w W3 (gp::xs.map (·.g)):=((TwI.below ((bR _ _).drew)).step (TwI.below hb1)).step (ht2.step (TwI.below hb3));have hp3:=hp2.below hb3;have hu2:us=ys++zs:=by rw [hus.out];simp [Z1I]
  have hul:us.length≤8796093022208:=by rw [hu2,List.length_append];omega
  have HSr:=qI (Z6L ho4 hul);have HU:Hid (unqU (srtU us)=idsS D (xs.map PkA.pk)):=by
    unfold Hid;rw [hu2,hys.out,hzs.out]
    rfl
  clear hu2 hus HC hrr hys hzs HSd HI hW3;go_wp2_with fail;refine HSr.out.mono ?_;rintro e w5 ⟨rfl,ho5,hg5⟩;have HCm:=qI (Z45 ho5 hul);go_wp2_with fail;refine HCm.out.mono ?_;rintro e w6 ⟨k6,rfl,hk6,hk6l,ho6,hg6⟩;have hb35:Below W3.heap.size W3 w5:=hb4.grown hg5 hb4.size (fun k hk=>(Zs ho4 k hk).1);have hb36:Below W3.heap.size W3 w6:=hb35.grown hg6 hb35.size (fun k hk=>(Zs ho5 k hk).1);have hT6:=hT3.step (TwI.below hb36);rw [HU.out] at hk6 ho6;obtain rfl:k6=(idsS D (xs.map PkA.pk)).length:=hk6.out;go_wp2_with fail;go_ret;exact ⟨_,A4,c4,rfl,rfl,ho6.base hT3.size,Sto.twI HS.out hT6 ⟨An,cn,Aa,ca,1,_,hp3.below hb36⟩,hT6⟩
end
end Go.Proofs.YtecpbcmpncgokaaGreat
