/- The layer 'store': what the turning of one store's packs leaves of another store; a walk over ids that are kept. Conditions: none. Texts put in order one by one, in plain Lean. No program is in sight. Conditions: none beyond what each lemma names. The walk of the document's Sorted. Conditions: fewer than 2^39 texts. The walk of the law StoreRepacks. Conditions: objects that read. -/
import Derived.Test.YtecpbcmpncgokaaGreatStoAdd
import Derived.Test.YtecpbcmpncgokaaGreatShort
import Derived.Test.YtecpbcmpncgokaaGreatDisk2
import Derived.Test.YtecpbcmpncgokaaGreatObjA
import Derived.Test.YtecpbcmpncgokaaGreatWordsA
import Derived.BigQuiet
set_option linter.unusedVariables false
namespace Go.Proofs.YtecpbcmpncgokaaGreat
open Go.RowKit Go.Dol
section
variable {w w':World} {base gp gs g m:Nat} {xs:List PkA} {D:Dk} {S:List Nat}
theorem Pck.twI {b:Nat} {l:List PtA} {A:OA} {c mp:Nat} {d:Int} {vi:Value} (h:Pck w base b l A c mp d vi) (ht:TwI w w' S) (hS:b∉S):Pck w' base b l A c mp d vi:=
 ⟨h.blk.keepB (ht.block b h.blk.lt fun hm=>absurd hm hS),h.gb,h.mb,ht.own h.parts (by decide) (by decide),h.map.keepB (ht.block mp h.map.lt fun _ cur T fr e=>by obtain ⟨es,clock,hb,_⟩:=h.map;rw [hb] at e;cases e),
  fun x hx=>⟨⟨ht.far (h.raws x hx).1.1,(h.raws x hx).1.2⟩,(h.raws x hx).2⟩,by
  rcases h.ids with h4 | ⟨h4,Ai,ci,h5,h6⟩
  ·exact .inl h4
  ·exact .inr ⟨h4,Ai,ci,h5,ht.own h6 (by decide) (by decide)⟩⟩
theorem Sto.twO (h:Sto w gs g m base gp D xs) (ht:TwI w w' S) (hS: ∀i∈gp::xs.map (·.g),i∉S):Sto w' gs g m base gp D xs:=by
 obtain ⟨An,cn,Aa,ca,dn,vn,hp⟩:=h.pks
 exact ⟨ht.blk h.st (by decide) (by decide),ht.dsk h.dk,h.lt,An,cn,Aa,ca,dn,vn,hp.blk.keepB (ht.block gp hp.blk.lt fun hm=>absurd hm (hS gp (List.mem_cons_self ..))),ht.own hp.names (by decide) (by decide),ht.own hp.all (by decide) (by decide),fun x hx=>by
  obtain ⟨d,vi,h1,h2⟩:=hp.packs x hx;exact ⟨d,vi,h1.twI ht (hS _ (List.mem_cons_of_mem _ (List.mem_map.2 ⟨x,hx,rfl⟩))),h2⟩,hp.nodup,by
  rcases hp.ids with h5 | ⟨h5,zs,Ai,ci,h6,h7,h8⟩
  ·exact .inl h5
  ·exact .inr ⟨h5,zs,Ai,ci,h6,ht.own h7 (by decide) (by decide),h8⟩,lT hp.le ht.size⟩
theorem Sto.memLt (h:Sto w gs g m base gp D xs): ∀i∈gp::xs.map (·.g),i<w.heap.size:=fun i hi=>by
 obtain ⟨An,cn,Aa,ca,dn,vn,hp⟩:=h.pks;rcases List.mem_cons.1 hi with rfl | hi
 ·exact hp.blk.lt
 ·obtain ⟨x,hx,rfl⟩:=List.mem_map.1 hi
  obtain ⟨d,vi,hk,_⟩:=hp.packs x hx;exact hk.blk.lt
end
theorem Zis (ks:List (LU)) (b:LU):(pkF ks b).length=if ks.length=0 then 0 else 1:=by
 unfold pkF;cases ks<;>rfl
theorem Zb8 {D:Dk} {os ks:List (LU)} (h:Just D os) (hc:D.cap=1099511627776) (ho:os.length≤20) (hk:ks.Sublist os):
  ∃b D',repQ geS D [] (Z0A geS D [] (ks.map idO))=((0,D'),pkP ks b)∧Packed D' ks b∧D'.cap=1099511627776∧(ks.map idO).Nodup∧b.length≤42000000:=by
 have hn:(ks.map idO).Nodup:=h.nodup.sublist (hk.map idO);have hm: ∀r∈ks,r∈os:=fun r hr=>hk.subset hr;have hl:=hk.length_le;obtain ⟨b,hb⟩:=Z6e (fun r hr=>h.objs r (hm r hr)) hn (by omega);have hbl:=Z8c (M:=2097152) (lR _) (fun r hr=>Z0F r (h.objs r (hm r hr))) hb;have hroom:=h.room;have h5:ks.length*(2097152+64)≤20*(2097152+64):=Nat.mul_le_mul_right _ (by omega);obtain ⟨D',e,hp,hcap⟩:=Z6L h hm hn hb (fun _=>by omega);exact ⟨b,D',e,hp,hcap.trans hc,hn,by omega⟩
theorem Zit {ks:List (LU)} {b:LU} (h:(ks.map ZA).Nodup):(idsK (pkP ks b)).length=ks.length:=by
 unfold idsK pkP
 by_cases h0:ks=[]
 ·rw [if_pos h0,h0,List.length_map,List.flatMap_nil,Z0l List.nodup_nil]
 ·rw [if_neg h0]
  simp only [List.flatMap_cons,List.flatMap_nil,List.append_nil];rw [Z4z,List.length_map,Z0l h,List.length_map]
end Go.Proofs.YtecpbcmpncgokaaGreat
set_option linter.unusedVariables false
namespace Go.Dol
def Strict (l:List BA):Prop:=l.Pairwise fun a b=>sLt a b=true
theorem Strict.tail {x:BA} {l:List BA} (h:Strict (x::l)):Strict l:=(List.pairwise_cons.1 h).2
theorem Strict.same {l m:List BA} (hl:Strict l) (hm:Strict m) (h: ∀x,x∈l↔x∈m):l=m:=by
 induction l generalizing m with
 | nil=>
  cases m with
  | nil=>rfl
  | cons g s=>exact absurd ((h g).2 (List.mem_cons_self ..)) List.not_mem_nil
 | cons f r ih=>
  cases m with
  | nil=>exact absurd ((h f).1 (List.mem_cons_self ..)) List.not_mem_nil
  | cons g s=>
   have h1:=(List.pairwise_cons.1 hl).1;have h2:=(List.pairwise_cons.1 hm).1;have hfg:f=g:=by
    rcases List.mem_cons.1 ((h f).1 (List.mem_cons_self ..)) with e | hs
    ·exact e
    ·rcases List.mem_cons.1 ((h g).2 (List.mem_cons_self ..)) with e | hr
     ·exact e.symm
     ·have a:=h2 f hs
      have b:=h1 g hr;rw [Z9i a] at b;cases b
   subst hfg;rw [ih hl.tail hm.tail fun x=>⟨fun hx=> ?_,fun hx=> ?_⟩]
   ·rcases List.mem_cons.1 ((h x).1 (List.mem_cons_of_mem _ hx)) with e | hs
    ·rw [e] at hx
     have:=h1 f hx;rw [Z35] at this;cases this
    ·exact hs
   ·rcases List.mem_cons.1 ((h x).2 (List.mem_cons_of_mem _ hx)) with e | hr
    ·rw [e] at hx
     have:=h2 f hx;rw [Z35] at this;cases this
    ·exact hr
def posS:List BA→BA→Nat
 | [],_=>0
 | y::r,x=>if sLt y x=true then posS r x+1 else 0
def insS (l:List BA) (x:BA):List BA:=l.take (posS l x)++x::l.drop (posS l x)
theorem Zig (l:List BA) (x:BA):posS l x≤l.length:=by
 induction l with
 | nil=>exact lR _
 | cons y r ih=>unfold posS;split<;>simp;omega
theorem Z87 (l:List BA) (x y:BA):y∈insS l x↔y=x∨y∈l:=by
 unfold insS;rw [List.mem_append,List.mem_cons];have h:y∈l↔y∈l.take (posS l x)∨y∈l.drop (posS l x):=by rw [←List.mem_append,List.take_append_drop]
 rw [h];constructor
 ·rintro (h | h | h)
  ·exact .inr (.inl h)
  ·exact .inl h
  ·exact .inr (.inr h)
 ·rintro (h | h | h)
  ·exact .inr (.inl h)
  ·exact .inl h
  ·exact .inr (.inr h)
theorem Zfy (y:BA) (r:List BA) (x:BA):insS (y::r) x=if sLt y x=true then y::insS r x else x::y::r:=by
 have e:posS (y::r) x=if sLt y x=true then posS r x+1 else 0:=rfl
 unfold insS;rw [e];split<;>simp
theorem ZcC {l:List BA} (h:Strict l) {x:BA} (hx:x∉l):Strict (insS l x):=by
 induction l with
 | nil=>exact List.pairwise_singleton ..
 | cons y r ih=>
  rw [Zfy];have hxy:y≠x:=fun e=>hx (by rw [e];exact List.mem_cons_self ..);have h1:=(List.pairwise_cons.1 h).1;split
  ·rename_i hlt
   refine List.pairwise_cons.2 ⟨fun z hz=> ?_,ih h.tail fun hm=>hx (List.mem_cons_of_mem _ hm)⟩;rcases (Z87 r x z).1 hz with e | hz
   ·rw [e];exact hlt
   ·exact h1 z hz
  ·rename_i hlt
   have hgt:sLt x y=true:=Z9h (by simpa using hlt) hxy;refine List.pairwise_cons.2 ⟨fun z hz=> ?_,h⟩;rcases List.mem_cons.1 hz with e | hz
   ·rw [e];exact hgt
   ·exact Z5Q hgt (h1 z hz)
def srtS (l:List BA):List BA:=l.foldl insS []
theorem Zfz (l:List BA) (x:BA):srtS (l++[x])=insS (srtS l) x:=by
 unfold srtS;rw [List.foldl_append]
 rfl
theorem Zh9 (l:List BA): ∀acc,Strict acc→l.Nodup→(∀x∈l,x∉acc)→Strict (l.foldl insS acc)∧ ∀x,x∈l.foldl insS acc↔x∈acc∨x∈l:=by
 induction l with
 | nil=>intro acc h _ _;exact ⟨h,fun x=>by simp⟩
 | cons y r ih=>
  intro acc h hn hd;obtain ⟨h1,h2⟩:=List.nodup_cons.1 hn;obtain ⟨a,b⟩:=ih (insS acc y) (ZcC h (hd y (List.mem_cons_self ..))) h2 fun x hx hm=>by
   rcases (Z87 acc y x).1 hm with e | hm
   ·exact h1 (by rw [←e];exact hx)
   ·exact hd x (List.mem_cons_of_mem _ hx) hm
  refine ⟨a,fun x=> ?_⟩;rw [List.foldl_cons,b x,Z87,List.mem_cons];constructor
  ·rintro ((h | h) | h)
   ·exact .inr (.inl h)
   ·exact .inl h
   ·exact .inr (.inr h)
  ·rintro (h | h | h)
   ·exact .inl (.inr h)
   ·exact .inl (.inl h)
   ·exact .inr h
theorem Zih {l:List BA} (hn:l.Nodup):Strict (srtS l)∧ ∀x,x∈srtS l↔x∈l:=by
 obtain ⟨a,b⟩:=Zh9 l [] List.Pairwise.nil hn fun x _ h=>List.not_mem_nil h;exact ⟨a,fun x=>(b x).trans (by simp)⟩
theorem Zii {l:List BA} {x:BA} {j:Nat} (h:j<posS l x): ∃y,l[j]?=some y∧sLt y x=true:=by
 induction l generalizing j with
 | nil=>simp [posS] at h
 | cons y r ih=>
  have e:posS (y::r) x=if sLt y x=true then posS r x+1 else 0:=rfl
  rw [e] at h;split at h
  ·rename_i hlt
   cases j with
   | zero=>exact ⟨y,rfl,hlt⟩
   | succ j=>exact ih (by omega)
  ·omega
theorem Zij {l:List BA} {x y:BA} (h:l[posS l x]?=some y):sLt y x=false:=by
 induction l with
 | nil=>cases h
 | cons z r ih=>
  have e:posS (z::r) x=if sLt z x=true then posS r x+1 else 0:=rfl
  rw [e] at h;split at h
  ·exact ih (by simpa using h)
  ·rename_i hlt
   have:z=y:=by simpa using h
   rw [←this];simpa using hlt
end Go.Dol
set_option linter.unusedVariables false
namespace Go.Proofs.YtecpbcmpncgokaaGreat
open Go.RowKit Go.Dol
theorem Z6d:(Tryz.prog.info? 9).map (fun i=>(i.zero,i.size,i.bytes))=some (some (.string ⟨#[]⟩),1,16):=by kernel_rfl
theorem Z86 (a b:List BA):pc (a++b)=pc a++pc b:=by simp [pc]
theorem ZeD (l:List BA): ∀u∈pc l,u.oneCell'=true:=by
 intro u hu;obtain ⟨x,_,rfl⟩:=List.mem_map.1 hu
 rfl
theorem ZeE (l:List BA) (k:Nat):(pc l).drop k=pc (l.drop k):=by simp [pc]
theorem ZaT (l:List BA) (k:Nat):(pc l).take k=pc (l.take k):=by simp [pc]
theorem ZcB (w:World):(sizeOf (Tryz.prog.elem 38)).run Tryz.prog w= .ok 1 w:=by kernel_rfl
section
variable {w:World} {B:Nat} {A:OA} {l:List BA} {c k:Nat}
theorem Zh7 (kI:Int) (hkI:kI=(k:Nat)) (hr:Rd w B 1 A l.length (pc l)) (hk:k≤l.length) (hc:l.length≤c) (hc2:c≤maxLen):
  ∃(m:List BA) (A':OA) (c':Nat),Hid (m=l.drop k)∧m.length+k≤l.length∧l.length≤m.length+k∧Rd w B 1 A' m.length (pc m)∧c'+k=c∧Z8 A'=Z8 A∧Hid (∀w0 base,Seg w0 base 9 1 A l.length c (pc l)→Seg w0 base 9 1 A' m.length c' (pc m))∧
   ∀w':World,(Instr.sliceAt 38 (.slice A l.length c) (some (.int .i64 kI)) none none).run Tryz.prog w'= .ok (.slice A' m.length c') w':=by
 subst hkI;have h:=hr.cut (lo:=k) (hi:=l.length) (cap:=c) hk (lR _) hc;have htk:(l.drop k).take (l.length-k)=l.drop k:=List.take_of_length_le (by rw [List.length_drop];exact lR _);rw [Nat.mul_one,Nat.mul_one,ZeE,ZaT,htk] at h;have hlen:(l.drop k).length=l.length-k:=List.length_drop;refine ⟨l.drop k,_,c-k,rfl,by omega,by omega,by rw [hlen];exact h,by omega,?_,?_,fun w'=> ?_⟩
 ·split
  ·rfl
  ·exact Z27 A k
 ·intro w0 base hs
  have:=hs.cut (lo:=k) (hi:=l.length) hk (lR _);rw [Nat.mul_one,Nat.mul_one,ZeE,ZaT,htk] at this;rw [hlen];exact this
 ·rw [run_sliceAt_slice _ _ _ _ _ _ (by kernel_rfl),run_slice_l _ _ _ _ _ (by kernel_rfl) _ _ (by omega) (by omega),ZcB,hlen]
  simp [sliced,Result.andThen]
theorem Zjg (kI:Int) (hkI:kI=(k:Nat)) (hr:Rd w B 1 A l.length (pc l)) (hk:k≤l.length) (hc:l.length≤c) (hc2:c≤maxLen):
  ∃m:List BA,Hid (m=l.take k)∧m.length≤k∧k≤m.length∧Rd w B 1 A m.length (pc m)∧
   ∀w':World,(Instr.sliceAt 38 (.slice A l.length c) none (some (.int .i64 kI)) none).run Tryz.prog w'= .ok (.slice A m.length c) w':=by
 subst hkI;have hlen:(l.take k).length=k:=by rw [List.length_take];omega
 have h:=hr.cut (lo:=0) (hi:=k) (cap:=c) (zL _) hk hc;simp only [Nat.mul_one,ZaT,List.drop_zero,Nat.sub_zero] at h;refine ⟨l.take k,rfl,by omega,by omega,?_,fun w'=> ?_⟩
 ·rw [hlen]
  split at h
  ·exact h
  ·have e:A.map (·.add 0)=A:=by cases A with | none=>rfl | some a=>simp [Addr.add]
   rw [e] at h;exact h
 ·rw [run_sliceAt_slice _ _ _ _ _ _ (by kernel_rfl),run_slice_h _ _ _ _ _ (by kernel_rfl) _ _ (by omega) (by omega),ZcB,hlen]
  cases A<;>simp [sliced,Result.andThen,Addr.add]
end
theorem Zh8 (x y:LU):Op.bytesLess x y=decide (x<y):=by
 induction x generalizing y with
 | nil=>
  cases y with
  | nil=>rfl
  | cons b y=>simp [Op.bytesLess]
 | cons a x ih=>
  cases y with
  | nil=>simp [Op.bytesLess]
  | cons b y=>
   simp only [Op.bytesLess,ih,List.cons_lt_cons_iff]
   by_cases h1:a<b<;>by_cases h2:a=b<;>simp [h1,h2]
theorem Z9O (a b:BA):Op.bytesLess a.toList b.toList=sLt a b:=by
 rw [ByteArray.toList_eq,ByteArray.toList_eq,Zh8]
 rfl
theorem Z6H {B:Nat} {w w':World} (h:Below B w w') (n:Nat):Below B w (w'.drewN n):=⟨h.os,h.tape,h.output,h.size,h.block⟩
def SoIn (ys:List BA) (x:BA) (wr:World) (p:Value) (wq:World):Prop:=
 ∃j q:Nat,p= .int .i64 j∧j≤posS ys x∧Hid (wq=wr.drewN q)
def ZjL (l:List BA) (w:World) (q i:Value) (wr:World):Prop:=
 ∃(k:Nat) (ys:List BA) (A:OA) (c:Nat),q= .slice A ys.length c∧i= .int .i64 k∧k≤l.length∧Hid (ys=srtS (l.take k))∧ys.length=k∧wr.ownsRow w.heap.size 9 1 (.slice A ys.length c) ys.length (pc ys)∧Below w.heap.size w wr
set_option maxRecDepth 100000 in
set_option maxHeartbeats 1600000 in
theorem Z70 (A:OA) (l:List BA) (c:Nat) (w:World) (hr:Rd w w.heap.size 1 A l.length (pc l)) (hl:l.length≤549755813888):
  Calls Tryz.prog 60 #[.slice A l.length c] w fun e w'=> ∃(ys:List BA) (A':OA) (c':Nat),e= .returned (.slice A' ys.length c')∧Hid (ys=srtS l)∧w'.ownsRow w.heap.size 9 1 (.slice A' ys.length c') ys.length (pc ys)∧Below w.heap.size w w':=by
 go_in;go_wp2_with fail;go_loopw [3,4] (fun q i wr=>ZjL l w q i wr) (fun _ i _=>l.length-(intOf i).toNat)
 case atStart=>exact ⟨0,[],none,0,rfl,rfl,zL _,rfl,rfl,World.ownsRow_nil _ _ _ _,bR _ _⟩
 case round=>
  obtain ⟨k,ys,A5,c5,rfl,rfl,hk,hy,hyl,ho,hb⟩:=hrel;have hs:=hb.size;have HYL:=qI hyl;have hyb:ys.length≤549755813888:=by omega
  clear hyl;have f1:IntKind.i64.wrap ((k:Int)+1)=(k:Int)+1:=qJ _ (by omega)
  by_cases hlt:k<l.length
  ·have hd:decide ((k:Int)<(l.length:Int))=true:=dT (by omega)
   have hd':(k:Int)<(l.length:Int):=by omega
   have hk0:(0:Int)≤(k:Int):=by omega
   obtain ⟨x,hx⟩: ∃x,l[k]?=some x:=⟨l[k],gE hlt⟩;have hnext:l.take (k+1)=l.take k++[x]:=by rw [List.take_add_one,hx];rfl
   have HX:=qI hnext;have HXk:=qI hx;clear hnext hx;obtain ⟨v0,hv0⟩: ∃v,v=wr:=⟨_,rfl⟩;subst hv0;go_wp2_with fail;go_loopw [5] (fun p wq=>SoIn ys x v0 p wq) (fun p _=>ys.length+1-(intOf p).toNat)
   case atStart=>exact ⟨0,0,rfl,zL _,rfl⟩
   case round=>
    obtain ⟨j,q,rfl,hj,hq⟩:=hrel;have hjl:=Zig ys x;have f2:IntKind.i64.wrap ((j:Int)+1)=(j:Int)+1:=qJ _ (by omega);have hrW:Rd wr w.heap.size 1 A l.length (pc l):=by rw [hq.out];exact (hr.belowW hb (lR _)).drewN q
    have hoR:wr.ownsRow w.heap.size 9 1 (.slice A5 ys.length c5) ys.length (pc ys):=by rw [hq.out];exact ho
    have hrY:=Rd.of_own hoR;obtain ⟨bl,ol,rfl,hbl,hcl⟩:=hrW.at_ (by omega);have cx:wr.cell? ⟨bl,ol+k,none⟩=some (.string x):=hcl k _ (by rw [Z2C hlt];have h:=HXk.out;rw [gE hlt] at h;injection h with h;rw [h]);clear hcl hrW hr;have hcap:=(Z4i hoR)
    by_cases hlt2:j<posS ys x
    ·have hjy:j<ys.length:=by omega
     have d1:decide ((j:Int)<(ys.length:Int))=true:=dT (by omega);have d1n:decide (j<ys.length)=true:=dT hjy;have d1':(j:Int)<(ys.length:Int):=by omega
     have hj0:(0:Int)≤(j:Int):=by omega
     obtain ⟨bb,off,rfl,hbb,hcell⟩:=hrY.at_ (by omega);obtain ⟨y,hyj,hyl⟩:=Zii hlt2;have cy:wr.cell? ⟨bb,off+j,none⟩=some (.string y):=hcell j _ (by rw [Z2C hjy];rw [gE hjy] at hyj;injection hyj with h;rw [h]);have g2:Op.bytesLess y.toList x.toList=true:=by rw [Z9O];exact hyl
     clear hcell hyj hyl;go_wp2_with fail;go_quiet (fail);go_wp2_with fail;exact ⟨⟨j+1,q+nq,by go_num,by omega,by unfold Hid;rw [hq.out,World.drewN_drewN]⟩,by simp [intOf];omega⟩
    ·have hje:j=posS ys x:=by omega
     obtain ⟨m1,hm1,hm1a,hm1b,hR1,hS1⟩:=Zjg (w:=wr) (k:=j) (j:Int) rfl hrY (by omega) hcap.1 hcap.2;obtain ⟨m2,A2,c2,hm2,hm2a,hm2b,hR2,hc2,_,_,hS2⟩:=Zh7 (w:=wr) (k:=j) (j:Int) rfl hrY (by omega) hcap.1 hcap.2;have HZ:Hid (m1++[x]++m2=srtS (l.take (k+1))):=by
      unfold Hid;rw [HX.out,Zfz,←hy.out,hm1.out,hm2.out,hje];unfold insS;simp
     have ml1:m1.length≤549755813888:=by omega
     have ml2:m2.length≤549755813888:=by omega
     have hsr:w.heap.size≤wr.heap.size:=by rw [hq.out];exact hs
     have hbr:Below w.heap.size w wr:=by rw [hq.out];exact Z6H hb q
     have HL:Hid (m1.length+1+m2.length=k+1):=by unfold Hid;have:=HYL.out;omega
     have hga:(∃y bb off,A5=some ⟨bb,off,none⟩∧decide ((j:Int)<(ys.length:Int))=true∧decide (j<ys.length)=true∧(j:Int)<(ys.length:Int)∧wr.cell? ⟨bb,off+j,none⟩=some (.string y)∧Op.bytesLess y.toList x.toList=false)∨(decide ((j:Int)<(ys.length:Int))=false∧decide (j<ys.length)=false):=by
      by_cases hjy:j<ys.length
      ·obtain ⟨bb,off,hA,_,hcell⟩:=hrY.at_ (by omega)
       refine .inl ⟨ys[j],bb,off,hA,dT (by omega),dT hjy,by omega,hcell j _ (Z2C hjy),?_⟩;rw [Z9O];refine Zij (l:=ys) ?_;rw [←hje];exact gE hjy
      ·exact .inr ⟨qF (by omega),qF hjy⟩
     clear hm1 hm2 hm1a hm1b hm2a hm2b hrY hc2 hje HYL;rcases hga with ⟨y,bb,off,rfl,d1,d1n,d1',cy,g2⟩ | ⟨d1,d1n⟩
     all_goals
      have hj0:(0:Int)≤(j:Int):=by omega
      go_wp2_with fail;go_quiet (fail);obtain ⟨v1,hv1⟩: ∃v,v=wr.drewN nq:=⟨_,rfl⟩;have cx1:v1.cell? ⟨bl,ol+k,none⟩=some (.string x):=by rw [hv1];exact cx
      have hR1':=hR1.drewN nq;rw [←hv1] at hR1';have hR2':Rd v1 wr.heap.size 1 A2 m2.length (pc m2):=by rw [hv1];exact hR2.drewN nq
      have hs1:wr.heap.size=v1.heap.size:=by rw [hv1];rfl
      rw [hs1] at hR1' hR2' hsr;have hbr1:Below w.heap.size w v1:=by rw [hv1];exact Z6H hbr nq
      try rw [←hv1]
      clear hv1 hs1 hR1 hR2 cx hbr hoR hq
      go_wp2_with (at_builtin;first
       | (refine Z8z rfl (.tmp 30) (.tmp 33) 38 9 _ 16 rfl Tryz.underlying38 Z6d rfl v1.heap.size (.slice none 0 0) 0 [] rfl (World.ownsRow_nil _ _ _ _) v1.heap.size _ m1.length c5 (pc m1) rfl hR1' (ZeD _) (by unfold maxLen;omega) (by omega) (lR _) ?_;intro A6 c6 w6 z1 z2 z3 z4 z5;simp only [Nat.zero_add,List.nil_append] at z1 z4;have cx6:w6.cell? ⟨bl,ol+k,none⟩=some (.string x):=(z2.cell (p:=⟨bl,ol+k,none⟩) (by show bl<_;omega)).trans cx1;have hn6:=Rd.new1 w6 9 (.string x);have hs6:=z2.size)
       | (refine Z8z rfl (.tmp 35) (.tmp 40) 38 9 _ 16 rfl Tryz.underlying38 Z6d rfl v1.heap.size _ m1.length (pc m1) rfl (z1.alloc _) (w6.heap.size+1) _ 1 1 [.string x] rfl hn6 (by simp [Value.oneCell']) (by unfold maxLen;omega) (by omega) (by simp;omega) ?_;intro A7 c7 w7 y1 y2 y3 y4 y5;have hb7:=(z2.alloc hs6 (.cells #[.string x] 9)).trans y2;have hR7:=hR2'.below hb7;have hs7:=hb7.size)
       | (refine Z8z rfl (.tmp 42) (.tmp 45) 38 9 _ 16 rfl Tryz.underlying38 Z6d rfl v1.heap.size _ (m1.length+1) (pc m1++[Value.string x]) rfl y1 v1.heap.size _ m2.length c2 (pc m2) rfl hR7 (ZeD _) (by unfold maxLen;omega) (by omega) hs7 ?_;intro A8 c8 w8 x1 x2 x3 x4 x5;have hb8:=hb7.trans x2))
      have HE:(m1++[x]++m2).length=m1.length+1+m2.length:=by simp;omega
      have HE2:=HL.out;refine ⟨⟨k+1,m1++[x]++m2,A8,c8,by rw [HE],by go_num,by omega,HZ,by rw [HE,HE2],?_,hbr1.trans (hb8.mono hsr)⟩,by simp [intOf];omega⟩;rw [HE,Z86,Z86];exact x1.base hsr
  ·have hd:decide ((k:Int)<(l.length:Int))=false:=qF (by omega)
   have hkf:l.take k=l:=List.take_of_length_le (by omega);rw [hkf] at hy;clear hkf;go_wp2_with fail;go_ret;exact ⟨ys,A5,c5,rfl,hy,ho,hb⟩
end Go.Proofs.YtecpbcmpncgokaaGreat
set_option linter.unusedVariables false
namespace Go.Dol
open Go.RowKit
def blc (l:List Bool):List Value:=l.map Value.bool
end Go.Dol
namespace Go.Proofs.YtecpbcmpncgokaaGreat
open Go.RowKit Go.Dol
theorem Ziu {ks:List (LU)} (hn:(ks.map idO).Nodup):srtS (ks.map idO)=(setL (ks.map ZA)).map idS:=by
  obtain ⟨h1,h2⟩:=Zih hn;refine Strict.same h1 ?_ fun x=> ?_
  · unfold Strict
    rw [List.pairwise_map];refine (Z7b _).imp fun {a b} h=> ?_;unfold sLt;rw [Z16,Z16];exact dT h
  · rw [h2,List.mem_map,List.mem_map]
    constructor
    · rintro ⟨r,hr,rfl⟩
      exact ⟨ZA r,(Z2W _ _).2 (List.mem_map.2 ⟨r,hr,rfl⟩),rfl⟩
    · rintro ⟨z,hz,rfl⟩
      obtain ⟨r,hr,rfl⟩:=List.mem_map.1 ((Z2W _ _).1 hz);exact ⟨r,hr,rfl⟩
theorem Zho {w:World} {B B':Nat} {l:List ObA} (h:Obs w B l) (hB:B≤B'):Obs w B' l:=fun x hx=>by
  obtain ⟨h1,h2,h3,h4⟩:=h x hx;exact ⟨h1.more hB,h2.more hB,h3.more hB,h4⟩
theorem Z6h {w W:World} {base base2 B n:Nat} {A:OA} {c:Nat} {l:List BA} (ho:w.ownsRow base 9 1 (.slice A l.length c) l.length (sc l)) (hn:l.length=n) (hb:Below w.heap.size w W):Rd W w.heap.size 1 A n (sc l):=by
  rw [←hn];exact (Rd.of_own ho).below hb
def ZjV (ps:List (LU)) (w:World) (v1 v2 i:Value) (wr:World):Prop:=
  ∃(k:Nat) (ks:List (LU)) (n:Nat) (A3:OA) (c3:Nat) (A4:OA) (c4:Nat),i= .int .i64 k∧k≤ps.length∧v1= .slice A3 n c3∧v2= .slice A4 n c4∧Hid (ks.length=n)∧n≤k∧Hid (TwoS wr w.heap.size A3 c3 (ks.map idO) A4 c4 (ks.map idS))∧Hid (ks.Sublist (ps.take k))∧Below w.heap.size w wr
def ZjW (gs g m base gp:Nat) (D:Dk) (xs:List PkA) (gs2 base2 gp2:Nat) (xs2:List PkA) (n2:Nat) (A3:OA) (c3:Nat) (ns:List BA) (A4:OA) (c4:Nat) (vs:List BA) (n:Nat) (w:World) (i:Value) (wr:World):Prop:=
  ∃k:Nat,i= .int .i64 k∧k≤n∧Hid (TwoS wr n2 A3 c3 ns A4 c4 vs)∧Sto wr gs g m base gp D xs∧Sto wr gs2 g m base2 gp2 D xs2∧Below w.heap.size w wr
set_option maxRecDepth 100000 in
set_option maxHeartbeats 25600000 in
theorem storeRepacks_walk (A:OA) (l:List ObA) (c:Nat) (A5:OA) (bs:List Bool) (c5:Nat) (w:World) (hr:Rd w w.heap.size 10 A l.length (oc l)) (hos:Obs w w.heap.size l) (hl:l.length≤140737488351232) (hrb:Rd w w.heap.size 1 A5 bs.length (blc bs)):
    Calls Tryz.prog 10 #[.slice A l.length c, .slice A5 bs.length c5] w fun e w'=>e= .returned (.bool true)∧Below w.heap.size w w':=by
  have HA:=qI (Z90 w);go_in;go_wp2_with fail;refine HA.out.mono ?_;rintro e w1 ⟨rfl,hb1⟩;have HAd:=qI (ZcH A l c w1 ((hr.below hb1).more hb1.size) (Zho (hos.below hb1) hb1.size) hl);clear HA hr hos;go_wp2_with fail;refine HAd.out.mono ?_;rintro e w2 ⟨g,m,gs,base,gp,D,ps,n,A1,c1,A2,c2,rfl,hpn,hn20,hst2,hJ,hT,hlow,hb2⟩;have hb02:=hb1.next hb2;have hs1:=hb1.size;clear HAd;go_wp2_with fail;go_loopw [10,11,12] (fun v1 v2 i wr=>ZjV ps w2 v1 v2 i wr) (fun _ _ i _=>n-(intOf i).toNat)
  case atStart=>exact ⟨0,[],0,none,0,none,0,rfl,zL _,rfl,rfl,rfl,lR _,TwoS.nil _ _,List.Sublist.refl _,bR _ _⟩
  case round=>
    obtain ⟨k,ks,n3,A3,c3,A4,c4,rfl,hk,rfl,rfl,hkn,hn3,hK,hsub,hbr⟩:=hrel;rw [hpn.out] at hk;have hs:=hbr.size;have f1:IntKind.i64.wrap ((k:Int)+1)=(k:Int)+1:=qJ _ (by omega)
    by_cases h1:k<n
    · have d1:decide ((k:Int)<(n:Int))=true:=dT (by omega)
      have d1':(k:Int)<(n:Int):=by omega
      have hk0:(0:Int)≤(k:Int):=by omega
      obtain ⟨p,hp⟩: ∃p,ps[k]?=some p:=⟨_,gE (by rw [hpn.out];exact h1)⟩;have e1:(ps.map idO).length=n:=by rw [List.length_map];exact hpn.out
      have e2:(ps.map idS).length=n:=by rw [List.length_map];exact hpn.out
      have hr1:=Z6h (base2:=0) (B:=0) hT.out.one e1 hbr;have hr2:=Z6h (base2:=0) (B:=0) hT.out.two e2 hbr;obtain ⟨b1,o1,hA1,_,hc1⟩:=hr1.at_ (by omega);obtain ⟨b2,o2,hA2,_,hc2⟩:=hr2.at_ (by omega);subst hA1 hA2;have q1:wr.cell? ⟨b1,o1+k,none⟩=some (.string (idO p)):=hc1 _ _ (by rw [sc,List.getElem?_map,List.getElem?_map,hp];rfl);have hg2:(sc (ps.map idS))[k]?=some (.string (idS p)):=by rw [sc,List.getElem?_map,List.getElem?_map,hp];rfl
      have htk:Hid (ps.take (k+1)=ps.take k++[p]):=by
        unfold Hid;rw [List.take_add_one,hp]
        rfl
      obtain ⟨t,ht⟩: ∃t,t=bs.getD k false:=⟨_,rfl⟩;have HT:=qI ht;clear ht hp hc1 hr1;go_upto_region 10 with (fail)
      go_cut [53] (fun v wx=>v= .bool t∧wx=wr)
      case first=>
        by_cases h5:k<bs.length
        · have d3:decide ((k:Int)<(bs.length:Int))=true:=dT (by omega)
          have d3':(k:Int)<(bs.length:Int):=by omega
          obtain ⟨b5,o5,rfl,_,hc5⟩:=(hrb.below (hb02.trans (hbr.mono hb02.size))).at_ (by omega);have q5:wr.cell? ⟨b5,o5+k,none⟩=some (.bool t):=hc5 _ _ (by rw [HT.out,blc,List.getElem?_map,gE h5,List.getD_eq_getElem?_getD,gE h5];rfl);clear hc5 h5;go_wp2_with fail
          all_goals (go_meet;exact ⟨rfl,rfl⟩)
        · have d3:decide ((k:Int)<(bs.length:Int))=false:=qF (by omega)
          have d3': ¬(k:Int)<(bs.length:Int):=by omega
          have h6:t=false:=by rw [HT.out,List.getD_eq_getElem?_getD,List.getElem?_eq_none (by omega)];rfl
          clear h5;go_wp2_with fail
          all_goals (go_meet;exact ⟨by rw [h6],rfl⟩)
      case rest=>
      obtain ⟨rfl,hwx⟩:=hcut;obtain rfl:=hwx.symm;clear HT;have hn1:(ks.map idO).length=n3:=by rw [List.length_map];exact hkn.out
      have hn2:(ks.map idS).length=n3:=by rw [List.length_map];exact hkn.out
      cases t with
      | false=>
        go_wp2_with fail;exact ⟨⟨k+1,ks,n3,A3,c3,A4,c4,by go_num,by rw [hpn.out];omega,rfl,rfl,hkn,by omega,hK,qI (by rw [htk.out];exact hsub.out.trans (List.sublist_append_left ..)),hbr⟩,by simp [intOf];omega⟩
      | true=>
        have hR1:=Rd.new1 wr 9 (.string (idO p));have hb78:Below wr.heap.size wr (wr.alloc (.cells #[.string (idO p)] 9)):=(bR _ _).alloc (lR _) _;have hT8:=hK.out.below hb78;have ho1:=hT8.one;rw [hn1] at ho1;have hb28:=hbr.next hb78;have hTT:=hT;have HR2:=qI (fun (W:World) (hb:Below w2.heap.size w2 W)=>Z6h (base2:=0) (B:=0) hT.out.two e2 hb);clear hr2 hc2 hT
        go_wp2_with (first
          | (at_builtin;refine Za4 rfl _ _ 38 9 (.string ⟨#[]⟩) 16 rfl Tryz.underlying38 Z3D rfl w2.heap.size (.slice A3 n3 c3) n3 (sc (ks.map idO)) rfl ho1 _ _ 1 1 [.string (idO p)] rfl hR1 (by intro u hu;obtain rfl:=List.mem_singleton.1 hu;rfl) (by unfold maxLen;omega) (by omega) (by simp;omega) ?_
             intro A9 c9 w9 ho9 hb9 hg9 hl9 _ _;have hT9:=hT8.app1 (x:=idO p) (A':=A9) (c':=c9) (by rw [hn1];exact ho9) (by rw [hn1];exact hg9) (by rw [hn1];exact hl9.out);have hb29:=hb28.trans hb9;have hb10:Below w9.heap.size w9 (w9.alloc (.cells #[.string (idS p)] 9)):=(bR _ _).alloc (lR _) _;have hT10:=hT9.below hb10;have ho10:=hT10.two;rw [hn2] at ho10;obtain ⟨b7,o7,hA7,_,hc7⟩:=(HR2.out w9 hb29).at_ (by omega);injection hA7 with hA7
             injection hA7 with hA7 hA8
             subst hA7 hA8;have q2:w9.cell? ⟨b2,o2+k,none⟩=some (.string (idS p)):=hc7 _ _ hg2;have hR10:=Rd.new1 w9 9 (.string (idS p));have hs9:=hg9.size
             clear hc7)
          | (at_builtin;refine Za4 rfl _ _ 38 9 (.string ⟨#[]⟩) 16 rfl Tryz.underlying38 Z3D rfl w2.heap.size (.slice A4 n3 c4) n3 (sc (ks.map idS)) rfl ho10 _ _ 1 1 [.string (idS p)] rfl hR10 (by intro u hu;obtain rfl:=List.mem_singleton.1 hu;rfl) (by unfold maxLen;omega) (by omega) (by simp at hs9 ⊢; omega) ?_
             intro A11 c11 w11 ho11 hb11 hg11 hl11 _ _))
        have hT12:=hT10.app2 (y:=idS p) (A':=A11) (c':=c11) (by rw [hn2];exact ho11) (by rw [hn2];exact hg11) (by rw [hn2];exact hl11.out);have hb2x:=(hb29.next hb10).trans hb11;refine ⟨⟨k+1,ks++[p],n3+1,A9,c9,A11,c11,by go_num,by rw [hpn.out];omega,rfl,rfl, ?_,by omega, ?_, ?_,hb2x⟩,by simp [intOf];omega⟩
        · unfold Hid
          rw [List.length_append,hkn.out]
          rfl
        · unfold Hid
          rw [List.map_append,List.map_append];exact hT12
        · unfold Hid
          rw [htk.out];exact hsub.out.append (List.Sublist.refl _)
    · have d1:decide ((k:Int)<(n:Int))=false:=qF (by omega)
      have d1': ¬(k:Int)<(n:Int):=by omega
      have h320:n3≤20:=by omega
      have hsub2:ks.Sublist ps:=hsub.out.trans (List.take_sublist ..);obtain ⟨b,D',eQ,hPk,hcap,hnd,hbl⟩:=Zb8 hJ.out.1 hJ.out.2 (by rw [hpn.out];exact hn20) hsub2;have hn1:(ks.map idO).length=n3:=by rw [List.length_map];exact hkn.out
      have hn2:(ks.map idS).length=n3:=by rw [List.length_map];exact hkn.out
      have hst3:=hst2.below hbr;have hKD:=hJ.out.1.calm.ok;have hr3:=Rd.of_own hK.out.one;rw [hn1] at hr3
      have hRp:=Z1A hst3 (ZcJ hKD) (by have:=hKD.lenW;omega) (fun p hp=>(List.not_mem_nil hp).elim) (by decide) A3 n3 (ks.map idO) c3 hn1 hr3 (by omega) (fun x hx=>by
        obtain ⟨r,_,rfl⟩:=List.mem_map.1 hx;rw [ZL]
        decide)
      rw [show ([]:List PkA).map PkA.pk=[] from rfl,eQ] at hRp;have HRp:=qI hRp;have HP:=qI hPk;have HN:=qI hnd;have hlen:Hid (D'.l.length=if n3=0 then 0 else 1):=by
        unfold Hid;rw [hPk.files,Zis,hkn.out]
      have HKD:=qI hPk.calm.ok;clear hRp hPk hnd eQ hsub hsub2 hr3 hKD hJ hbl hT hrb hk f1;go_wp2_with fail;refine HRp.out.mono ?_;rintro e w4 ⟨rfl,ht3,base',gp',xs',hst4,hxs,hpos⟩;have hT4:=hK.out.tw3 hst3 ht3;have hb4:=Tw3.new (hb02.trans (hbr.mono hb02.size)) ht3 (by omega) (by omega) (by omega);have hsz:=hb02.size;have hszr:=hbr.size;have hmem: ∀i∈gp'::xs'.map (·.g),w.heap.size≤i:=hst4.mem (by omega) (by omega);have HNm:=qI (Zbv hst4.dk HKD.out);clear HRp;go_wp2_with fail;refine HNm.out.mono ?_;rintro e w5 ⟨A6,c6,rfl,_,hb5⟩;clear HNm;have hmin:((D'.l.length:Int)!=min 1 (n3:Int))=false:=by
        rw [hlen.out,bne_eq_false_iff_eq];split<;>omega
      have hst5:=hst4.below hb5;have hb05:=hb4.next hb5;have hO:=Z49 hst5.dk (ZcJ HKD.out);rw [HP.out.packs] at hO;have HO:=qI hO;clear hO hst4 hlen;go_wp2_with fail;refine HO.out.mono ?_;rintro e w6 ⟨hb6,gs2,base2,gp2,xs2,hxs2,rfl,hgs2,hgp2,hbase2,hsu6⟩;have hlt5:=hst5.memLt;have hst6:=hst5.below hb6;have hb06:=hb05.next hb6;have hT6:=(hT4.below hb5).below hb6;have HOp:=qI (Z2J hst6.dk);clear HO hT4 hst5;go_wp2_with fail;refine HOp.out.mono ?_;rintro e w3 ⟨rfl,hw3⟩;obtain rfl:=hw3.symm;clear HOp;have hr6:=Rd.of_own hT6.one;have HRS:=qI (Z70 A3 (ks.map idO) c3 w6 hr6 (by rw [hn1];omega));rw [hn1] at HRS;go_wp2_with fail;refine HRS.out.mono ?_;rintro e w7 ⟨zs,A7,c7,rfl,hzs,ho7,hb7⟩;have hst7:=hst6.below hb7;have hsu7:=hsu6.below hb7;have hT7:=hT6.below hb7;have hb07:=hb06.next hb7;rw [Ziu HN.out] at hzs;clear HRS hr6 hT6 hst6 hsu6;have hKW:=HKD.out.toW;have hlk:=hKW.len;have hPk:=Z9P HP.out.packs;have hks:ks.length≤20:=by rw [hkn.out];omega
      have hip:(idsK (pkP ks b)).length=ks.length:=Zit HP.out.objs.2.2;have hpl:(pkP ks b).length≤1:=by
        unfold pkP;split<;>simp
      have hx1:xs'.length≤1:=by rw [←List.length_map (f:=PkA.pk),hxs.out];exact hpl
      have hx2:xs2.length≤1:=by rw [←List.length_map (f:=PkA.pk),hxs2.out];exact hpl
      have hI:=Z5b hst7 hKW (by rw [hxs.out];exact hPk) (by omega) (by rw [hxs.out,hip];omega);have HI:=qI hI;clear hI;go_wp2_with fail;refine HI.out.mono ?_;rintro e w8 ⟨ys1,A8,c8,rfl,hys1,ho8,hst8,ht8⟩;rw [hxs.out,HP.out.idsS] at hys1
      have hsu8:=hsu7.twO ht8 (fun i hi hm=>by
        have h1:=hsu7.mem (n:=w5.heap.size) hgp2 hbase2 i hi;have h2:=hlt5 i hm
        omega)
      have hT8:=hT7.twI ht8;have hz8:=ht8.own ho7 (by decide) (by decide);have HS:=qI (Z3w A8 ys1 c8 A7 zs c7 w8 _ _ (Rd.of_own ho8) (Rd.of_own hz8) (by rw [hys1,List.length_map,Z0l HP.out.objs.2.2,List.length_map];omega) (by rw [hzs,List.length_map,Z0l HP.out.objs.2.2,List.length_map];omega));clear HI ho8 hst7 hsu7 hT7;go_wp2_with fail;refine HS.out.mono ?_;rintro e w9 ⟨v9,n9,rfl,hv9,rfl⟩;obtain rfl:v9=true:=hv9.2 (by rw [hys1,hzs]);clear HS hv9;have hst9:=hst8.below ((bR _ _).drewN' n9);have hsu9:=hsu8.below ((bR _ _).drewN' n9);have hT9:=hT8.below ((bR _ _).drewN' n9);have hz9:=Zh hz8 ((bR _ _).drewN' n9);have hb09:=(TwI.new hb07 ht8 hmem).drewN' n9;obtain ⟨w9,hw9⟩: ∃w9,w9=w8.drewN n9:=⟨_,rfl⟩;rw [←hw9] at hst9 hsu9 hT9 hz9 hb09 ⊢;have hs89:w7.heap.size≤w9.heap.size:=by rw [hw9];exact ht8.size
      have hI:=Z5b hsu9 hKW (by rw [hxs2.out];exact hPk) (by omega) (by rw [hxs2.out,hip];omega);have HI:=qI hI;clear hI hst8 hsu8 hT8 hz8 ht8 hw9;go_wp2_with fail;refine HI.out.mono ?_;rintro e w10 ⟨ys2,A10,c10,rfl,hys2,ho10,hsu10,ht10⟩;rw [hxs2.out,HP.out.idsS] at hys2;have hsu9m:=hsu9.mem (n:=w5.heap.size) hgp2 hbase2
      have hst10:=hst9.twO ht10 (fun i hi hm=>by
        have h1:=hsu9m i hm;have h2:=hlt5 i hi
        omega)
      have hT10:=hT9.twI ht10;have hz10:=ht10.own hz9 (by decide) (by decide)
      have hb010:=TwI.new hb09 ht10 (fun i hi=>by
        have h1:=hsu9m i hi;have h2:=hb05.size
        omega)
      have HS:=qI (Z3w A10 ys2 c10 A7 zs c7 w10 _ _ (Rd.of_own ho10) (Rd.of_own hz10) (by rw [hys2,List.length_map,Z0l HP.out.objs.2.2,List.length_map];omega) (by rw [hzs,List.length_map,Z0l HP.out.objs.2.2,List.length_map];omega));clear HI ho10 hst9 hsu9 hT9;go_wp2_with fail;refine HS.out.mono ?_;rintro e w11 ⟨v11,n11,rfl,hv11,rfl⟩;obtain rfl:v11=true:=hv11.2 (by rw [hys2,hzs]);clear HS hv11;have hst11:=hst10.below ((bR _ _).drewN' n11);have hsu11:=hsu10.below ((bR _ _).drewN' n11);have hT11:=qI (hT10.below ((bR _ _).drewN' n11));have hb011:=hb010.drewN' n11;obtain ⟨w11,hw11⟩: ∃w11,w11=w10.drewN n11:=⟨_,rfl⟩;rw [←hw11] at hst11 hsu11 hT11 hb011 ⊢;clear hst10 hsu10 hT10 hz10 ht10 hw11 hz9;go_wp2_with fail;go_loopw [17] (fun i wq=>ZjW gs g m base' gp' D' xs' gs2 base2 gp2 xs2 w2.heap.size A3 c3 (ks.map idO) A4 c4 (ks.map idS) n3 w i wq) (fun i _=>n3-(intOf i).toNat)
      case atStart=>exact ⟨0,rfl,zL _,hT11,hst11,hsu11,hb011⟩
      case round=>
        clear hT11 hst11 hsu11 hb011 hb010 hb09 hb07 hb06 hb05 hb4 hb02 hb1 hb2 hb5 hb6 hb7 hbr ht3;obtain ⟨k2,rfl,hk2,hT,hst,hsu,hb⟩:=hrel;have f1:IntKind.i64.wrap ((k2:Int)+1)=(k2:Int)+1:=qJ _ (by omega)
        by_cases h2:k2<n3
        · have d2:decide ((k2:Int)<(n3:Int))=true:=dT (by omega)
          have d2':(k2:Int)<(n3:Int):=by omega
          have hk0:(0:Int)≤(k2:Int):=by omega
          obtain ⟨p,hp⟩: ∃p,ks[k2]?=some p:=⟨_,gE (by rw [hkn.out];exact h2)⟩;have hpm:=List.mem_of_getElem? hp;have HP1:=qI (HP.out.objs.2.1 p hpm);have HG:=qI (HP.out.get hpm);have e1:(ks.map idO).length=n3:=hn1;have hr1:=Rd.of_own hT.out.one;have hr2:=Rd.of_own hT.out.two;rw [hn1] at hr1;rw [hn2] at hr2;have hg1:(sc (ks.map idO))[k2]?=some (.string (idO p)):=by rw [sc,List.getElem?_map,List.getElem?_map,hp];rfl
          have hg2:(sc (ks.map idS))[k2]?=some (.string (idS p)):=by rw [sc,List.getElem?_map,List.getElem?_map,hp];rfl
          have HG1:=qI hg1;have hi32:=ZL p;have hGo:=Z2q hst hKW (by rw [hxs.out];exact hPk) (by omega) (idO p) (by omega);rw [hxs.out,HG.out] at hGo;have HGo:=qI hGo;obtain ⟨bb,off,hA1,hbb,hcell⟩:=hr1.at_ (by omega);obtain ⟨bb2,off2,hA2,hbb2,hcell2⟩:=hr2.at_ (by omega);subst hA1 hA2;have q1:wr.cell? ⟨bb,off+k2,none⟩=some (.string (idO p)):=hcell _ _ hg1;clear hp hGo hcell hcell2 hr1 hr2 hpm e1;go_wp2_with fail;refine HGo.out.mono ?_;rintro e w12 ⟨hb12,q,A12,c12,hq,rfl,ho12,_,_⟩;obtain rfl:q=p:=hq.out;have hst12:=hst.below hb12;have hsu12:=hsu.below hb12;have hT12:=hT.out.below hb12;have hGo:=Z2q hsu12 hKW (by rw [hxs2.out];exact hPk) (by omega) (idO q) (by omega);rw [hxs2.out,HG.out] at hGo;have HGo2:=qI hGo;have hr4:=Rd.of_own hT12.one;rw [hn1] at hr4;obtain ⟨b3,o3,hA3,_,hcell4⟩:=hr4.at_ (by omega);injection hA3 with hA3
          injection hA3 with hA3 hA4
          subst hA3 hA4;have q2:w12.cell? ⟨bb,off+k2,none⟩=some (.string (idO q)):=hcell4 _ _ hg1;clear hGo hcell4 hr4 hq HGo;go_wp2_with fail;refine HGo2.out.mono ?_;rintro e w13 ⟨hb13,q',A13,c13,hq,rfl,ho13,_,_⟩;obtain rfl:q'=q:=hq.out;have hst13:=hst12.below hb13;have hsu13:=hsu12.below hb13;have hT13:=hT12.below hb13;have ho13a:=Zh ho12 hb13;have hr5:=Rd.of_own hT13.two;rw [hn2] at hr5;obtain ⟨b5,o5,hA5,_,hcell5⟩:=hr5.at_ (by omega);injection hA5 with hA5
          injection hA5 with hA5 hA6
          subst hA5 hA6;have q3:w13.cell? ⟨bb2,off2+k2,none⟩=some (.string (idS q')):=hcell5 _ _ hg2;have hfew:=Z0F q' HP1.out;obtain ⟨A14,c14,w14,hcv,hr14,hb14,hc14,hcm14⟩:=ZaC q' w13 (by omega);change (convert 9 36 (.string (idS q'))).run Tryz.prog w13= .ok (.slice A14 q'.length c14) w14 at hcv;have hst14:=hst13.below hb14;have hsu14:=hsu13.below hb14;have hlw:=HKD.out.lenW;have hPu:=Z3p hst14 hKW (by omega) (by rw [hxs.out];exact hPk) (by omega) A14 q' c14 hr14.1 hc14 hcm14 (by omega);rw [hxs.out,Z78 HP1.out,HG.out] at hPu;simp only [if_true] at hPu;have HPu:=qI hPu;clear hPu hr5 hcell5 hq HGo2 q1 q2 hg1;go_wp2_with fail;refine HPu.out.mono ?_;intro e w15 h9;obtain ⟨rfl,hst15,ht15⟩:=h9.ok;have hsu15:=hsu14.tw ht15 hst15.dk;have hT15:=(hT13.below hb14).tw hst14.dk ht15;have ho15a:=Z8q hst14.dk ht15 (Zh ho13a hb14) (by decide);have ho15b:=Z8q hst14.dk ht15 (Zh ho13 hb14) (by decide);have hb015:=Tw.new (((hb.next hb12).next hb13).next hb14) ht15 (by omega) (by omega);have hr61:=Rd.of_own hT15.one;have hr62:=Rd.of_own hT15.two;rw [hn1] at hr61;rw [hn2] at hr62;obtain ⟨b7,o7,hA7,_,hc7⟩:=hr61.at_ (by omega);injection hA7 with hA7
          injection hA7 with hA7 hA8
          subst hA7 hA8;obtain ⟨b8,o8,hA8,_,hc8⟩:=hr62.at_ (by omega);injection hA8 with hA8
          injection hA8 with hA8 hA9
          subst hA8 hA9;have hg1:(sc (ks.map idO))[k2]?=some (.string (idO q')):=HG1.out;have y1:w15.cell? ⟨bb,off+k2,none⟩=some (.string (idO q')):=hc7 _ _ hg1;have y2:w15.cell? ⟨bb2,off2+k2,none⟩=some (.string (idS q')):=hc8 _ _ hg2;have cv: ∀j,(convert 36 9 (.slice A12 q'.length c12)).run Tryz.prog (w15.drewN j)= .ok (.string (idS q')) (w15.drewN j):=fun j=>Z0N ((Rd.of_own ho15a).drewN j);have cv2: ∀j,(convert 36 9 (.slice A13 q'.length c13)).run Tryz.prog (w15.drewN j)= .ok (.string (idS q')) (w15.drewN j):=fun j=>Z0N ((Rd.of_own ho15b).drewN j);clear hc7 hc8 hr61 hr62 HPu hcv hr14 hg1 hg2 q3;go_wp2_with fail;go_quiet (fail);go_wp2_with fail;have hdq:=(bR w15.heap.size w15).drewN' nq;exact ⟨⟨k2+1,by go_num,by omega,qI (hT15.below hdq),hst15.below hdq,hsu15.below hdq,hb015.drewN' nq⟩,by simp [intOf];omega⟩
        · have d2:decide ((k2:Int)<(n3:Int))=false:=qF (by omega)
          have d2': ¬(k2:Int)<(n3:Int):=by omega
          have HOp:=qI (Z2J hst.dk);go_wp2_with fail;refine HOp.out.mono ?_;rintro e w5 ⟨rfl,hw5⟩;obtain rfl:=hw5.symm;clear HOp;have hr3:=Rd.of_own hT.out.one;rw [hn1] at hr3
          have hRp:=Z1A hst (ZcJ HKD.out) (by have:=HKD.out.lenW;omega) (by rw [hxs.out];exact hPk) (by omega) A3 n3 (ks.map idO) c3 hn1 hr3 (by omega) (fun x hx=>by
            obtain ⟨r,_,rfl⟩:=List.mem_map.1 hx;rw [ZL]
            decide)
          rw [hxs.out,Zb6 HP.out HN.out] at hRp;have HRp:=qI hRp;clear hRp hr3;go_wp2_with fail;refine HRp.out.mono ?_;rintro e w16 ⟨rfl,ht16,base3,gp3,xs3,hst16,_,_⟩;have HOp:=qI (Z2J hst16.dk);have hb16:=Tw3.new hb ht16 (by omega) (by omega) (by omega);go_wp2_with fail;refine HOp.out.mono ?_;rintro e w17 ⟨rfl,hw17⟩;obtain rfl:=hw17.symm;go_wp2_with fail;go_ret;exact ⟨by simp,hb16⟩
end Go.Proofs.YtecpbcmpncgokaaGreat
