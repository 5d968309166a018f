/- The layer 'store': the packs of a disk are read. Conditions: a disk in good order whose files are below 2^47 - 4096 bytes. The layer 'store': what packs hold; the walks of Open, Packs, Add. Conditions: a disk in good order whose files are below 2^47 - 4096 bytes. -/
import Derived.Test.YtecpbcmpncgokaaGreatSto0
import Derived.Test.YtecpbcmpncgokaaGreatSto1
import Derived.Test.YtecpbcmpncgokaaGreatRegT
import Derived.Test.YtecpbcmpncgokaaGreatPckParse
import Derived.Test.YtecpbcmpncgokaaGreatShort
set_option linter.unusedVariables false
namespace Go.Dol
open Go.RowKit
theorem ZhA {ge:BA→BA→Bool} {b:LU} {ps:List Pt} (h:Z0M ge b=some ps):36≤b.length:=by
 unfold Z0M at h;split at h
 ·cases h
 ·rename_i h1
  exact Nat.le_of_not_lt fun h2=>h1 (.inl h2)
end Go.Dol
namespace Go.Proofs.YtecpbcmpncgokaaGreat
open Go.RowKit Go.Dol
def RdF (l:List Fil) (k:Nat) (P:List Pk):Prop:=Zv geS l=(Zv geS (l.drop k)).map (P++ ·)
section
variable {l:List Fil} {k:Nat} {P:List Pk} {f:Fil} {ps:List Pt}
theorem RdF.start:RdF l 0 []:=by
 unfold RdF;rw [List.drop_zero];cases Zv geS l<;>rfl
theorem Z5N (hf:l[k]?=some f):l.drop k=f::l.drop (k+1):=by
 obtain ⟨h1,h2⟩:=List.getElem?_eq_some_iff.1 hf;rw [List.drop_eq_getElem_cons h1,h2]
theorem RdF.no (h:RdF l k P) (hf:l[k]?=some f) (hp:Z0I f.1=false):RdF l (k+1) P:=by
 unfold RdF at*;rw [h,Z5N hf,Zv,if_neg (by rw [hp];decide)]
theorem RdF.yes (h:RdF l k P) (hf:l[k]?=some f) (hp:Z0I f.1=true) (h1:Z0M geS f.2=some ps) (h2:Zu f.2=f.1):RdF l (k+1) (P++[(f.1,ps)]):=by
 unfold RdF at*;rw [h,Z5N hf,Zv,if_pos hp,h1];simp only;rw [if_pos h2];cases Zv geS (l.drop (k+1))<;>simp
theorem RdF.bad (h:RdF l k P) (hf:l[k]?=some f) (hp:Z0I f.1=true) (h1:Z0M geS f.2=none):Zv geS l=none:=by
 unfold RdF at h;rw [h,Z5N hf,Zv,if_pos hp,h1]
 rfl
theorem RdF.other (h:RdF l k P) (hf:l[k]?=some f) (hp:Z0I f.1=true) (h1:Z0M geS f.2=some ps) (h2:Zu f.2≠f.1):Zv geS l=none:=by
 unfold RdF at h;rw [h,Z5N hf,Zv,if_pos hp,h1];simp only;rw [if_neg h2]
 rfl
theorem RdF.all (h:RdF l l.length P):Zv geS l=some P:=by
 unfold RdF at h;rw [h,List.drop_length];simp [Zv]
end
theorem Z3q {w:World} {b1 b2:Nat} {e1 e2:TypeId} {s1 s2 n1 n2:Nat} {v1 v2:Value} {xs ys:List Value} (h1:w.ownsRow b1 e1 s1 v1 n1 xs) (h2:w.ownsRow b2 e2 s2 v2 n2 ys) (he:e1≠e2):v2.ownBlock=none∨v2.ownBlock≠v1.ownBlock:=by
 rcases h2.2 with ⟨rfl,_⟩ | ⟨k2,cap,cur2,rfl,_,hh2,_⟩
 ·exact .inl rfl
 ·refine .inr fun e'=> ?_
  rcases h1.2 with ⟨rfl,_⟩ | ⟨k1,cap1,cur1,rfl,_,hh1,_⟩
  ·cases e'
  ·have e3:k2=k1:=by simpa [Value.ownBlock] using e'
   rw [e3,hh1] at hh2;injection hh2 with hh2
   injection hh2 with _ hh2
   exact he hh2
theorem Z8q:(Tryz.prog.info? 139).map (fun i=>(i.zero,i.size,i.bytes))=some (some (.pointer none),1,8):=by kernel_rfl
theorem Pck.grownT {w w':World} {base g:Nat} {l:List PtA} {A:OA} {c m:Nat} (h:Pck w base g l A c m 0 (.slice none 0 0)) {b n:Nat} {e:TypeId} {v:Value} {xs:List Value} (ho:w.ownsRow b e 1 v n xs) (h1:205≠e) (h2:e≠306) (h3:e≠5) (hg:w.grownBy w' v.ownBlock):Pck w' base g l A c m 0 (.slice none 0 0):=
 ⟨h.blk.grown hg (own_ne ho h.blk h1).symm,h.gb,h.mb,h.parts.kept hg (Z3q ho h.parts h2),h.map.grown hg (h.map.own_ne ho).symm,fun x hx=>⟨⟨(h.raws x hx).1.1.keep hg (Other.own ho h3 (zL _)),(h.raws x hx).1.2⟩,(h.raws x hx).2⟩,.inl ⟨rfl,rfl⟩⟩
def Zjt (w:World) (r:Option (List Pk)) (e:Ending) (w':World):Prop:=
 Below w.heap.size w w'∧match r with
 | none=>e= .returned (.tuple #[.pointer none,.int .i64 2])
 | some P=> ∃base gp xs An cn Aa ca,Hid (xs.map PkA.pk=P)∧e= .returned (.tuple #[.pointer (some ⟨gp,0,none⟩),.int .i64 0])∧w.heap.size≤base∧w.heap.size≤gp∧Pks w' base gp xs An cn Aa ca 0 (.slice none 0 0)
structure Mid (w w':World) (gp:Nat) (xs:List PkA) (cN cA vN:Value) (nN:Nat) (lN:List Value) (vA:Value) (nA:Nat) (lA:List Value):Prop where
 blk:Blk w' gp 138 [cN,cA,.int .u32 0,.int .i32 0,.int .u32 0,.slice none 0 0]
 lt:gp<w.heap.size
 names:w'.ownsRow w.heap.size 9 1 vN nN lN
 all:w'.ownsRow w.heap.size 139 1 vA nA lA
 packs: ∀x∈xs,Pck w' w.heap.size x.g x.l x.A x.c x.m 0 (.slice none 0 0)
 gr:w.grownBy w' (some gp)
section
variable {w w' w2:World} {gp:Nat} {xs:List PkA} {cN cA vN vA:Value} {nN nA:Nat} {lN lA:List Value}
theorem Mid.held (h:Mid w w' gp xs cN cA vN nN lN vA nA lA):w'.cell? ⟨gp,0,none⟩=some cN∧w'.cell? ⟨gp,1,none⟩=some cA:=⟨h.blk.cell 0,h.blk.cell 1⟩
theorem Mid.below (h:Mid w w' gp xs cN cA vN nN lN vA nA lA) (hb:Below w'.heap.size w' w2):Mid w w2 gp xs cN cA vN nN lN vA nA lA:=
 ⟨h.blk.below hb h.blk.lt,h.lt,Zi h.names hb,Zi h.all hb,fun x hx=>(h.packs x hx).below hb,Z4f h.gr hb⟩
theorem Mid.drew (h:Mid w w' gp xs cN cA vN nN lN vA nA lA):Mid w w'.drew gp xs cN cA vN nN lN vA nA lA:=h.below ((bR _ _).drew)
theorem Mid.alloc (h:Mid w w' gp xs cN cA vN nN lN vA nA lA) (o:Go.Obj):Mid w (w'.alloc o) gp xs cN cA vN nN lN vA nA lA:=h.below ((bR _ _).alloc (lR _) o)
theorem Z9Z {b n:Nat} {e:TypeId} {v:Value} {l:List Value} (h:w.grownBy w' (some gp)) (ho:w'.ownsRow w.heap.size e 1 v n l) (hg:w'.grownBy w2 v.ownBlock):w.grownBy w2 (some gp):=
 ⟨hg.os.trans h.os,hg.tape.trans h.tape,hg.output.trans h.output,lT h.size hg.size,fun k hk hn=>(hg.block k (Nat.lt_of_lt_of_le hk h.size) fun e2=>by have:=(ho.lt k e2.symm).1;omega).trans (h.block k hk hn)⟩
theorem Mid.appN (h:Mid w w' gp xs cN cA vN nN lN vA nA lA) (hg:w'.grownBy w2 vN.ownBlock) {v:Value} {n:Nat} {l:List Value} (ho:w2.ownsRow w.heap.size 9 1 v n l):Mid w w2 gp xs cN cA v n l vA nA lA:=
 ⟨h.blk.grown hg (own_ne h.names h.blk (by decide)).symm,h.lt,ho,h.all.kept hg (Z3q h.names h.all (by decide)),fun x hx=>(h.packs x hx).grownT h.names (by decide) (by decide) (by decide) hg,Z9Z (b:=0) h.gr h.names hg⟩
theorem Mid.appA (h:Mid w w' gp xs cN cA vN nN lN vA nA lA) (hg:w'.grownBy w2 vA.ownBlock) {v:Value} {n:Nat} {l:List Value} (ho:w2.ownsRow w.heap.size 139 1 v n l):Mid w w2 gp xs cN cA vN nN lN v n l:=
 ⟨h.blk.grown hg (own_ne h.all h.blk (by decide)).symm,h.lt,h.names.kept hg (Z3q h.all h.names (by decide)),ho,fun x hx=>(h.packs x hx).grownT h.all (by decide) (by decide) (by decide) hg,Z9Z (b:=0) h.gr h.all hg⟩
end
section
variable {w w':World} {gp:Nat} {xs:List PkA} {cN cA vN vA:Value} {nN nA:Nat} {lN lA:List Value}
theorem Mid.close (h:Mid w w' gp xs cN cA vN nN lN vA nA lA):Mid w ((w'.setCell ⟨gp,0,none⟩ vN).setCell ⟨gp,1,none⟩ vA) gp xs vN vA vN nN lN vA nA lA:=by
 have hg:w'.grownBy ((w'.setCell ⟨gp,0,none⟩ vN).setCell ⟨gp,1,none⟩ vA) (some gp):=Z0 (Z0 (gR w' _) 0 _) 1 _;refine ⟨(h.blk.set 0 vN).set 1 vA,h.lt,Ze h.names h.blk (by decide) hg,Ze h.all h.blk (by decide) hg,fun x hx=>(h.packs x hx).keep (fun k hk hl=>hg.block k hl fun e=> ?_) hg.size,Za h.gr hg⟩;injection e with e
 have:=h.lt;omega
theorem Pck.base {w:World} {base base' g:Nat} {l:List PtA} {A:OA} {c m:Nat} {d:Int} {vi:Value} (h:Pck w base g l A c m d vi) (hb:base'≤base):Pck w base' g l A c m d vi:=
 ⟨h.blk,lT hb h.gb,lT hb h.mb,h.parts.base hb,h.map,fun x hx=>⟨⟨(h.raws x hx).1.1,fun h0 k hk=>lT hb ((h.raws x hx).1.2 h0 k hk)⟩,(h.raws x hx).2⟩,by
  rcases h.ids with h1 | ⟨h1,Ai,ci,h2,h3⟩
  ·exact .inl h1
  ·exact .inr ⟨h1,Ai,ci,h2,h3.base hb⟩⟩
theorem Mid.snoc (h:Mid w w' gp xs cN cA vN nN lN vA nA lA) {x:PkA} (hx:Pck w' w.heap.size x.g x.l x.A x.c x.m 0 (.slice none 0 0)):Mid w w' gp (xs++[x]) cN cA vN nN lN vA nA lA:=
 ⟨h.blk,h.lt,h.names,h.all,fun y hy=>by
  rcases List.mem_append.1 hy with h1 | h1
  ·exact h.packs y h1
  ·obtain rfl:=List.mem_singleton.1 h1
   exact hx,h.gr⟩
end
def ZiL (l:List Fil) (gp:Nat) (w:World) (i:Value) (wr:World):Prop:=
 ∃(k:Nat) (xs:List PkA) (n:Nat) (An:OA) (cn:Nat) (Aa:OA) (ca:Nat),i= .int .i64 k∧k≤l.length∧n≤k∧Hid (xs.length=n∧RdF l k (xs.map PkA.pk)∧(xs.map (·.g)).Nodup)∧Mid w wr gp xs (.slice An n cn) (.slice Aa n ca) (.slice An n cn) n (sc (xs.map (·.n))) (.slice Aa n ca) n (pkc xs)
theorem Z5f {l:List Fil} {w w':World} {gp:Nat} {xs:List PkA} {x:PkA} {cN cA:Value} {k n:Nat} {A7 A8:OA} {c7 c8:Nat} (hM:Mid w w' gp (xs++[x]) cN cA (.slice A7 (n+1) c7) (n+1) (sc (xs.map (·.n))++[.string x.n]) (.slice A8 (n+1) c8) (n+1) (pkc xs++[.pointer (some ⟨x.g,0,none⟩)]))
  (hk:k<l.length) (hn:n≤k) (hx:Hid (xs.length=n∧RdF l (k+1) (xs.map PkA.pk++[x.pk])∧(xs.map (·.g)).Nodup∧ ∀y∈xs,y.g≠x.g)) {i:Value} (hi:i= .int .i64 ((k:Int)+1)):ZiL l gp w i ((w'.setCell ⟨gp,0,none⟩ (.slice A7 (n+1) c7)).setCell ⟨gp,1,none⟩ (.slice A8 (n+1) c8)):=by
 obtain ⟨h1,h2,h3,h4⟩:=hx;refine ⟨k+1,xs++[x],n+1,A7,c7,A8,c8,hi,hk,by omega,⟨by rw [List.length_append,h1];rfl,by rw [List.map_append];exact h2,?_⟩,?_⟩
 ·rw [List.map_append]
  refine List.nodup_append.2 ⟨h3,List.pairwise_singleton ..,fun a ha b hb e=> ?_⟩;obtain ⟨y,hy,rfl⟩:=List.mem_map.1 ha;obtain rfl:=List.mem_singleton.1 hb;exact h4 y hy e
 ·have e1:sc ((xs++[x]).map (·.n))=sc (xs.map (·.n))++[.string x.n]:=by simp [sc]
  have e2:pkc (xs++[x])=pkc xs++[.pointer (some ⟨x.g,0,none⟩)]:=by simp [pkc]
  rw [e1,e2];exact hM.close
section
variable {w:World} {g m:Nat} {D:Dk}
set_option maxRecDepth 100000 in
set_option maxHeartbeats 12800000 in
theorem Z5g (h:Dsk w g m D) (hK:OkG 3518437208880 140737488351232 D):Calls Tryz.prog 69 #[.pointer (some ⟨g,0,none⟩)] w (Zjt w (Zv geS D.l)):=by
 have hW:OkW D:=hK.mono (lR _) (by decide);obtain ⟨r,hr⟩: ∃r,r=Zv geS D.l:=⟨_,rfl⟩;rw [←hr];have HR:=qI hr;clear hr;obtain ⟨gp,hgp⟩: ∃gp,gp=w.heap.size:=⟨_,rfl⟩;have ha:Below w.heap.size w (w.alloc (.cells [.slice none 0 0,.slice none 0 0,.int .u32 0,.int .i32 0,.int .u32 0,.slice none 0 0].toArray 138)):=(bR _ _).alloc (lR _) _;have hP0:=Blk.new w 138 [.slice none 0 0,.slice none 0 0,.int .u32 0,.int .i32 0,.int .u32 0,.slice none 0 0];have hs0:(w.alloc (.cells [.slice none 0 0,.slice none 0 0,.int .u32 0,.int .i32 0,.int .u32 0,.slice none 0 0].toArray 138)).heap.size=w.heap.size+1:=by simp
 have HN:=qI (Z0T (h.below ha) hW.toL);have hlen:=hK.len;go_in;go_wp2_with fail;refine HN.out.mono ?_;rintro e w1 ⟨N,cn0,rfl,hon,hb1⟩;rw [hs0] at hon;have hb01:=ha.next hb1;have hlt1:w.heap.size<w1.heap.size:=by have:=hb1.size;rw [hs0] at this;omega
 have hM0:Mid w1 w1 w.heap.size [] (.slice none 0 0) (.slice none 0 0) (.slice none 0 0) 0 (sc []) (.slice none 0 0) 0 (pkc []):=
  ⟨hP0.below hb1 hP0.lt,hlt1,World.ownsRow_nil _ _ _ _,World.ownsRow_nil _ _ _ _,fun x hx=>(List.not_mem_nil hx).elim,gR _ _⟩
 clear hs0 hP0 HN;go_wp2_with fail;go_loopw [16] (fun i wr=>ZiL D.l w.heap.size w1 i wr) (fun i _=>D.l.length-(intOf i).toNat)
 case atStart=>exact ⟨0,[],0,none,0,none,0,rfl,zL _,zL _,⟨rfl,RdF.start,List.nodup_nil⟩,hM0⟩
 case round=>
  obtain ⟨k,xs,n,An,cn,Aa,ca,rfl,hk,hnk,hF,hM⟩:=hrel;have f1:IntKind.i64.wrap ((k:Int)+1)=(k:Int)+1:=qJ _ (by omega);have hbw:Below w.heap.size w wr:=hb01.grown hM.gr hb01.size (fun k e=>by injection e with e;omega);have hDr:=h.below hbw
  by_cases hlt:k<D.l.length
  ·have d1:decide ((k:Int)<(D.l.length:Int))=true:=dT (by omega)
   have d1':(k:Int)<(D.l.length:Int):=by omega
   have hk0:(0:Int)≤(k:Int):=by omega
   obtain ⟨f,hf⟩: ∃f,D.l[k]?=some f:=⟨D.l[k],gE hlt⟩;obtain ⟨nm,q⟩:=f;have hmem:=List.mem_of_getElem? hf;have hnB:=hK.names _ hmem;have hns:=Z03 hnB;change nm.size≤200 at hns;obtain ⟨bb,off,rfl,hbb,hcell⟩:=(Rd.of_own (Z1k hon hM.gr (Nat.lt_succ_self _))).at_ (by omega);have q0:wr.cell? ⟨bb,off+k,none⟩=some (.string nm):=hcell _ _ (by rw [sc,List.getElem?_map,List.getElem?_map,hf];rfl);have hlk:Z1 D.l nm=some q:=(Zj hK.ord).2 hmem;have hqB:=hK.bytes _ hmem;change q.length≤140737488351232 at hqB;have hpk:Z0I nm=(decide (nm.data.toList.take (⟨#[112,47]⟩:BA).size=(⟨#[112,47]⟩:BA).data.toList)&& !ZO nm):=ZfQ nm;have hHP:=ZaU nm ⟨#[112,47]⟩ wr (by unfold maxLen;omega) (by decide);obtain ⟨pb,hpb⟩: ∃pb,pb=decide (nm.data.toList.take (⟨#[112,47]⟩:BA).size=(⟨#[112,47]⟩:BA).data.toList):=⟨_,rfl⟩;rw [←hpb] at hHP hpk;have HP:=qI hHP;have hHS:=ZQ nm wr (by unfold maxLen;omega);obtain ⟨sb,hsb⟩: ∃sb,sb=ZO nm:=⟨_,rfl⟩;change Calls _ _ _ _ fun e w'=>e= .returned (.bool (ZO nm))∧w'=wr at hHS;rw [←hsb] at hHS hpk;have HS:=qI hHS;clear hcell hHP hHS hpb hsb hnB
   cases pb with
   | false=>
    have hF2:=hF.2.1.no hf hpk;have hF3:Hid (xs.length=n∧RdF D.l (k+1) (xs.map PkA.pk)∧(xs.map (·.g)).Nodup):=⟨hF.1,hF2,hF.2.2⟩;clear hF2 hF hpk hf;go_wp2_with fail;refine HP.out.mono ?_;rintro e w3 ⟨rfl,hw3⟩;obtain rfl:=hw3.symm;go_wp2_with fail;exact ⟨⟨k+1,xs,n,An,cn,Aa,ca,by go_num,by omega,by omega,hF3,hM⟩,by simp [intOf];omega⟩
   | true=>
    cases sb with
    | true=>
     have hF2:=hF.2.1.no hf hpk;have hF3:Hid (xs.length=n∧RdF D.l (k+1) (xs.map PkA.pk)∧(xs.map (·.g)).Nodup):=⟨hF.1,hF2,hF.2.2⟩;clear hF2 hF hpk hf;go_wp2_with fail;refine HP.out.mono ?_;rintro e w3 ⟨rfl,hw3⟩;obtain rfl:=hw3.symm;go_wp2_with fail;refine HS.out.mono ?_;rintro e w3 ⟨rfl,hw3⟩;obtain rfl:=hw3.symm;go_wp2_with fail;exact ⟨⟨k+1,xs,n,An,cn,Aa,ca,by go_num,by omega,by omega,hF3,hM⟩,by simp [intOf];omega⟩
    | false=>
     have hRd:=ZS hDr hK.ord nm (fun b hb=>hW.small' hb);have hrd:ZF D nm=(q,0):=by
      unfold ZF;rw [if_neg (by rw [hK.names _ hmem];decide),hlk]
     rw [hrd] at hRd;have HRd:=qI hRd;have hpk2:Z0I nm=true:=hpk;clear hRd hrd hpk;go_wp2_with fail;refine HP.out.mono ?_;rintro e w3 ⟨rfl,hw3⟩;obtain rfl:=hw3.symm;go_wp2_with fail;refine HS.out.mono ?_;rintro e w3 ⟨rfl,hw3⟩;obtain rfl:=hw3.symm;go_wp2_with fail;refine HRd.out.mono ?_;rintro e w3 ⟨b,A,c,hbe,rfl,ho3,hb3⟩;obtain rfl:b=q:=hbe.out;have hcl:=Z5i ho3;have HPa:=qI (Zch A b c w3 (Rd.of_own ho3) hcl.1 hcl.2 hqB);have hM3:=hM.below hb3;have hbw3:=hbw.next hb3;clear HRd hbe;go_wp2_with fail;refine HPa.out.mono ?_
     cases hpl:Z0M geS b with
     | none=>
      rintro e w4 ⟨hb4,rfl⟩;have hHr:=qI (HR.out.trans (hF.2.1.bad hf hpk2 hpl));clear hpl hF HR;go_wp2_with fail;go_ret2;rw [hHr.out];exact ⟨hbw3.next hb4,rfl⟩
     | some ps=>
      rintro e w4 ⟨hb4,g6,l6,A6,c6,m6,hl6,rfl,hP6⟩;have h36:=ZhA hpl;have hM4:=hM3.below hb4;have hbw4:=hbw3.next hb4;have hRb:Rd w4 w4.heap.size 1 A b.length (bc b):=((Rd.of_own ho3).below hb4).more hb4.size;have HC:=qI (Z5H A b c w4 hRb hcl.1 hcl.2 (by omega) (by omega))
      by_cases hc:Zu b=nm
      ·have hF2:=hF.2.1.yes hf hpk2 hpl hc
       have q1:((Zu b).toList !=nm.toList)=false:=Zeo hc;have q2:((Zu b).toList==nm.toList)=true:=Z2M hc
       have hx:Hid (xs.length=n∧RdF D.l (k+1) (xs.map PkA.pk++[PkA.pk ⟨nm,l6,g6,A6,c6,m6⟩])∧(xs.map (·.g)).Nodup∧ ∀y∈xs,y.g≠g6):=⟨hF.1,by
        have e:PkA.pk ⟨nm,l6,g6,A6,c6,m6⟩=(nm,ps):=by rw [←hl6.out];rfl
        rw [e];exact hF2,hF.2.2,fun y hy e=>by
        have h1:=(hM3.packs y hy).blk.lt;have h2:=hP6.gb
        omega⟩
       clear hc hpl hF2 hF;go_wp2_with fail;refine HC.out.mono ?_;rintro e w5 ⟨rfl,hb5⟩;have hM5:=((hM4.below hb5).snoc (x:=⟨nm,l6,g6,A6,c6,m6⟩) ((hP6.below hb5).base (by have:=hM.gr.size;have:=hb3.size;omega))).drew;have hbw5:=hbw4.next hb5;have hs1:w1.heap.size≤w5.heap.size:=by have:=hM.gr.size;have:=hb3.size;have:=hb4.size;have:=hb5.size;omega
       clear HC HPa HP HS;go_upto_region 10 with (fail)
       obtain ⟨y0,y1⟩:=hM5.held;refine Zcz (T:=Till (fun W=>W.cell? ⟨w.heap.size,0,none⟩=some (.slice An n cn)∧W.cell? ⟨w.heap.size,1,none⟩=some (.slice Aa n ca)) 18) (by kernel_rfl) (fun _=>⟨y0,y1⟩) (fun hHeld=> ?_);obtain ⟨u0,hu0⟩: ∃x,x=w5.drew:=⟨_,rfl⟩;have hs2:w1.heap.size≤u0.heap.size:=by rw [hu0];exact hs1
       rw [←hu0] at hM5 hHeld ⊢;clear hu0 y0 y1;refine Zy (i:=0) (oi:=_) (v:=.pointer (some ⟨w.heap.size,0,none⟩)) rfl (by kernel_rfl) (by kernel_rfl) (by kernel_rfl) (by decide) (fun _ _ _ h=>h) (Or.inl ⟨by rfl,fun w9 _=> ?_⟩) hHeld ?_
       ·go_simp
       try simp only [Act.put,sA,sB,sC,sD,sF]
       refine Zy (i:=1) (oi:=_) (v:=.pointer (some ⟨w.heap.size,0,none⟩)) rfl (by kernel_rfl) (by kernel_rfl) (by kernel_rfl) (by decide) (fun _ _ _ h=>h) (Or.inl ⟨by rfl,fun w9 _=> ?_⟩) hHeld ?_
       ·go_simp
       try simp only [Act.put,sA,sB,sC,sD,sE,sF]
       refine Zy (i:=2) (oi:=_) (v:=.pointer (some ⟨w.heap.size,0,none⟩)) rfl (by kernel_rfl) (by kernel_rfl) (by kernel_rfl) (by decide) (fun _ _ _ h=>h) (Or.inl ⟨by rfl,fun w9 _=> ?_⟩) hHeld ?_
       ·go_simp
       try simp only [Act.put,sA,sB,sC,sD,sE,sF]
       refine Zy (i:=3) (oi:=_) (v:=.pointer (some ⟨w.heap.size,0,none⟩)) rfl (by kernel_rfl) (by kernel_rfl) (by kernel_rfl) (by decide) (fun _ _ _ h=>h) (Or.inl ⟨by rfl,fun w9 _=> ?_⟩) hHeld ?_
       ·go_simp
       try simp only [Act.put,sA,sB,sC,sD,sE,sF]
       refine Zy (i:=4) (oi:=_) (v:=.pointer (some ⟨w.heap.size,0,none⟩)) rfl (by kernel_rfl) (by kernel_rfl) (by kernel_rfl) (by decide) (fun _ _ _ h=>h) (Or.inl ⟨by rfl,fun w9 _=> ?_⟩) hHeld ?_
       ·go_simp
       try simp only [Act.put,sA,sB,sC,sD,sE,sF]
       refine Z9T (i:=5) (oi:=_) (v:=.slice An n cn) [8,18] rfl (by kernel_rfl) (by kernel_rfl) (by kernel_rfl) (by kernel_rfl) (by kernel_rfl) (by decide) (by decide) (fun _ _ _ h=>h) (Or.inl ⟨by rfl,fun w9 hS=> ?_⟩) hHeld ?_
       ·obtain ⟨s0,s1⟩:=hS
        go_simp
       try simp only [Act.put,sA,sB,sC,sD,sE,sF]
       refine Zy (i:=6) (oi:=_) (v:=.string nm) rfl (by kernel_rfl) (by kernel_rfl) (by kernel_rfl) (by decide) (fun _ _ _ h=>h) (Or.inl ⟨by rfl,fun w9 _=> ?_⟩) hHeld ?_
       ·go_simp
       try simp only [Act.put,sA,sB,sC,sD,sE,sF]
       refine Zy (i:=9) (oi:=_) (v:=.pointer (some ⟨w.heap.size,0,none⟩)) rfl (by kernel_rfl) (by kernel_rfl) (by kernel_rfl) (by decide) (fun _ _ _ h=>h) (Or.inl ⟨by rfl,fun w9 _=> ?_⟩) hHeld ?_
       ·go_simp
       try simp only [Act.put,sA,sB,sC,sD,sE,sF]
       refine Zy (i:=10) (oi:=_) (v:=.pointer (some ⟨w.heap.size,0,none⟩)) rfl (by kernel_rfl) (by kernel_rfl) (by kernel_rfl) (by decide) (fun _ _ _ h=>h) (Or.inl ⟨by rfl,fun w9 _=> ?_⟩) hHeld ?_
       ·go_simp
       try simp only [Act.put,sA,sB,sC,sD,sE,sF]
       refine Zy (i:=11) (oi:=_) (v:=.pointer (some ⟨w.heap.size,1,none⟩)) rfl (by kernel_rfl) (by kernel_rfl) (by kernel_rfl) (by decide) (fun _ _ _ h=>h) (Or.inl ⟨by rfl,fun w9 _=> ?_⟩) hHeld ?_
       ·go_simp
       try simp only [Act.put,sA,sB,sC,sD,sE,sF]
       refine Z9T (i:=12) (oi:=_) (v:=.slice Aa n ca) [15,18] rfl (by kernel_rfl) (by kernel_rfl) (by kernel_rfl) (by kernel_rfl) (by kernel_rfl) (by decide) (by decide) (fun _ _ _ h=>h) (Or.inl ⟨by rfl,fun w9 hS=> ?_⟩) hHeld ?_
       ·obtain ⟨s0,s1⟩:=hS
        go_simp
       try simp only [Act.put,sA,sB,sC,sD,sE,sF]
       refine Zy (i:=13) (oi:=_) (v:=.pointer (some ⟨g6,0,none⟩)) rfl (by kernel_rfl) (by kernel_rfl) (by kernel_rfl) (by decide) (fun _ _ _ h=>h) (Or.inl ⟨by rfl,fun w9 _=> ?_⟩) hHeld ?_
       ·go_simp
       try simp only [Act.put,sA,sB,sC,sD,sE,sF]
       refine ZA (rs:=[7,14]) (by kernel_rfl) (by simp) (AllReadyT.cons (o:=_) rfl (fun K hK=> ?_) (AllReadyT.cons (o:=_) rfl (fun K hK=> ?_) AllReadyT.nil))
       ·clear hHeld
        have hM6:=hM5.alloc (.cells #[.string nm] 9);have hb1:=Blk.new u0 9 [.string nm];go_simp;refine hK.out _ _ (fun _=>hM6.held) (fun hHeld=> ?_);clear hK K
        try simp only [Act.put,sA,sB,sC,sD,sE,sF]
        obtain ⟨W6,eW6⟩: ∃x,x=u0.alloc (.cells #[.string nm] 9):=⟨_,rfl⟩;rw [←eW6] at hHeld ⊢;change Blk (u0.alloc (.cells #[.string nm] 9)) _ _ _ at hb1;rw [←eW6] at hM6;rw [←eW6] at hb1;have zW6:u0.heap.size≤W6.heap.size:=by rw [eW6];simp
        clear eW6;refine ZA (rs:=[8,14]) (by kernel_rfl) (by simp) (AllReadyT.cons (o:=_) rfl (fun K hK=> ?_) (AllReadyT.cons (o:=_) rfl (fun K hK=> ?_) AllReadyT.nil))
        ·clear hHeld
         refine Za9 rfl (.tmp 51) (.tmp 53) 38 9 _ 16 rfl Tryz.underlying38 Z2m rfl w1.heap.size (.slice An n cn) n (sc (xs.map fun x:PkA=>x.n)) rfl hM6.names _ _ 1 1 [Value.string nm] rfl (Rd.cellOne (hb1.cell 0)) (by simp [Value.oneCell']) (by unfold maxLen;omega) (by omega) (by omega) ?_;intro A7 c7 W7 y1 y2 y3 y4 y5;have hM7:=hM6.appN y3 y1;have hW7:=y3.size;refine hK.out _ _ (fun _=>hM7.held) (fun hHeld=> ?_);clear hK K
         try simp only [Act.put,sA,sB,sC,sD,sE,sF]
         refine ZA (rs:=[14]) (by kernel_rfl) (by simp) (AllReadyT.cons (o:=_) rfl (fun K hK=> ?_) AllReadyT.nil);have hM8:=hM7.alloc (.cells #[.pointer (some ⟨g6,0,none⟩)] 139);have hb2:=Blk.new W7 139 [.pointer (some ⟨g6,0,none⟩)];go_simp;refine hK.out _ _ (fun _=>hM8.held) (fun hHeld=> ?_);clear hK K
         try simp only [Act.put,sA,sB,sC,sD,sE,sF]
         obtain ⟨W8,eW8⟩: ∃x,x=W7.alloc (.cells #[.pointer (some ⟨g6,0,none⟩)] 139):=⟨_,rfl⟩;rw [←eW8] at hHeld ⊢;change Blk (W7.alloc (.cells #[.pointer (some ⟨g6,0,none⟩)] 139)) _ _ _ at hb2;rw [←eW8] at hM8;rw [←eW8] at hb2;have zW8:W7.heap.size≤W8.heap.size:=by rw [eW8];simp
         clear eW8;refine ZA (rs:=[15]) (by kernel_rfl) (by simp) (AllReadyT.cons (o:=_) rfl (fun K hK=> ?_) AllReadyT.nil);refine Za9 rfl (.tmp 58) (.tmp 60) 124 139 _ 8 rfl Tryz.underlying124 Z8q rfl w1.heap.size (.slice Aa n ca) n (pkc xs) rfl hM8.all _ _ 1 1 [Value.pointer (some ⟨g6,0,none⟩)] rfl (Rd.cellOne (hb2.cell 0)) (by simp [Value.oneCell']) (by unfold maxLen;omega) (by omega) (by omega) ?_;intro A8 c8 W9 z1 z2 z3 z4 z5;have hM9:=hM8.appA z3 z1;refine hK.out _ _ (fun _=>hM9.held) (fun hHeld=> ?_);clear hK K
         try simp only [Act.put,sA,sB,sC,sD,sE,sF]
         refine Zy (i:=16) (oi:=_) (v:=.pointer (some ⟨w.heap.size,0,none⟩)) rfl (by kernel_rfl) (by kernel_rfl) (by kernel_rfl) (by decide) (fun _ _ _ h=>h) (Or.inl ⟨by rfl,fun w9 _=> ?_⟩) hHeld ?_
         ·go_simp
         try simp only [Act.put,sA,sB,sC,sD,sE,sF]
         refine Zy (i:=17) (oi:=_) (v:=.pointer (some ⟨w.heap.size,0,none⟩)) rfl (by kernel_rfl) (by kernel_rfl) (by kernel_rfl) (by decide) (fun _ _ _ h=>h) (Or.inl ⟨by rfl,fun w9 _=> ?_⟩) hHeld ?_
         ·go_simp
         try simp only [Act.put,sA,sB,sC,sD,sE,sF]
         refine ZA (rs:=[18]) (by kernel_rfl) (by simp) (AllReadyT.cons (o:=_) rfl (fun K hK=> ?_) AllReadyT.nil);have f0:=hM9.blk.free 0;obtain ⟨c0,_⟩:=hM9.held;have f2:=(hM9.blk.set 0 (.slice A7 (n+1) c7)).free 1;have c2:=(hM9.blk.set 0 (.slice A7 (n+1) c7)).cell 1;go_simp;refine hK.out _ _ (fun h=>by simp at h) (fun hHeld=> ?_);clear hK K
         try simp only [Act.put,sA,sB,sC,sD,sE,sF]
         refine Zy (i:=19) (oi:=_) (v:=.pointer (some ⟨w.heap.size,0,none⟩)) rfl (by kernel_rfl) (by kernel_rfl) (by kernel_rfl) (by decide) (fun _ _ _ h=>h) (Or.inl ⟨by rfl,fun w9 _=> ?_⟩) hHeld ?_
         ·go_simp
         try simp only [Act.put,sA,sB,sC,sD,sE,sF]
         refine Zy (i:=20) (oi:=_) (v:=.pointer (some ⟨w.heap.size,1,none⟩)) rfl (by kernel_rfl) (by kernel_rfl) (by kernel_rfl) (by decide) (fun _ _ _ h=>h) (Or.inl ⟨by rfl,fun w9 _=> ?_⟩) hHeld ?_
         ·go_simp
         try simp only [Act.put,sA,sB,sC,sD,sE,sF]
         refine ZA (rs:=[21]) (by kernel_rfl) (by simp) (AllReadyT.cons (o:=_) rfl (fun K hK=> ?_) AllReadyT.nil);go_simp;refine hK.out _ _ (fun h=>by simp at h) (fun hHeld=> ?_);clear hK K
         try simp only [Act.put,sA,sB,sC,sD,sE,sF]
         refine Z42 (by kernel_rfl) ?_ _;have hR:=Z5f hM9 hlt hnk hx (i:=.int .i64 ((k:Int)+1)) rfl;clear hM9 f0 f2 c0 c2 hx;go_wp2_with fail;exact ⟨hR,by simp [intOf];omega⟩
        ·clear hHeld
         have hM7:=hM6.alloc (.cells #[.pointer (some ⟨g6,0,none⟩)] 139);have hb2:=Blk.new W6 139 [.pointer (some ⟨g6,0,none⟩)];have hb3:=hb1.alloc (.cells #[.pointer (some ⟨g6,0,none⟩)] 139);go_simp;refine hK.out _ _ (fun _=>hM7.held) (fun hHeld=> ?_);clear hK K
         try simp only [Act.put,sA,sB,sC,sD,sE,sF]
         obtain ⟨W7,eW7⟩: ∃x,x=W6.alloc (.cells #[.pointer (some ⟨g6,0,none⟩)] 139):=⟨_,rfl⟩;rw [←eW7] at hHeld ⊢;change Blk (W6.alloc (.cells #[.pointer (some ⟨g6,0,none⟩)] 139)) _ _ _ at hb2;rw [←eW7] at hM7;rw [←eW7] at hb2;rw [←eW7] at hb3;have zW7:W6.heap.size≤W7.heap.size:=by rw [eW7];simp
         clear eW7;refine ZA (rs:=[8]) (by kernel_rfl) (by simp) (AllReadyT.cons (o:=_) rfl (fun K hK=> ?_) AllReadyT.nil);refine Za9 rfl (.tmp 51) (.tmp 53) 38 9 _ 16 rfl Tryz.underlying38 Z2m rfl w1.heap.size (.slice An n cn) n (sc (xs.map fun x:PkA=>x.n)) rfl hM7.names _ _ 1 1 [Value.string nm] rfl (Rd.cellOne (hb3.cell 0)) (by simp [Value.oneCell']) (by unfold maxLen;omega) (by omega) (by omega) ?_;intro A7 c7 W8 y1 y2 y3 y4 y5;have hM8:=hM7.appN y3 y1;have hW8:=y3.size;have hb4:=hb2.grown y3 (own_ne hM7.names hb2 (by decide)).symm;refine hK.out _ _ (fun _=>hM8.held) (fun hHeld=> ?_);clear hK K
         try simp only [Act.put,sA,sB,sC,sD,sE,sF]
         refine ZA (rs:=[15]) (by kernel_rfl) (by simp) (AllReadyT.cons (o:=_) rfl (fun K hK=> ?_) AllReadyT.nil);refine Za9 rfl (.tmp 58) (.tmp 60) 124 139 _ 8 rfl Tryz.underlying124 Z8q rfl w1.heap.size (.slice Aa n ca) n (pkc xs) rfl hM8.all _ _ 1 1 [Value.pointer (some ⟨g6,0,none⟩)] rfl (Rd.cellOne (hb4.cell 0)) (by simp [Value.oneCell']) (by unfold maxLen;omega) (by omega) (by omega) ?_;intro A8 c8 W9 z1 z2 z3 z4 z5;have hM9:=hM8.appA z3 z1;refine hK.out _ _ (fun _=>hM9.held) (fun hHeld=> ?_);clear hK K
         try simp only [Act.put,sA,sB,sC,sD,sE,sF]
         refine Zy (i:=16) (oi:=_) (v:=.pointer (some ⟨w.heap.size,0,none⟩)) rfl (by kernel_rfl) (by kernel_rfl) (by kernel_rfl) (by decide) (fun _ _ _ h=>h) (Or.inl ⟨by rfl,fun w9 _=> ?_⟩) hHeld ?_
         ·go_simp
         try simp only [Act.put,sA,sB,sC,sD,sE,sF]
         refine Zy (i:=17) (oi:=_) (v:=.pointer (some ⟨w.heap.size,0,none⟩)) rfl (by kernel_rfl) (by kernel_rfl) (by kernel_rfl) (by decide) (fun _ _ _ h=>h) (Or.inl ⟨by rfl,fun w9 _=> ?_⟩) hHeld ?_
         ·go_simp
         try simp only [Act.put,sA,sB,sC,sD,sE,sF]
         refine ZA (rs:=[18]) (by kernel_rfl) (by simp) (AllReadyT.cons (o:=_) rfl (fun K hK=> ?_) AllReadyT.nil);have f0:=hM9.blk.free 0;obtain ⟨c0,_⟩:=hM9.held;have f2:=(hM9.blk.set 0 (.slice A7 (n+1) c7)).free 1;have c2:=(hM9.blk.set 0 (.slice A7 (n+1) c7)).cell 1;go_simp;refine hK.out _ _ (fun h=>by simp at h) (fun hHeld=> ?_);clear hK K
         try simp only [Act.put,sA,sB,sC,sD,sE,sF]
         refine Zy (i:=19) (oi:=_) (v:=.pointer (some ⟨w.heap.size,0,none⟩)) rfl (by kernel_rfl) (by kernel_rfl) (by kernel_rfl) (by decide) (fun _ _ _ h=>h) (Or.inl ⟨by rfl,fun w9 _=> ?_⟩) hHeld ?_
         ·go_simp
         try simp only [Act.put,sA,sB,sC,sD,sE,sF]
         refine Zy (i:=20) (oi:=_) (v:=.pointer (some ⟨w.heap.size,1,none⟩)) rfl (by kernel_rfl) (by kernel_rfl) (by kernel_rfl) (by decide) (fun _ _ _ h=>h) (Or.inl ⟨by rfl,fun w9 _=> ?_⟩) hHeld ?_
         ·go_simp
         try simp only [Act.put,sA,sB,sC,sD,sE,sF]
         refine ZA (rs:=[21]) (by kernel_rfl) (by simp) (AllReadyT.cons (o:=_) rfl (fun K hK=> ?_) AllReadyT.nil);go_simp;refine hK.out _ _ (fun h=>by simp at h) (fun hHeld=> ?_);clear hK K
         try simp only [Act.put,sA,sB,sC,sD,sE,sF]
         refine Z42 (by kernel_rfl) ?_ _;have hR:=Z5f hM9 hlt hnk hx (i:=.int .i64 ((k:Int)+1)) rfl;clear hM9 f0 f2 c0 c2 hx;go_wp2_with fail;exact ⟨hR,by simp [intOf];omega⟩
       ·clear hHeld
        have hM6:=hM5.alloc (.cells #[.pointer (some ⟨g6,0,none⟩)] 139);have hb2:=Blk.new u0 139 [.pointer (some ⟨g6,0,none⟩)];go_simp;refine hK.out _ _ (fun _=>hM6.held) (fun hHeld=> ?_);clear hK K
        try simp only [Act.put,sA,sB,sC,sD,sE,sF]
        obtain ⟨W6,eW6⟩: ∃x,x=u0.alloc (.cells #[.pointer (some ⟨g6,0,none⟩)] 139):=⟨_,rfl⟩;rw [←eW6] at hHeld ⊢;change Blk (u0.alloc (.cells #[.pointer (some ⟨g6,0,none⟩)] 139)) _ _ _ at hb2;rw [←eW6] at hM6;rw [←eW6] at hb2;have zW6:u0.heap.size≤W6.heap.size:=by rw [eW6];simp
        clear eW6;refine ZA (rs:=[7]) (by kernel_rfl) (by simp) (AllReadyT.cons (o:=_) rfl (fun K hK=> ?_) AllReadyT.nil);have hM7:=hM6.alloc (.cells #[.string nm] 9);have hb1:=Blk.new W6 9 [.string nm];have hb3:=hb2.alloc (.cells #[.string nm] 9);go_simp;refine hK.out _ _ (fun _=>hM7.held) (fun hHeld=> ?_);clear hK K
        try simp only [Act.put,sA,sB,sC,sD,sE,sF]
        obtain ⟨W7,eW7⟩: ∃x,x=W6.alloc (.cells #[.string nm] 9):=⟨_,rfl⟩;rw [←eW7] at hHeld ⊢;change Blk (W6.alloc (.cells #[.string nm] 9)) _ _ _ at hb1;rw [←eW7] at hM7;rw [←eW7] at hb1;rw [←eW7] at hb3;have zW7:W6.heap.size≤W7.heap.size:=by rw [eW7];simp
        clear eW7;refine ZA (rs:=[8]) (by kernel_rfl) (by simp) (AllReadyT.cons (o:=_) rfl (fun K hK=> ?_) AllReadyT.nil);refine Za9 rfl (.tmp 51) (.tmp 53) 38 9 _ 16 rfl Tryz.underlying38 Z2m rfl w1.heap.size (.slice An n cn) n (sc (xs.map fun x:PkA=>x.n)) rfl hM7.names _ _ 1 1 [Value.string nm] rfl (Rd.cellOne (hb1.cell 0)) (by simp [Value.oneCell']) (by unfold maxLen;omega) (by omega) (by omega) ?_;intro A7 c7 W8 y1 y2 y3 y4 y5;have hM8:=hM7.appN y3 y1;have hW8:=y3.size;have hb4:=hb3.grown y3 (own_ne hM7.names hb3 (by decide)).symm;refine hK.out _ _ (fun _=>hM8.held) (fun hHeld=> ?_);clear hK K
        try simp only [Act.put,sA,sB,sC,sD,sE,sF]
        refine ZA (rs:=[15]) (by kernel_rfl) (by simp) (AllReadyT.cons (o:=_) rfl (fun K hK=> ?_) AllReadyT.nil);refine Za9 rfl (.tmp 58) (.tmp 60) 124 139 _ 8 rfl Tryz.underlying124 Z8q rfl w1.heap.size (.slice Aa n ca) n (pkc xs) rfl hM8.all _ _ 1 1 [Value.pointer (some ⟨g6,0,none⟩)] rfl (Rd.cellOne (hb4.cell 0)) (by simp [Value.oneCell']) (by unfold maxLen;omega) (by omega) (by omega) ?_;intro A8 c8 W9 z1 z2 z3 z4 z5;have hM9:=hM8.appA z3 z1;refine hK.out _ _ (fun _=>hM9.held) (fun hHeld=> ?_);clear hK K
        try simp only [Act.put,sA,sB,sC,sD,sE,sF]
        refine Zy (i:=16) (oi:=_) (v:=.pointer (some ⟨w.heap.size,0,none⟩)) rfl (by kernel_rfl) (by kernel_rfl) (by kernel_rfl) (by decide) (fun _ _ _ h=>h) (Or.inl ⟨by rfl,fun w9 _=> ?_⟩) hHeld ?_
        ·go_simp
        try simp only [Act.put,sA,sB,sC,sD,sE,sF]
        refine Zy (i:=17) (oi:=_) (v:=.pointer (some ⟨w.heap.size,0,none⟩)) rfl (by kernel_rfl) (by kernel_rfl) (by kernel_rfl) (by decide) (fun _ _ _ h=>h) (Or.inl ⟨by rfl,fun w9 _=> ?_⟩) hHeld ?_
        ·go_simp
        try simp only [Act.put,sA,sB,sC,sD,sE,sF]
        refine ZA (rs:=[18]) (by kernel_rfl) (by simp) (AllReadyT.cons (o:=_) rfl (fun K hK=> ?_) AllReadyT.nil);have f0:=hM9.blk.free 0;obtain ⟨c0,_⟩:=hM9.held;have f2:=(hM9.blk.set 0 (.slice A7 (n+1) c7)).free 1;have c2:=(hM9.blk.set 0 (.slice A7 (n+1) c7)).cell 1;go_simp;refine hK.out _ _ (fun h=>by simp at h) (fun hHeld=> ?_);clear hK K
        try simp only [Act.put,sA,sB,sC,sD,sE,sF]
        refine Zy (i:=19) (oi:=_) (v:=.pointer (some ⟨w.heap.size,0,none⟩)) rfl (by kernel_rfl) (by kernel_rfl) (by kernel_rfl) (by decide) (fun _ _ _ h=>h) (Or.inl ⟨by rfl,fun w9 _=> ?_⟩) hHeld ?_
        ·go_simp
        try simp only [Act.put,sA,sB,sC,sD,sE,sF]
        refine Zy (i:=20) (oi:=_) (v:=.pointer (some ⟨w.heap.size,1,none⟩)) rfl (by kernel_rfl) (by kernel_rfl) (by kernel_rfl) (by decide) (fun _ _ _ h=>h) (Or.inl ⟨by rfl,fun w9 _=> ?_⟩) hHeld ?_
        ·go_simp
        try simp only [Act.put,sA,sB,sC,sD,sE,sF]
        refine ZA (rs:=[21]) (by kernel_rfl) (by simp) (AllReadyT.cons (o:=_) rfl (fun K hK=> ?_) AllReadyT.nil);go_simp;refine hK.out _ _ (fun h=>by simp at h) (fun hHeld=> ?_);clear hK K
        try simp only [Act.put,sA,sB,sC,sD,sE,sF]
        refine Z42 (by kernel_rfl) ?_ _;have hR:=Z5f hM9 hlt hnk hx (i:=.int .i64 ((k:Int)+1)) rfl;clear hM9 f0 f2 c0 c2 hx;go_wp2_with fail;exact ⟨hR,by simp [intOf];omega⟩
      ·have hHr:=qI (HR.out.trans (hF.2.1.other hf hpk2 hpl hc))
       have q1:((Zu b).toList !=nm.toList)=true:=ZbG hc;have q2:((Zu b).toList==nm.toList)=false:=Z2N hc;clear hc hpl hF HR;go_wp2_with fail;refine HC.out.mono ?_;rintro e w5 ⟨rfl,hb5⟩;go_wp2_with fail;go_ret2;rw [hHr.out];exact ⟨hbw4.next hb5,rfl⟩
  ·have d1:decide ((k:Int)<(D.l.length:Int))=false:=qF (by omega)
   obtain rfl:k=D.l.length:=by omega
   have hr:r=some (xs.map PkA.pk):=HR.out.trans hF.2.1.all;obtain ⟨hF1,hF2,hF3⟩:=hF;subst hF1;have hHr:=qI hr;clear hr HR hF2;go_wp2_with fail;go_ret2;rw [hHr.out];exact ⟨hbw,w1.heap.size,w.heap.size,xs,An,cn,Aa,ca,rfl,rfl,Nat.le_of_lt hlt1,lR _,hM.blk,hM.names,hM.all,fun x hx=>⟨_,_,hM.packs x hx,fun _=>⟨rfl,rfl⟩⟩,hF3,.inl ⟨rfl,rfl⟩,hM.gr.size⟩
end
end Go.Proofs.YtecpbcmpncgokaaGreat
set_option linter.unusedVariables false
namespace Go.Proofs.YtecpbcmpncgokaaGreat
open Go.RowKit Go.Dol
theorem Z5I: ∀(n:Nat) (prev:LU) (d:Nat) (l:LU) (ps:List Pt) (r:LU),ZD geS n prev d l=some (ps,r)→ps.length=n∧ ∀x∈ps,Zd geS x.raw=true∧x.id=ZC x.raw
 | 0,_,_,_,ps,r,h=>by
  rw [ZD] at h;injection h with h
  injection h with h1 h2
  rw [←h1];exact ⟨rfl,fun x hx=>(List.not_mem_nil hx).elim⟩
 | n+1,prev,d,l,ps,r,h=>by
  rw [ZD] at h;split at h
  ·cases h
  ·rename_i p rest hp
   split at h
   ·cases h
   ·rename_i qs r' hq
    injection h with h
    injection h with h1 h2
    obtain ⟨h3,h4⟩:=Z5I n _ _ _ _ _ hq;rw [←h1];refine ⟨by rw [List.length_cons,h3],fun x hx=> ?_⟩;rcases List.mem_cons.1 hx with rfl | hx
    ·unfold Z1g at hp
     split at hp
     ·cases hp
     ·split at hp
      ·cases hp
      ·split at hp
       ·cases hp
       ·split at hp
        ·rename_i h5
         injection hp with hp
         injection hp with hp _
         rw [←hp];exact ⟨h5.2,h5.1.symm⟩
        ·cases hp
    ·exact h4 x hx
theorem Z8h {b:LU} {ps:List Pt} (h:Z0M geS b=some ps):ps.length≤4096∧(∀x∈ps,Zd geS x.raw=true∧x.id=ZC x.raw)∧(ps.map (·.id)).Nodup:=by
 unfold Z0M at h;split at h
 ·cases h
 ·split at h
  ·cases h
  ·split at h
   ·cases h
   ·split at h
    ·cases h
    ·rename_i h1 _ _ _ hr
     split at h
     ·rename_i h2
      injection h with h
      obtain ⟨h3,h4⟩:=Z5I _ _ _ _ _ _ hr;rw [←h];exact ⟨by omega,h4,h2.2⟩
     ·cases h
theorem Z2s: ∀{l:List Fil} {P:List Pk},Zv geS l=some P→P.length≤l.length∧ ∀p∈P,∃b,(p.1,b)∈l∧Z0I p.1=true∧Z0M geS b=some p.2∧Zu b=p.1
 | [],P,h=>by
  rw [Zv] at h;injection h with h
  rw [←h];exact ⟨lR _,fun p hp=>(List.not_mem_nil hp).elim⟩
 | f::r,P,h=>by
  rw [Zv] at h;split at h
  ·rename_i hn
   split at h
   ·cases h
   ·rename_i ps hps
    split at h
    ·rename_i hc
     cases hr:Zv geS r with
     | none=>rw [hr] at h;cases h
     | some Q=>
      rw [hr] at h;injection h with h
      obtain ⟨h1,h2⟩:=Z2s hr;rw [←h];refine ⟨by rw [List.length_cons,List.length_cons];omega,fun p hp=> ?_⟩;rcases List.mem_cons.1 hp with rfl | hp
      ·exact ⟨f.2,List.mem_cons_self ..,hn,hps,hc⟩
      ·obtain ⟨b,h3,h4⟩:=h2 p hp
       exact ⟨b,List.mem_cons_of_mem _ h3,h4⟩
    ·cases h
  ·obtain ⟨h1,h2⟩:=Z2s h
   refine ⟨by rw [List.length_cons];omega,fun p hp=> ?_⟩;obtain ⟨b,h3,h4⟩:=h2 p hp;exact ⟨b,List.mem_cons_of_mem _ h3,h4⟩
theorem ZfR {l:List Fil} {P:List Pk} (h:Zv geS l=some P):PkOk P:=fun p hp=>by
 obtain ⟨b,_,_,h1,_⟩:=(Z2s h).2 p hp;obtain ⟨h2,h3,_⟩:=Z8h h1;exact ⟨h2,fun x hx=>Z17 _ (h3 x hx).1⟩
def Zhs (w:World) (g m:Nat) (D:Dk) (r:Option (List Pk)) (e:Ending) (w':World):Prop:=
 Below w.heap.size w w'∧match r with
 | none=>e= .returned (.tuple #[.pointer none,.int .i64 2])
 | some P=> ∃gs base gp xs,Hid (xs.map PkA.pk=P)∧e= .returned (.tuple #[.pointer (some ⟨gs,0,none⟩),.int .i64 0])∧w.heap.size≤gs∧w.heap.size≤gp∧w.heap.size≤base∧Sto w' gs g m base gp D xs
section
variable {w w':World} {base gp gs g m:Nat} {xs:List PkA} {D:Dk}
theorem ZaX:Z4 ⟨#[112,47]⟩=true:=by decide
set_option maxRecDepth 100000 in
set_option maxHeartbeats 1600000 in
theorem Z47 (h:Dsk w g m D) (hK:OkG 3518437208880 140737488351232 D):Calls Tryz.prog 17 #[.pointer (some ⟨g,0,none⟩)] w (Zhs w g m D (Zv geS D.l)):=by
 have hW:OkW D:=hK.mono (lR _) (by decide);obtain ⟨r,hr⟩: ∃r,r=Zv geS D.l:=⟨_,rfl⟩;rw [←hr];have HR:=qI hr;clear hr;have HRd:=qI (ZS h hK.ord ⟨#[112,47]⟩ (fun b hb=>hW.small' hb));have hk:(ZF D ⟨#[112,47]⟩).2≠1:=by
  unfold ZF;rw [if_neg (by rw [ZaX];decide)];cases Z1 D.l ⟨#[112,47]⟩<;>simp
 obtain ⟨q,hq⟩: ∃q,q=ZF D ⟨#[112,47]⟩:=⟨_,rfl⟩;rw [←hq] at HRd hk;have z1:(q.2==1)=false:=beq_eq_false_iff_ne.2 hk;clear hq hk;go_in;go_wp2_with fail;refine HRd.out.mono ?_;rintro e w1 ⟨b,A,c,hbe,rfl,ho1,hb1⟩;have h1:=h.below hb1;have HP:=qI (Z5g h1 hK);rw [←HR.out] at HP;clear HRd hbe;go_wp2_with fail;refine HP.out.mono ?_;clear HR HP
 cases r with
 | none=>
  rintro e w2 ⟨hb2,rfl⟩;go_wp2_with fail;go_ret2;exact ⟨hb1.next hb2,rfl⟩
 | some P=>
  rintro e w2 ⟨hb2,base,gp,xs,An,cn,Aa,ca,hx,rfl,hbase,hgp,hpk⟩;have hs1:=hb1.size;have hs2:=hb2.size;obtain ⟨hg1,hm1⟩:=h.lt;have hb02:=hb1.next hb2;have hst:=Blk.new w2 100 [.pointer (some ⟨g,0,none⟩),.pointer (some ⟨gp,0,none⟩)];have hb3:Below w2.heap.size w2 (w2.alloc (.cells #[.pointer (some ⟨g,0,none⟩),.pointer (some ⟨gp,0,none⟩)] 100)):=(bR _ _).alloc (lR _) _;have hd3:=((h1.below hb2).below hb3);have hp3:=hpk.below hb3;go_wp2_with fail;go_ret2;exact ⟨hb02.next hb3,w2.heap.size,base,gp,xs,hx,rfl,by omega,by omega,by omega,hst,hd3,by omega,An,cn,Aa,ca,0,_,hp3⟩
end
end Go.Proofs.YtecpbcmpncgokaaGreat
