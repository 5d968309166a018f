/- What holds of layer 'store', in plain Lean: a disk that holds just some objects; what is built, kept and cleared there. No program is in sight. Conditions: as each lemma names. The layer 'store': the walk of Repack. Conditions: a disk in good order with room for one more file's name; packs in good order; few ids. The layer 'store': the walks of Add and Packs. Conditions: a disk in good order, packs in good order. sync.Once in one run, for whichever function is handed to it. Conditions: the lock is free. slices.Sort and slices.Compact over a row of texts of the caller's own: the library's contracts at this seat, in rows' words. Conditions: at most 2^40 texts. -/
import Derived.Test.YtecpbcmpncgokaaGreatSto8
import Derived.Test.YtecpbcmpncgokaaGreatLoo2
import Derived.Test.YtecpbcmpncgokaaGreatShort
import Derived.Test.YtecpbcmpncgokaaGreatSto4
import Derived.Test.YtecpbcmpncgokaaGreatSto1
import Derived.Test.YtecpbcmpncgokaaGreatRefDisk
import Derived.Test.YtecpbcmpncgokaaGreatOkL
import Derived.Test.YtecpbcmpncgokaaGreatDisk2
import Derived.Shelf.Slices.CompactS
import Derived.Lib.OwnBridge
import Derived.Sort.OwnSorted
set_option linter.unusedVariables false
namespace Go.Proofs.YtecpbcmpncgokaaGreat
open Go.RowKit Go.Dol
def Zh4 (r:LU):Fil:=(Zc (idO r),Zs r)
structure Just (D:Dk) (os:List (LU)):Prop where
 calm:CalmD D
 objs: ∀r∈os,Zd geS r=true
 nodup:(os.map idO).Nodup
 files:D.l.Perm (os.map Zh4)
theorem Z81: ∀{os:List (LU)},(∀r∈os,Zd geS r=true)→ZC (os.map Zh4)≤2621600*(os.length:Int)
 | [],_=>Int.le_refl _
 | r::os,h=>by
  have h1:=Z4i (h r (List.mem_cons_self ..));have h2:=Z81 fun q hq=>h q (List.mem_cons_of_mem _ hq);have h3:=Z2f (idO r);have h4:=ZR r;rw [List.map_cons,ZC,List.length_cons];unfold Z2E;simp only [Zh4];omega
section
variable {D:Dk} {os ks:List (LU)} {b:LU}
theorem Just.fo (h:Just D os):FO D:=fun f hf=>by
 obtain ⟨r,hr,rfl⟩:=List.mem_map.1 (h.files.mem_iff.1 hf);exact ⟨r,h.objs r hr,rfl⟩
theorem Just.get (h:Just D os) {r:LU} (hr:r∈os):getO geS D (idO r)= .ok r:=
 ZcY (h.objs r hr) rfl ((Zi h.calm.ok.ord).2 (h.files.mem_iff.2 (List.mem_map.2 ⟨r,hr,rfl⟩)))
theorem Just.room (h:Just D os):D.cap-2621600*(os.length:Int)≤frD D:=by
 have:=Z81 h.objs;rw [h.calm.free,Z4I h.files];omega
theorem Just.put (h:Just D os) {raw:LU} (h1:Zd geS raw=true) (hroom:83+((Zs raw).length:Int)≤frD D):
  (∃b,getO geS D (idO raw)= .ok b∧putO geS D raw=(if b=raw then .ok (idO raw) else .error 7,D))∨
  ∃D',getO geS D (idO raw)= .error 6∧putO geS D raw=(.ok (idO raw),D')∧Just D' (os++[raw])∧D'.cap=D.cap∧frD D'=frD D-(82+((Zs raw).length:Int)):=by
 rcases ZfY h.calm h.fo h1 hroom with ⟨b,hb,g,e⟩ | ⟨g,e⟩ | ⟨D',g,e,c1,c2,c3,c4,c5,_,_,c8⟩
 ·exact .inl ⟨b,g,by rw [if_neg hb];exact e⟩
 ·exact .inl ⟨raw,g,by rw [if_pos rfl];exact e⟩
 ·refine .inr ⟨D',g,e,⟨c1,fun r hr=> ?_,?_,?_⟩,c3,c8⟩
  ·rcases List.mem_append.1 hr with hr | hr
   ·exact h.objs r hr
   ·obtain rfl:=List.mem_singleton.1 hr
    exact h1
  ·rw [List.map_append]
   refine List.nodup_append.2 ⟨h.nodup,List.pairwise_singleton ..,fun a ha b hb e=> ?_⟩;obtain rfl:b=idO raw:=by simpa using hb
   obtain ⟨r,hr,hre⟩:=List.mem_map.1 ha;have:=h.get hr;rw [hre,e,g] at this;cases this
  ·rw [c4,List.map_append]
   refine (Z2d ..).trans ?_;rw [Z0t c5];exact (h.files.cons _).trans (List.perm_append_singleton ..).symm
theorem Z6Y (D:Dk) (id:BA):getS geS D [] id=getO geS D id:=by
 unfold getS;split
 ·rename_i h
  exact h.symm
 ·rename_i k h
  split
  ·rename_i h6
   rw [h,h6]
   rfl
  ·exact h.symm
theorem ZaN (D:Dk) (raw:LU):putS geS D [] raw=putO geS D raw:=by
 by_cases h1:Zd geS raw=true
 ·rw [ZaH h1,Z6Y]
  have h2:=ZdW (ge:=geS) (D:=D) h1;rw [h2]
  cases hg:getO geS D (idO raw) with
  | ok b=>rfl
  | error k=>
   simp only;split
   ·rfl
   ·rfl
 ·have h0:Zd geS raw=false:=by simpa using h1
  rw [Z7V _ _ _ _ h0,Zbn _ _ _ h0]
theorem Zcr {P:List Pk}: ∀{ks:List (LU)},(∀r∈ks,getS geS D P (idO r)= .ok r)→Z0Z geS D P (ks.map idO)= .ok ks
 | [],_=>rfl
 | r::ks,h=>by
  rw [List.map_cons,Z0Z,h r (List.mem_cons_self ..),Zcr fun q hq=>h q (List.mem_cons_of_mem _ hq)]
theorem Z9D (hob: ∀r∈ks,Zd geS r=true) (hn:(ks.map idO).Nodup) (hl:ks.length≤4096): ∃b,Z04 geS ks=some b:=by
 refine ⟨_,if_pos ⟨hl,hob,?_⟩⟩;have e:ks.map idO=(ks.map ZB).map idS:=by rw [List.map_map];rfl
 rw [e] at hn;exact List.Pairwise.of_map idS (fun a b h e=>h (by rw [e])) hn
def pkB (ks:List (LU)) (b:LU):Option (BA×LU):=if ks=[] then none else some (Zv b,b)
theorem Z9E {P:List Pk} (hg: ∀r∈ks,getS geS D P (idO r)= .ok r) (hn:(ks.map idO).Nodup) (hb:Z04 geS ks=some b):Z0W geS D P (ks.map idO)= .ok (pkB ks b):=by
 rw [Z6y hn,Zcr hg];unfold Z54 pkB;simp only;rw [hb];simp only [List.map_eq_nil_iff];split<;>rfl
def pkF (ks:List (LU)) (b:LU):List Fil:=if ks=[] then [] else [(Zv b,b)]
def pkP (ks:List (LU)) (b:LU):List Pk:=if ks=[] then [] else [(Zv b,Z3t [] 0 ks)]
theorem Z3j (b:LU):(Zv b).data.toList=112::47::Z10 (b.drop (b.length-32)):=by
 unfold Zv;rw [ByteArray.data_append];simp
theorem ZaO (h32:32≤b.length):Z7 (Zv b)=true∧Z7 (shd (Zv b))=true∧ZO (Zv b)=false∧(Zv b).size≠0∧Z0I (Zv b)=true:=by
 have hs:=Z56 h32;have hz: ∀x∈(Zv b).data.toList,47≤x.toNat∧x.toNat≤112:=by
  intro x hx;rw [Z3j] at hx;rcases List.mem_cons.1 hx with rfl | hx
  ·decide
  ·rcases List.mem_cons.1 hx with rfl | hx
   ·decide
   ·rcases Z3B _ _ hx with h | h<;>omega
 have h0:(Zv b).data.toList.contains 0=false:=by
  rw [Bool.eq_false_iff];intro hc;have:=hz 0 (List.contains_iff_mem.1 hc);have e:(0:UInt8).toNat=0:=rfl;omega
 have hn:Z7 (Zv b)=true:=by
  unfold Z7;rw [h0,hs]
  rfl
 have hT:ZO (Zv b)=false:=by
  unfold ZO;refine qF fun e=> ?_;have:=hz 126 (List.mem_of_getLast? e);have e2:(126:UInt8).toNat=126:=rfl;omega
 have hsh:Z7 (shd (Zv b))=true:=by
  have h1:(shd (Zv b)).data.toList=(Zv b).data.toList++[126]:=by
   unfold shd;rw [ByteArray.data_append];simp
  unfold Z7;rw [Z09,hs,h1];have h2:((Zv b).data.toList++[126]).contains 0=false:=by
   rw [Bool.eq_false_iff];intro hc;rcases List.mem_append.1 (List.contains_iff_mem.1 hc) with hm | hm
   ·have:=hz 0 hm
    have e:(0:UInt8).toNat=0:=rfl;omega
   ·cases List.mem_singleton.1 hm
  rw [h2]
  rfl
 refine ⟨hn,hsh,hT,by rw [hs];decide,?_⟩;unfold Z0I;rw [hT,Z3j]
 rfl
theorem ZaP (id:BA):Z0I (Zc id)=false:=by
 unfold Z0I;rw [Z08];simp
theorem Zcs (id:BA) (b:LU):Zc id≠Zv b:=fun e=>by
 have:=congrArg (fun x:BA=>x.data.toList) e;simp only [Z08,Z3j] at this;injection this with this
 cases this
theorem Z82: ∀{l:List Fil},(∀f∈l,Z0I f.1=false)→Zt geS l=some []
 | [],_=>rfl
 | f::r,h=>by
  rw [Zt,if_neg (by rw [h f (List.mem_cons_self ..)];decide)];exact Z82 fun g hg=>h g (List.mem_cons_of_mem _ hg)
theorem Just.packs (h:Just D os):Zt geS D.l=some []:=Z82 fun f hf=>by
 obtain ⟨r,_,rfl⟩:=List.mem_map.1 (h.files.mem_iff.1 hf);exact ZaP _
theorem Zfu (hb:Z04 geS ks=some b):Zt geS (pkF ks b)=some (pkP ks b):=by
 unfold pkF pkP;split
 ·rfl
 ·rw [Zt,if_pos (ZaO (Z42 hb)).2.2.2.2]
  simp only;rw [Z3Q Z11 hb];simp only;rw [if_pos trivial,Zt]
  rfl
theorem Z43: ∀{l:List Fil} {P:List Pk},Zt geS l=some P→P.map Prod.fst=(l.map Prod.fst).filter Z0I
 | [],P,h=>by
  injection h with h
  rw [←h]
  rfl
 | f::r,P,h=>by
  rw [Zt] at h;rw [List.map_cons];split at h
  ·rename_i hn
   rw [List.filter_cons_of_pos hn];split at h
   ·cases h
   ·split at h
    ·cases hr:Zt geS r with
     | none=>rw [hr] at h;cases h
     | some Q=>
      rw [hr] at h;injection h with h
      rw [←h,List.map_cons,Z43 hr]
    ·cases h
  ·rename_i hn
   rw [List.filter_cons_of_neg hn];exact Z43 h
theorem ZaQ: ∀{ns:List BA} {D:Dk},CalmD D→(∀n∈ns,Z7 n=true∧(Z2 D.l n).isSome=true)→ns.Nodup→ ∃D',Z1M D ns=(0,D')∧CalmD D'∧D'.cap=D.cap∧ ∀n,(n∈ns→Z2 D'.l n=none)∧(n∉ns→Z2 D'.l n=Z2 D.l n)
 | [],D,h,_,_=>⟨D,rfl,h,rfl,fun n=>⟨fun h=>(List.not_mem_nil h).elim,fun _=>rfl⟩⟩
 | x::ns,D,h,hx,hn=>by
  obtain ⟨hn1,hn2⟩:=List.nodup_cons.1 hn;obtain ⟨hB,hl⟩:=hx x (List.mem_cons_self ..);obtain ⟨b,hb⟩:=Option.isSome_iff_exists.1 hl;obtain ⟨e,L⟩:=ZgS h hb hB;have hlk: ∀n,Z2 (Zq D.l x) n=if n=x then none else Z2 D.l n:=fun n=>Z0u h.ok.ord n
  obtain ⟨D',r1,r2,r3,r4⟩:=ZaQ (ns:=ns) L.calm (fun n hm=>by
   obtain ⟨h1,h2⟩:=hx n (List.mem_cons_of_mem _ hm);refine ⟨h1,?_⟩;show (Z2 (Zq D.l x) n).isSome=true
   rw [hlk,if_neg (fun e:n=x=>hn1 (e▸hm))]
   exact h2) hn2
  refine ⟨D',by rw [Z3i (by rw [e]),e];exact r1,r2,r3,fun n=>⟨fun hm=> ?_,fun hm=> ?_⟩⟩
  ·by_cases h2:n∈ns
   ·exact (r4 n).1 h2
   ·rw [(r4 n).2 h2]
    show Z2 (Zq D.l x) n=none
    rw [hlk,if_pos ((List.mem_cons.1 hm).resolve_right h2)]
  ·rw [(r4 n).2 fun h2=>hm (List.mem_cons_of_mem _ h2)]
   show Z2 (Zq D.l x) n=_
   rw [hlk,if_neg fun e:n=x=>hm (by rw [e];exact List.mem_cons_self ..)]
theorem Z83: ∀{ids:List BA} {D:Dk},CalmD D→(∀x∈ids,x.size=32∧(Z2 D.l (Zc x)).isSome=true)→ids.Nodup→Z1Q D ids=Z1M D (ids.map Zc)
 | [],D,_,_,_=>rfl
 | x::ids,D,h,hx,hn=>by
  obtain ⟨hn1,hn2⟩:=List.nodup_cons.1 hn;obtain ⟨h32,hl⟩:=hx x (List.mem_cons_self ..);obtain ⟨b,hb⟩:=Option.isSome_iff_exists.1 hl;obtain ⟨e,L⟩:=ZgS h hb (Z32 h32).1;have hd:dropO D x=remD D (Zc x):=by
   unfold Go.Dol.dropO;rw [if_neg (by rw [h32];simp),if_pos hl]
  rw [List.map_cons,Z41 (by rw [hd,e]),Z3i (by rw [e]),hd,e];refine Z83 (ids:=ids) L.calm (fun y hy=> ?_) hn2;obtain ⟨h1,h2⟩:=hx y (List.mem_cons_of_mem _ hy);refine ⟨h1,?_⟩;show (Z2 (Zq D.l (Zc x)) (Zc y)).isSome=true
  rw [Z0u h.ok.ord,if_neg (fun e=>hn1 (by rw [←Z24 e];exact hy))];exact h2
theorem Z6A {l:List Fil} (h:InOrder l):(l.map Prod.fst).Nodup:=by
 unfold List.Nodup;rw [List.pairwise_map];exact h.imp fun h1=>Z5L h1
theorem Z84 (h:InOrder D.l):(idsO D).Nodup:=by
 unfold idsO List.Nodup;rw [List.pairwise_filterMap];refine (Z6A h).imp fun {a b} hab x hx y hy e=>hab ?_;rw [(Z7n hx).1,(Z7n hy).1,e]
theorem Z85 (h:CalmD D) {P:List Pk} (hP:Zt geS D.l=some P) (but:BA):
  ∃D',Z0J geS D but=(0,D')∧CalmD D'∧D'.cap=D.cap∧ ∀n,((Z0I n=true∧n≠but∨ ∃id:BA,id.size=32∧n=Zc id)→Z2 D'.l n=none)∧(¬(Z0I n=true∧n≠but∨ ∃id:BA,id.size=32∧n=Zc id)→Z2 D'.l n=Z2 D.l n):=by
 have hpn:=Z43 hP;have hthere: ∀n∈P.map Prod.fst,Z0I n=true∧(Z2 D.l n).isSome=true:=fun n hn=>by
  rw [hpn] at hn;obtain ⟨h1,h2⟩:=List.mem_filter.1 hn;obtain ⟨f,hf,rfl⟩:=List.mem_map.1 h1;refine ⟨h2,?_⟩;rw [(Zi h.ok.ord (b:=f.2)).2 hf]
  rfl
 have hmem: ∀n,n∈butL but (P.map Prod.fst)↔n∈P.map Prod.fst∧n≠but:=fun n=>by
  unfold butL;rw [List.mem_filter];simp
 obtain ⟨D1,e1,c1,k1,l1⟩:=ZaQ (ns:=butL but (P.map Prod.fst)) h (fun n hn=>by
  have hm:=((hmem n).1 hn).1;rw [hpn] at hm;obtain ⟨f,hf,rfl⟩:=List.mem_map.1 (List.mem_filter.1 hm).1
  exact ⟨h.ok.names f hf,(hthere _ ((hmem _).1 hn).1).2⟩) (by
  refine List.Pairwise.filter _ ?_;rw [hpn]
  exact (Z6A h.ok.ord).filter _)
 have hids: ∀x∈idsO D1,x.size=32∧(Z2 D1.l (Zc x)).isSome=true:=fun x hx=>(Z7p c1.ok.ord).1 hx
 obtain ⟨D2,e2,c2,k2,l2⟩:=ZaQ (ns:=(idsO D1).map Zc) c1 (fun n hn=>by
  obtain ⟨x,hx,rfl⟩:=List.mem_map.1 hn
  exact ⟨(Z32 (hids x hx).1).1,(hids x hx).2⟩) (by
  unfold List.Nodup;rw [List.pairwise_map]
  exact (Z84 c1.ok.ord).imp fun h e=>h (Z24 e))
 refine ⟨D2,?_,c2,k2.trans k1,fun n=>⟨fun h9=> ?_,fun h9=> ?_⟩⟩
 ·unfold Z0J
  rw [hP];simp only;unfold Z87;rw [e1,if_neg (fun h=>h rfl),Z83 c1 hids (Z84 c1.ok.ord)];exact e2
 ·by_cases hm:n∈(idsO D1).map Zc
  ·exact (l2 n).1 hm
  ·rw [(l2 n).2 hm]
   rcases h9 with h9 | ⟨id,h32,rfl⟩
   ·by_cases hb:n∈butL but (P.map Prod.fst)
    ·exact (l1 n).1 hb
    ·rw [(l1 n).2 hb]
     cases hl:Z2 D.l n with
     | none=>rfl
     | some b=>
      refine absurd ((hmem n).2 ⟨?_,h9.2⟩) hb;rw [hpn];exact List.mem_filter.2 ⟨List.mem_map.2 ⟨(n,b),(Zi h.ok.ord).1 hl,rfl⟩,h9.1⟩
   ·cases hl:Z2 D1.l (Zc id) with
    | none=>rfl
    | some b=>exact absurd (List.mem_map.2 ⟨id,(Z7p c1.ok.ord).2 ⟨h32,by rw [hl];rfl⟩,rfl⟩) hm
 ·rw [(l2 n).2 fun hm=> ?_,(l1 n).2 fun hm=> ?_]
  ·exact h9 (.inl ⟨(hthere n ((hmem n).1 hm).1).1,((hmem n).1 hm).2⟩)
  ·obtain ⟨x,hx,rfl⟩:=List.mem_map.1 hm
   exact h9 (.inr ⟨x,(hids x hx).1,rfl⟩)
structure Packed (D:Dk) (ks:List (LU)) (b:LU):Prop where
 calm:CalmD D
 build:Z04 geS ks=some b
 files:D.l=pkF ks b
theorem Packed.objs (h:Packed D ks b):Z5Z geS ks:=by
 have:=h.build;unfold Z04 at this;split at this
 ·assumption
 ·cases this
theorem Packed.packs (h:Packed D ks b):Zt geS D.l=some (pkP ks b):=by
 rw [h.files];exact Zfu h.build
theorem Packed.look (h:Packed D ks b) (id:BA):Z2 D.l (Zc id)=none:=by
 rw [h.files];unfold pkF;split
 ·rfl
 ·refine (Z1a (List.pairwise_singleton ..)).2 fun f hf=> ?_
  obtain rfl:=List.mem_singleton.1 hf;exact (Zcs id b).symm
theorem Packed.ids (h:Packed D ks b):idsO D=[]:=by
 rw [List.eq_nil_iff_forall_not_mem];intro x hx;have:=((Z7p h.calm.ok.ord).1 hx).2;rw [h.look] at this;cases this
theorem Zh5 {l:List Pt} (hn:(l.map (·.id)).Nodup) {p:Pt} (h:p∈l):Z1T l p.id=some p:=by
 unfold Z1T
 induction l with
 | nil=>cases h
 | cons q l ih=>
  rw [List.map_cons,List.nodup_cons] at hn;rw [List.find?_cons];rcases List.mem_cons.1 h with rfl | h
  ·simp
  ·have hne:q.id≠p.id:=fun e=>hn.1 (by rw [e];exact List.mem_map.2 ⟨p,h,rfl⟩)
   simp only [hne,decide_false];exact ih hn.2 h
theorem Packed.get (h:Packed D ks b) {r:LU} (hr:r∈ks):getS geS D (pkP ks b) (idO r)= .ok r:=by
 have hok:=h.objs;obtain ⟨p,hp,rfl⟩: ∃p∈Z3t [] 0 ks,p.raw=r:=by
  have:r∈(Z3t [] 0 ks).map (·.raw):=by rw [ZbQ];exact hr
  exact List.mem_map.1 this
 have hid:p.id=ZB p.raw:=(Z7X (Z3Q Z11 h.build)).2.1 p hp |>.2;have hl:=Zh5 (l:=Z3t [] 0 ks) (by rw [Z5t];exact hok.2.2) hp;have hf:Z4F (pkP ks b) (idO p.raw)=some p.raw:=by
  unfold pkP;rw [if_neg (fun e=>by rw [e] at hr;cases hr),Z52];have e:(idO p.raw).data.toList=p.id:=by rw [hid];simp [idO,idS]
  rw [e];simp only;rw [hl]
 unfold getS;rw [Z7o (ZR _) (h.look _)];simp only [if_true];rw [hf]
theorem Zct (h:Just D os) (hk: ∀r∈ks,r∈os) (hn:(ks.map idO).Nodup) (hb:Z04 geS ks=some b) (hroom:ks≠[]→83+(b.length:Int)≤frD D):
  ∃D',repQ geS D [] (Z0W geS D [] (ks.map idO))=((0,D'),pkP ks b)∧Packed D' ks b∧D'.cap=D.cap:=by
 have hN: ∀D':Dk,Packed D' ks b→nowP geS D' []=pkP ks b:=fun D' h'=>by
  unfold nowP;rw [h'.packs]
  rfl
 rw [Z9E (fun r hr=>by rw [Z6Y];exact h.get (hk r hr)) hn hb];have ho:=h.calm.ok.ord;unfold pkB
 by_cases h0:ks=[]
 ·obtain ⟨D',e,c,k,l⟩:=Z85 h.calm h.packs ⟨#[]⟩
  have hp:Packed D' ks b:=⟨c,hb,Z3D c.ok.ord (by unfold pkF;rw [if_pos h0];exact List.Pairwise.nil) fun x=>by
   unfold pkF;rw [if_pos h0]
   by_cases hx:Z0I x=true∧x≠⟨#[]⟩∨ ∃id:BA,id.size=32∧x=Zc id
   ·exact (l x).1 hx
   ·rw [(l x).2 hx]
    cases hl:Z2 D.l x with
    | none=>rfl
    | some c=>
     obtain ⟨r,_,hr,_⟩:=h.fo.look ho hl
     exact absurd (.inr ⟨_,ZR r,hr⟩) hx⟩
  refine ⟨D',?_,hp,k⟩;rw [if_pos h0];unfold repQ;simp only;rw [e];simp only;rw [hN D' hp]
 ·have h32:=Z42 hb
  obtain ⟨b1,b2,b3,b4,b5⟩:=ZaO h32;have hnone: ∀x,Z0I x=true∨ZO x=true→Z2 D.l x=none:=fun x hx=>by
   cases hl:Z2 D.l x with
   | none=>rfl
   | some c=>
    obtain ⟨r,_,hr,_⟩:=h.fo.look ho hl;rw [hr,ZaP,(Z32 (ZR r)).2.2.1] at hx;rcases hx with hx | hx<;>cases hx
  have hsh:Z2 D.l (shd (Zv b))=none:=hnone _ (.inr (ZfW _));have hl0:Z2 D.l (Zv b)=none:=hnone _ (.inl b5);have hsz:=Z56 h32;have hr:=hroom h0;rw [if_neg h0];unfold repQ;simp only;rw [hl0,if_neg (by simp)];rcases Z9x h.calm (n:=Zv b) (b:=b) (fun _=>hsh) with e | ⟨_,e,_⟩ | ⟨_,_,_,D1,e,L,l1,l2,l3⟩
  ·have hs:=ZfE ho h.calm.dark (Zv b) b
   rcases hs with ⟨hbad,_⟩ | ⟨_,_,_,hO⟩
   ·rcases hbad with hb | hb | hb
    ·rw [b2] at hb;cases hb
    ·exact absurd hb b4
    ·rw [b3] at hb;cases hb
   ·rw [e] at hO
    rcases hO.way with ⟨h1,_⟩ | ⟨⟨h1,_⟩ | ⟨h1,_⟩,_⟩<;>cases h1
  ·rw [hsz] at e
   omega
  ·have hl':D1.l=putF D.l (Zv b) b:=Z3D L.calm.ok.ord (Z0i ho) fun x=>by
    rw [ZQ ho]
    by_cases hx:x=Zv b
    ·rw [if_pos hx,hx,l1]
    ·rw [if_neg hx]
     by_cases hx2:x=shd (Zv b)
     ·rw [hx2,l2,hsh]
     ·exact l3 x hx hx2
   have hP1: ∃P,Zt geS D1.l=some P:=by
    have key: ∀{l:List Fil},(∀f∈l,f=(Zv b,b)∨Z0I f.1=false)→ ∃P,Zt geS l=some P:=by
     intro l
     induction l with
     | nil=>exact fun _=>⟨_,rfl⟩
     | cons f r ih=>
      intro hf;obtain ⟨P,hP⟩:=ih fun g hg=>hf g (List.mem_cons_of_mem _ hg);rcases hf f (List.mem_cons_self ..) with rfl | hf
      ·refine ⟨(Zv b,Z3t [] 0 ks)::P,?_⟩
       rw [Zt,if_pos b5];simp only;rw [Z3Q Z11 hb];simp only;rw [if_pos trivial,hP]
       rfl
      ·exact ⟨P,by rw [Zt,if_neg (by rw [hf];decide)];exact hP⟩
    refine key fun f hf=> ?_;rw [hl'] at hf;rcases Z2Y f hf with e | hm
    ·exact .inl e
    ·obtain ⟨r,_,e⟩:=h.fo f hm
     exact .inr (by rw [e];exact ZaP _)
   obtain ⟨P,hP⟩:=hP1;obtain ⟨D2,e2,c2,k2,l4⟩:=Z85 L.calm hP (Zv b)
   have hp:Packed D2 ks b:=⟨c2,hb,Z3D c2.ok.ord (by unfold pkF;rw [if_neg h0];exact List.pairwise_singleton ..) fun x=>by
    unfold pkF;rw [if_neg h0]
    by_cases hx:x=Zv b
    ·rw [(l4 x).2 fun h9=> ?_,hl',ZQ ho,if_pos hx,hx]
     ·exact ((Zi (List.pairwise_singleton ..)).2 (List.mem_singleton.2 rfl)).symm
     ·rcases h9 with ⟨_,h9⟩ | ⟨id,_,h9⟩
      ·exact h9 hx
      ·exact Zcs id b (h9.symm.trans hx)
    ·have hz:Z2 [(Zv b,b)] x=none:=(Z1a (List.pairwise_singleton ..)).2 fun f hf=>by
      obtain rfl:=List.mem_singleton.1 hf;exact fun e=>hx e.symm
     rw [hz]
     by_cases hx2:Z0I x=true∧x≠Zv b∨ ∃id:BA,id.size=32∧x=Zc id
     ·exact (l4 x).1 hx2
     ·rw [(l4 x).2 hx2,hl',ZQ ho,if_neg hx]
      cases hl:Z2 D.l x with
      | none=>rfl
      | some c=>
       obtain ⟨r,_,hr,_⟩:=h.fo.look ho hl
       exact absurd (.inr ⟨_,ZR r,hr⟩) hx2⟩
   refine ⟨D2,?_,hp,k2.trans L.cap⟩;rw [e,if_neg (fun h=>h rfl)];simp only;rw [e2];simp only;rw [hN D2 hp]
theorem ZaR (h:Packed D ks b) {b0:LU} (hb0:Z04 geS []=some b0): ∃D',repQ geS D (pkP ks b) (Z0W geS D (pkP ks b) [])=((0,D'),[])∧CalmD D'∧D'.l=[]:=by
 obtain ⟨D',e,c,k,l⟩:=Z85 h.calm h.packs ⟨#[]⟩;have hl:D'.l=[]:=Z3D c.ok.ord List.Pairwise.nil fun x=>by
  by_cases hx:Z0I x=true∧x≠⟨#[]⟩∨ ∃id:BA,id.size=32∧x=Zc id
  ·exact (l x).1 hx
  ·rw [(l x).2 hx,h.files]
   unfold pkF;split
   ·rfl
   ·cases hl:Z2 [(Zv b,b)] x with
    | none=>rfl
    | some c=>
     have:=(Zi (List.pairwise_singleton ..)).1 hl;have e2:x=Zv b:=by
      have:=List.mem_singleton.1 this;injection this
     exact absurd (.inl ⟨by rw [e2];exact (ZaO (Z42 h.build)).2.2.2.2,by rw [e2];exact Zcn b⟩) hx
 refine ⟨D',?_,c,hl⟩;have hB:=Z9E (D:=D) (P:=pkP ks b) (ks:=[]) (fun r hr=>by cases hr) List.nodup_nil hb0;rw [show ([]:List (LU)).map idO=[] from rfl] at hB;rw [hB];unfold pkB repQ;simp only [if_true];rw [e];simp only;unfold nowP;rw [hl]
 rfl
end
end Go.Proofs.YtecpbcmpncgokaaGreat
set_option linter.unusedVariables false
namespace Go.Dol
open Go.RowKit
def endQ (ge:BA→BA→Bool) (D:Dk) (P:List Pk) (n:BA):(Int×Dk)×List Pk:=(Z0J ge D n,nowP ge (Z0J ge D n).2 P)
def svB (D:Dk) (n:BA):Bool:=decide (n≠⟨#[]⟩)&& !(Z2 D.l n).isSome
end Go.Dol
namespace Go.Proofs.YtecpbcmpncgokaaGreat
open Go.RowKit Go.Dol
section
variable {w w1 w':World} {base gp gs g m:Nat} {xs:List PkA} {D:Dk}
theorem Tw3.below (hb:Below w.heap.size w w'):Tw3 w w' g m gs:=⟨hb.os,hb.tape,hb.output,hb.size,fun i hi _ _ _=>hb.block i hi⟩
theorem Tw3.tw (h:Tw w w' g m):Tw3 w w' g m gs:=⟨h.os,h.tape,h.output,h.size,fun i hi h1 h2 _=>h.block i hi h1 h2⟩
theorem Tw3.grown (h:w.grownBy w' (some gs)):Tw3 w w' g m gs:=⟨h.os,h.tape,h.output,h.size,fun i hi _ _ h1=>h.block i hi (fun e=>h1 (by injection e))⟩
theorem Tw3.step (h:Tw3 w w1 g m gs) (h2:Tw3 w1 w' g m gs):Tw3 w w' g m gs:=
 ⟨h2.os.trans h.os,h2.tape.trans h.tape,h2.output.trans h.output,lT h.size h2.size,fun i hi a b c=>(h2.block i (Nat.lt_of_lt_of_le hi h.size) a b c).trans (h.block i hi a b c)⟩
theorem Dsk.blkO (h:Dsk w g m D) {x:Nat} {T:TypeId} {cs:List Value} (hB:Blk w x T cs) (h1:T≠145) (h2:T≠5) (hg:w.grownBy w' (some x)):Dsk w' g m D:=by
 obtain ⟨al,hD,hM,hF⟩:=h;refine ⟨al,hD.grown hg (fun e=> ?_),hM.grown hg (fun e=> ?_),hF.keep hg (Other.blk hB h2 (zL _))⟩
 ·injection e with e
  subst e;unfold Blk at hD hB;rw [hD] at hB;injection hB with e
  injection e with _ e
  exact h1 e.symm
 ·injection e with e
  exact hM.blk_ne hB e.symm
def ZiY (w:World) (gs g m base gp:Nat) (xs:List PkA) (r:(Int×Dk)×List Pk) (e:Ending) (w':World):Prop:=
 e= .returned (.int .i64 r.1.1)∧Tw3 w w' g m gs∧ ∃base' gp' xs',Sto w' gs g m base' gp' r.1.2 xs'∧Hid (xs'.map PkA.pk=r.2)∧(base'=base∧gp'=gp∧xs'=xs∨w.heap.size≤base'∧w.heap.size≤gp')
set_option maxRecDepth 100000 in
set_option maxHeartbeats 6400000 in
theorem Z4E (h:Sto w gs g m base gp D xs) (hK:OkG 3518437208880 140737488351232 D) (hsl:D.l.length+1≤3518437208880) (hP:PkOk (xs.map PkA.pk)) (hn:xs.length≤3518437208880) (A:OA) (n:Nat) (ids:List BA) (c:Nat) (hl:ids.length=n) (hr:Rd w w.heap.size 1 A n (sc ids)) (hnm:n≤1048576) (hid: ∀x∈ids,x.size≤70368744177600):
  Calls Tryz.prog 58 #[.pointer (some ⟨gs,0,none⟩),.slice A n c] w (ZiY w gs g m base gp xs (repQ geS D (xs.map PkA.pk) (Z0W geS D (xs.map PkA.pk) ids))):=by
 have hW:OkW D:=hK.mono (lR _) (by decide);have HB:=qI (ZaK h hW hP hn A n ids c hl hr hnm hid);obtain ⟨q,hq⟩: ∃q,q=Z0W geS D (xs.map PkA.pk) ids:=⟨_,rfl⟩;obtain ⟨r,hre⟩: ∃r,r=repQ geS D (xs.map PkA.pk) q:=⟨_,rfl⟩;rw [←hq] at HB;rw [←hq,←hre];have HR:=qI hre;clear hre hl hr hid;go_in;go_wp2_with fail;refine HB.out.mono ?_;rintro e w1 ⟨hb1,h1⟩;have hst1:=h.below hb1;have HM:=qI (Z1L hst1);clear HB;have key:(∃k,k≠0∧Hid (r=((k,D),xs.map PkA.pk))∧e= .returned (.tuple #[.string ⟨#[]⟩,.slice none 0 0,.int .i64 k]))∨
   ∃(nm:BA) (b:LU) (A1:OA) (c1:Nat),e= .returned (.tuple #[.string nm,.slice A1 b.length c1,.int .i64 0])∧Hid (svB D nm=true→Far w1 0 A1 b∧b.length≤c1∧c1≤maxLen∧b.length≤140737488351232)∧nm.size≤66∧
    Hid (r=if svB D nm=true then (if (ZP D nm b).1≠0 then (ZP D nm b,xs.map PkA.pk) else endQ geS (ZP D nm b).2 (xs.map PkA.pk) nm) else endQ geS D (xs.map PkA.pk) nm):=by
  cases q with
  | error k=>exact .inl ⟨k,Zdz hq.symm,HR.out,h1⟩
  | ok o=>
   cases o with
   | none=>exact .inr ⟨⟨#[]⟩,[],none,0,h1,qI (fun h=>absurd h (by unfold svB;simp)),by decide,HR.out⟩
   | some y=>
    obtain ⟨nm,b⟩:=y;obtain ⟨hnm2,h32,hbl⟩:=Zco hq.symm;obtain ⟨l,A1,c1,hlb,rfl,ho1,i1,i2⟩:=h1;obtain rfl:l=b:=hlb.out;have hns:nm.size=66:=by rw [hnm2];exact Z56 h32
    have hsv:svB D nm= !(Z2 D.l nm).isSome:=by
     unfold svB;rw [dT (by rw [hnm2];exact Zcn _),Bool.true_and]
    refine .inr ⟨nm,l,A1,c1,rfl,qI (fun _=>⟨Far.of_seg (Seg.of_own ho1),i1,i2,hbl⟩),by omega,?_⟩;unfold Hid;rw [HR.out,hsv];unfold repQ endQ;simp only;cases (Z2 D.l nm).isSome<;>simp
 clear h1 hq HR;rcases key with ⟨k,hk0,hr3,rfl⟩ | ⟨nm,b,A1,c1,rfl,hfar,hns,hr3⟩
 ·have z1:(k !=0)=true:=bne_iff_ne.2 hk0
  have z2:(k==0)=false:=beq_eq_false_iff_ne.2 hk0;clear hk0;go_wp2_with fail;refine HM.out.mono ?_;rintro e w2 ⟨rfl,hw2⟩;obtain rfl:=hw2.symm;go_wp2_with fail;go_ret;rw [hr3.out];exact ⟨rfl,Tw3.below hb1,base,gp,xs,hst1,rfl,.inl ⟨rfl,rfl,rfl⟩⟩
 ·obtain ⟨t,ht⟩: ∃t,t=svB D nm:=⟨_,rfl⟩
  have HT:=qI ht;rw [←ht] at hfar hr3;go_wp2_with fail;refine HM.out.mono ?_;rintro e w2 ⟨rfl,hw2⟩;obtain rfl:=hw2.symm;clear HM ht;go_upto_region 6 with (fail)
  go_cut [34] (fun v wx=>v= .bool t∧wx=w1)
  case first=>
   have k0:w1.cell? ⟨gs,0,none⟩=some (.pointer (some ⟨g,0,none⟩)):=by rw [hst1.st.cell];rfl
   have HH:=qI (Z14 hst1.dk hW.ord nm (by unfold maxLen;omega))
   by_cases hn0:nm=⟨#[]⟩
   ·subst hn0
    have q3:t=false:=HT.out;clear HH;go_wp2_with fail
    all_goals (go_meet;exact ⟨by rw [q3],rfl⟩)
   ·have q1: ¬nm.toList=[]:=Zfr hn0
    have q2:nm.toList.isEmpty=false:=by
     cases h9:nm.toList with
     | nil=>exact absurd h9 q1
     | cons a l=>rfl
    have q3:t= !(Z2 D.l nm).isSome:=by rw [HT.out];unfold svB;rw [dT hn0,Bool.true_and]
    clear hn0;go_wp2_with fail;refine HH.out.mono ?_;rintro e w2 ⟨rfl,hw2⟩;obtain rfl:=hw2.symm;go_wp2_with fail
    all_goals (go_meet;exact ⟨by rw [q3];cases Z2 D.l nm<;>rfl,rfl⟩)
  case rest=>
  obtain ⟨rfl,hwx⟩:=hcut;obtain rfl:=hwx.symm;go_upto_if 34 with (fail)
  go_cut [4] (fun v4 wx=>v4= .int .i64 0∧ ∃D1,Sto wx gs g m base gp D1 xs∧Tw w1 wx g m∧OkG 3518437208880 140737488351232 D1∧Hid (r=endQ geS D1 (xs.map PkA.pk) nm))
  case first=>
   cases t with
   | false=>
    go_wp2_with fail
    all_goals (go_meet;exact ⟨rfl,D,hst1,Tw.refl _ _ _,hK,hr3⟩)
   | true=>
    obtain ⟨hf,i1,i2,i3⟩:=hfar.out rfl;have k0:w1.cell? ⟨gs,0,none⟩=some (.pointer (some ⟨g,0,none⟩)):=by rw [hst1.st.cell];rfl
    have hSv:=Z6s hst1.dk hW nm (by omega) A1 b c1 (by omega) hsl (by omega) 0 hf i1 i2 (zL _) (zL _) (zL _);have hK2:=hK.save nm b hsl i3;obtain ⟨s,hs⟩: ∃s,s=ZP D nm b:=⟨_,rfl⟩;rw [←hs] at hSv hr3 hK2;have HSv:=qI hSv;obtain ⟨s1,s2⟩:=s;clear hSv hs
    by_cases hs0:s1=0
    ·subst hs0
     have hr4:Hid (r=endQ geS s2 (xs.map PkA.pk) nm):=hr3;go_wp2_with fail;refine HSv.out.mono ?_;rintro e w3 ⟨rfl,hd3,ht3⟩;go_wp2_with fail
     all_goals (go_meet;exact ⟨rfl,s2,hst1.tw ht3 hd3,ht3,hK2,hr4⟩)
    ·have hr4:Hid (r=((s1,s2),xs.map PkA.pk)):=hr3.out.trans ((if_pos rfl).trans (if_pos hs0))
     have z1:(s1 !=0)=true:=bne_iff_ne.2 hs0;have z2:(s1==0)=false:=beq_eq_false_iff_ne.2 hs0;clear hs0 hr3;go_wp2_with fail;refine HSv.out.mono ?_;rintro e w3 ⟨rfl,hd3,ht3⟩;go_wp2_with fail;go_ret;rw [hr4.out];exact ⟨rfl,(Tw3.below hb1).step (Tw3.tw ht3),base,gp,xs,hst1.tw ht3 hd3,rfl,.inl ⟨rfl,rfl,rfl⟩⟩
  case rest=>
  obtain ⟨rfl,D1,hst2,ht2,hK1,hr4⟩:=hcut;have HC:=qI (Zcm hst2 hK1 nm);clear hr3 hfar hst1 HT;go_wp2_with fail;refine HC.out.mono ?_;obtain ⟨s,hs⟩: ∃s,s=Z0J geS D1 nm:=⟨_,rfl⟩;have hK2:OkG 3518437208880 140737488351232 s.2:=by rw [hs];exact hK1.clear geS nm
  have hr5:Hid (r.1=s):=by unfold Hid;rw [hr4.out,hs];rfl
  rw [←hs];have HS:=qI hs;rintro e w3 ⟨rfl,hd3,ht3⟩;have hst3:=hst2.tw ht3 hd3;have k0:w3.cell? ⟨gs,0,none⟩=some (.pointer (some ⟨g,0,none⟩)):=by rw [hst3.st.cell];rfl
  have hRd:=Z58 hd3 hK2;obtain ⟨p,hp⟩: ∃p,p=Zt geS s.2.l:=⟨_,rfl⟩;rw [←hp] at hRd;have HRd:=qI hRd;have hr6:Hid (r.2=p.getD (xs.map PkA.pk)):=by
   unfold Hid;rw [hr4.out,hp,hs]
   rfl
  obtain ⟨s1,s2⟩:=s;obtain ⟨⟨r1,r2⟩,r3⟩:=r;have hr51:Hid (r1=s1):=congrArg Prod.fst hr5.out;have hr52:Hid (r2=s2):=congrArg Prod.snd hr5.out;have ht13:=(Tw3.below (g:=g) (m:=m) (gs:=gs) hb1).step ((Tw3.tw ht2).step (Tw3.tw ht3));clear hRd hs hp hr4 hr5 HC;go_wp2_with fail;refine HRd.out.mono ?_
  cases p with
  | none=>
   rintro e w4 ⟨hb4,rfl⟩;go_wp2_with fail;go_ret;have e1:=hr51.out;have e2:=hr52.out;subst e1 e2;exact ⟨rfl,ht13.step (Tw3.below hb4),base,gp,xs,hst3.below hb4,hr6.out.symm,.inl ⟨rfl,rfl,rfl⟩⟩
  | some P=>
   rintro e w4 ⟨hb4,base4,gp4,ys,An,cn,Aa,ca,hys,rfl,hbase4,hgp4,hpk⟩;have hst4:=hst3.below hb4;have hB5:=hst4.st.set 1 (.pointer (some ⟨gp4,0,none⟩));have f1:=hst4.st.free 1;have k1:w4.cell? ⟨gs,1,none⟩=some (.pointer (some ⟨gp,0,none⟩)):=by rw [hst4.st.cell];rfl
   have hg5:w4.grownBy (w4.setCell ⟨gs,1,none⟩ (.pointer (some ⟨gp4,0,none⟩))) (some gs):=Z0 (gR _ _) 1 _;have hs3:=ht13.size;have hgs3:=hst3.st.lt;obtain ⟨hg3,hm3⟩:=hd3.lt;have hpk5:=hpk.keep (hg5.block gp4 hpk.blk.lt (fun e=>by injection e;omega)) (fun k hk hl=>hg5.block k hl (fun e=>by injection e;omega)) hg5.size;have hd5:=Dsk.blkO hst4.dk hst4.st (by decide) (by decide) hg5;have hlt:=hst3.lt;go_wp2_with fail;go_ret;have e1:=hr51.out;have e2:=hr52.out;subst e1 e2;exact ⟨rfl,(ht13.step (Tw3.below hb4)).step (Tw3.grown hg5),base4,gp4,ys,⟨hB5,hd5,by omega,An,cn,Aa,ca,0,_,hpk5⟩,hys.out.trans hr6.out.symm,.inr ⟨by omega,by omega⟩⟩
end
end Go.Proofs.YtecpbcmpncgokaaGreat
set_option linter.unusedVariables false
namespace Go.Dol
open Go.RowKit
def addS (ge:BA→BA→Bool) (D:Dk) (P:List Pk) (o:Obj):Except Int BA×Dk:=if Zf ge o=true then putS ge D P (encO o) else (.error 1,D)
end Go.Dol
namespace Go.Proofs.YtecpbcmpncgokaaGreat
open Go.RowKit Go.Dol
theorem RetPutS.ok {w w':World} {gs g m base gp:Nat} {xs:List PkA} {id:BA} {D:Dk} {e:Ending} (h:RetPutS w gs g m base gp xs (.ok id,D) e w'):e= .returned (.tuple #[.string id,.int .i64 0])∧Sto w' gs g m base gp D xs∧Tw w w' g m:=h
theorem RetPutS.err {w w':World} {gs g m base gp:Nat} {xs:List PkA} {k:Int} {D:Dk} {e:Ending} (h:RetPutS w gs g m base gp xs (.error k,D) e w'):e= .returned (.tuple #[.string ⟨#[]⟩,.int .i64 k])∧Sto w' gs g m base gp D xs∧Tw w w' g m:=h
section
variable {w w':World} {base gp gs g m:Nat} {xs:List PkA} {D:Dk}
set_option maxRecDepth 100000 in
set_option maxHeartbeats 1600000 in
theorem Zdx (h:Sto w gs g m base gp D xs) (hK:OkW D) (hsl:D.l.length+1≤3518437208880) (hP:PkOk (xs.map PkA.pk)) (hn:xs.length≤3518437208880) (k:Int) (Ad:OA) (d:LU) (cd:Nat) (Ae:OA) (en:List Ent) (ce:Nat) (tr:BA) (Ap:OA) (pa:List BA) (cp:Nat) (ta na wh:BA) (st:Int) (te:BA)
  (hE: ∀W,Below w.heap.size w W→Calls Tryz.prog 37 #[.agg #[.int .i64 k,.slice Ad d.length cd,.slice Ae en.length ce,.string tr,.slice Ap pa.length cp,.string ta,.string na,.string wh,.int .i64 st,.string te]] W (Z5W W ⟨k,d,en,tr,pa,ta,na,wh,st,te⟩)):
  Calls Tryz.prog 67 #[.pointer (some ⟨gs,0,none⟩),.agg #[.int .i64 k,.slice Ad d.length cd,.slice Ae en.length ce,.string tr,.slice Ap pa.length cp,.string ta,.string na,.string wh,.int .i64 st,.string te]] w (RetPutS w gs g m base gp xs (addS geS D (xs.map PkA.pk) ⟨k,d,en,tr,pa,ta,na,wh,st,te⟩)):=by
 obtain ⟨r,hr⟩: ∃r,r=addS geS D (xs.map PkA.pk) ⟨k,d,en,tr,pa,ta,na,wh,st,te⟩:=⟨_,rfl⟩;rw [←hr];have HR:=qI hr;clear hr;have ha:Below w.heap.size w (w.alloc (.cells [.int .i64 k,.slice Ad d.length cd,.slice Ae en.length ce,.string tr,.slice Ap pa.length cp,.string ta,.string na,.string wh,.int .i64 st,.string te].toArray 40)):=(bR _ _).alloc (lR _) _;have hB:=Blk.new w 40 [.int .i64 k,.slice Ad d.length cd,.slice Ae en.length ce,.string tr,.slice Ap pa.length cp,.string ta,.string na,.string wh,.int .i64 st,.string te];have HE:=qI (hE _ ha);have h1:=h.below ha;clear hE;go_in;go_wp2_with ((refine wpList_load_row rfl 40 _ rfl w.heap.size rfl _ _ _ _ hB Tryz.underlying40 rfl (by kernel_rfl) ?_));refine HE.out.mono ?_;rintro e w2 ⟨hb2,⟨hc,l,A,c,hl,rfl,ho⟩ | ⟨hc,rfl⟩⟩
 ·have hb02:=ha.next hb2
  have hlf:l.length≤1048577:=by rw [hl.out];exact Zeb hc
  have h2:=h1.below hb2;have hcl:=Z5a ho;have hPu:=Z53 h2 hK hsl hP hn A l c (Rd.of_own ho) hcl.1 hcl.2 (by omega);have hr2:r=putS geS D (xs.map PkA.pk) l:=by
   rw [HR.out,hl.out];exact if_pos hc
  rw [←hr2] at hPu;have HP:=qI hPu;clear hPu hr2 hc hl HR;go_wp2_with fail;refine HP.out.mono ?_;intro e w3 hm;obtain ⟨r1,r2⟩:=r
  cases r1 with
  | ok x=>
   obtain ⟨rfl,hd6,ht6⟩:=RetPutS.ok hm;go_wp2_with fail;go_ret2;exact ⟨rfl,hd6,(Tw.below hb02).step ht6⟩
  | error x=>
   obtain ⟨rfl,hd6,ht6⟩:=RetPutS.err hm;go_wp2_with fail;go_ret2;exact ⟨rfl,hd6,(Tw.below hb02).step ht6⟩
 ·have hr2:Hid (r=(.error 1,D)):=HR.out.trans (if_neg (by rw [hc];decide))
  clear hc HR;go_wp2_with fail;go_ret2;rw [hr2.out];exact ⟨rfl,h1.below hb2,Tw.below (ha.next hb2)⟩
end
end Go.Proofs.YtecpbcmpncgokaaGreat
set_option maxRecDepth 100000
set_option maxHeartbeats 1600000
set_option linter.unusedVariables false
namespace Go.Proofs.YtecpbcmpncgokaaGreat
open Go.RowKit Go.Dol
def Z7B (F:Nat) (pl:Addr) (b off:Nat) (T:TypeId) (cs:List Value) (R:List Value→World→World→Prop) (w:World):Prop:=
 ∀w1,Blk w1 b T (cs.set (off+1) (.int .i32 1))→w.grownBy w1 (some b)→w1.heap.size=w.heap.size→Calls Tryz.prog F #[.pointer (some pl)] w1 fun e w2=>e= .returned (.tuple #[])∧ ∃cs',Blk w2 b T cs'∧cs'[off]?=some (.int .u32 0)∧cs'[off+1]?=some (.int .i32 1)∧R cs' w1 w2
def ZbN (b off:Nat) (T:TypeId) (R:List Value→World→World→Prop) (w:World) (e:Ending) (w':World):Prop:=
 e= .returned (.tuple #[])∧ ∃cs' w1 w2,R cs' w1 w2∧w.grownBy w1 (some b)∧w1.heap.size=w.heap.size∧Blk w2 b T cs'∧w'=(w2.drew.setCell ⟨b,off,none⟩ (.int .u32 1)).setCell ⟨b,off+1,none⟩ (.int .i32 0)
theorem ZiJ (F:Nat) (eg: ∀args W,(callFunc F args).run Tryz.prog W= .ok (.enter F args) W) (b off:Nat) (T:TypeId) (cs:List Value) (pl:Addr) (R:List Value→World→World→Prop) (w:World) (hb:Blk w b T cs)
  (h0:cs[off]?=some (.int .u32 0)) (h1:cs[off+1]?=some (.int .i32 0)) (hf:Z7B F pl b off T cs R w):
  Calls Tryz.prog 214 #[.pointer (some ⟨b,off,none⟩),.func (.func F) #[] #[.pointer (some pl)]] w (ZbN b off T R w):=by
 have k0:w.cell? ⟨b,off,none⟩=some (.int .u32 0):=by rw [hb.cell];exact h0
 have k1:w.cell? ⟨b,off+1,none⟩=some (.int .i32 0):=by rw [hb.cell];exact h1
 have f1:=hb.free (off+1);have hB1:=hb.set (off+1) (.int .i32 1);have hg1:w.grownBy (w.setCell ⟨b,off+1,none⟩ (.int .i32 1)) (some b):=Z0 (gR _ _) _ _;have hl:=qI (Z2g ⟨b,off,none⟩ 0 (w.setCell ⟨b,off+1,none⟩ (.int .i32 1)) ((World.cell?_setCell_other _ ⟨b,off+1,none⟩ ⟨b,off,none⟩ _ (by simp)).trans k0));have hnot: ∀(x:Bool) (w:World),(Op.unary .not (.bool x)).run Tryz.prog w= .ok (.bool (!x)) w:=fun _ _=>rfl;have eg1:=eg #[.pointer (some pl)];have HF:=qI (hf _ hB1 hg1 (by simp [World.setCell]));clear hf h0 h1;go_enter_defers Tryz.func214,Tryz.ntmps214;go_wp2_with (first | (go_at_call 260;refine (Z9n ⟨b,off+1,none⟩ _ (by go_simp) (by go_simp)).mono ?_;rintro e w' ⟨rfl,rfl⟩));refine hl.out.mono ?_;rintro e w' ⟨rfl,rfl⟩;go_wp2_with fail;refine HF.out.mono ?_;rintro e w2 ⟨rfl,cs',hB2,i0,i1,hR⟩;have k0':w2.cell? ⟨b,off,none⟩=some (.int .u32 0):=by rw [hB2.cell];exact i0
 have k1':w2.cell? ⟨b,off+1,none⟩=some (.int .i32 1):=by rw [hB2.cell];exact i1
 have z0:=hB2.free off;have z1:=hB2.free (off+1);go_wp2_with fail;simp only [bodyPostD];refine leaves_cons (f:=262) (args:=#[.pointer (some ⟨b,off,none⟩),.bool true]) (by simp) (by simp [go_sem]) ?_;refine (Z3O ⟨b,off,none⟩ (.int .u32 0) .returning _ k0' z0).mono ?_;rintro e u' w'' ⟨rfl,rfl,rfl⟩;have hB3:=hB2.drew.set off (.int .u32 1);refine leaves_cons (f:=261) (args:=#[.pointer (some ⟨b,off+1,none⟩)]) (by simp [settle]) (by simp [go_sem]) ?_;refine (Z3q ⟨b,off+1,none⟩ _ (w2.drew.setCell ⟨b,off,none⟩ (.int .u32 1)) ((World.cell?_setCell_other w2.drew ⟨b,off,none⟩ ⟨b,off+1,none⟩ _ (by simp)).trans (by rw [World.cell?_drew];exact k1')) (hB3.free _)).mono ?_;rintro e u' w'' ⟨rfl,rfl,rfl⟩;simp only [Leaves,settle,results,Tryz.results214];exact ⟨.tuple #[],by simp,rfl,cs',_,w2,hR,hg1,by simp [World.setCell],hB2,rfl⟩
theorem ZeX (F:Nat) (eg: ∀args W,(callFunc F args).run Tryz.prog W= .ok (.enter F args) W) (b off:Nat) (T:TypeId) (cs:List Value) (pl:Addr) (R:List Value→World→World→Prop) (w:World) (hb:Blk w b T cs)
  (h0:cs[off]?=some (.int .u32 0)) (h1:cs[off+1]?=some (.int .i32 0)) (hf:Z7B F pl b off T cs R w):
  Calls Tryz.prog 151 #[.pointer (some ⟨b,off,none⟩),.func (.func F) #[] #[.pointer (some pl)]] w (ZbN b off T R w):=by
 have hl:=qI (Z2g ⟨b,off,none⟩ 0 w (by rw [hb.cell];exact h0));have hnot: ∀(x:Bool) (w:World),(Op.unary .not (.bool x)).run Tryz.prog w= .ok (.bool (!x)) w:=fun _ _=>rfl;have HS:=qI (ZiJ F eg b off T cs pl R w hb h0 h1 hf);clear hf;go_in;go_wp2_with fail;refine hl.out.mono ?_;rintro e w' ⟨rfl,rfl⟩;go_wp2_with fail;refine HS.out.mono ?_;rintro e w2 hE;have he:=hE.1;subst he;go_wp2_with fail;go_end0;exact hE
end Go.Proofs.YtecpbcmpncgokaaGreat
set_option linter.unusedVariables false
namespace Go.Proofs.YtecpbcmpncgokaaGreat
open Go.RowKit Go.Dol Go.Shelf Go.Sort
def Zcj:Go.Shelf.Ren:=⟨fun | 194=>84 | n=>n,fun | 0=>0 | 3=>3 | 4=>4 | 9=>9 | 31=>38 | n=>n,fun | n=>n⟩
theorem Zek:Go.Proofs.Lays.n194 Tryz.prog Zcj:={
 mixed:=by kernel_rfl
 f194:=Tryz.func84.trans (congrArg some (by kernel_rfl))
 t0:=Tryz.underlying0
 a0:=Tryz.isAgg0
 z0:=Tryz.sizeOf0
 v0:=Tryz.zeroValue0
 t3:=Tryz.underlying3
 a3:=Tryz.isAgg3
 z3:=Tryz.sizeOf3
 v3:=Tryz.zeroValue3
 t4:=Tryz.underlying4
 a4:=Tryz.isAgg4
 z4:=Tryz.sizeOf4
 v4:=Tryz.zeroValue4
 t9:=Tryz.underlying9
 a9:=Tryz.isAgg9
 z9:=Tryz.sizeOf9
 v9:=Tryz.zeroValue9
 t31:=Tryz.underlying38
 a31:=Tryz.isAgg38
 z31:=Tryz.sizeOf38
 v31:=Tryz.zeroValue38 }
def lsS (l:List BA):List (LU):=l.map (·.data.toList)
def srtU (l:List BA):List BA:=(Z3R (lsS l)).map idS
def unqU (l:List BA):List BA:=(Z0V (lsS l)).map idS
theorem Z6W (l:List (LU)):l.map encStr=sc (l.map idS):=by
 rw [sc,List.map_map];exact List.map_congr_left fun x _=>rfl
theorem Zel (l:List BA):(lsS l).map idS=l:=by
 rw [lsS,List.map_map];exact (List.map_congr_left fun x _=>Z3z (Z2h _)).trans (List.map_id l)
theorem Zem (l:List (LU)):lsS (l.map idS)=l:=by
 rw [lsS,List.map_map];exact (List.map_congr_left fun x _=>Z2h x).trans (List.map_id l)
theorem Zen (l:List BA):unqU (srtU l)=(setL (lsS l)).map idS:=by
 unfold unqU srtU;rw [Zem]
 rfl
section
variable {w:World} {base n c:Nat} {A:OA} {l:List BA}
theorem Z9y (ho:w.ownsRow base 9 1 (.slice A n c) n (sc l)):(A=none∧n=0∧c=0∧l=[])∨
  ∃g cur,A=some ⟨g,0,none⟩∧base≤g∧g<w.heap.size∧n≤c∧c≤maxLen∧(lsS l).length=n∧Holds encStr w g 0 (lsS l).toArray∧w.heap[g]?=some (.cells cur 9 (0,0))∧cur.size=c*1:=by
 have hl:l.length=n:=by have:=ho.1;simpa [sc] using this
 rcases ho.2 with ⟨h0,h9⟩ | ⟨g,cap,cur,e,h1,h2,h3,h4,h5,h6⟩
 ·injection h0 with h1 h2 h3
  exact .inl ⟨h1,h9,h3,nZ (by omega)⟩
 ·refine .inr ?_
  have ho2:w.ownsRow base 9 1 (.slice A n c) n ((lsS l).map encStr):=by rw [Z6W,Zel];exact ho
  obtain ⟨g',cap',e',hb,hlt,hncap,hcm,hlen,hH⟩:=Go.Lib.holds_of_ownsRow ho2 (by rw [e];intro h;cases h);injection e with e1 e2 e3
  injection e' with e1' e2' e3'
  subst e3 e3' e1;injection e1' with e1'
  injection e1' with e1'
  subst e1';exact ⟨g,cur,rfl,h1,hlt,h3,h4,hlen,hH,h2,h5⟩
theorem Z6v (ho:w.ownsRow base 9 1 (.slice A n c) n (sc l)) (hn:n≤8796093022208):
  Calls Tryz.prog 83 #[.slice A n c] w fun e w'=>e= .returned (.tuple #[])∧w'.ownsRow base 9 1 (.slice A n c) n (sc (srtU l))∧w.grownBy w' (Value.slice A n c).ownBlock:=by
 rcases Z9y ho with ⟨rfl,rfl,rfl,rfl⟩ | ⟨g,cur,rfl,hb,hlt,hnc,hcm,hlen,hH,hh,hcs⟩
 ·refine (AnyM.slices_Sort_string_none ZdT none 0 w).mono ?_
  rintro e w' ⟨rfl,rfl⟩;exact ⟨rfl,by rw [show srtU []=[] by simp [srtU,Z3R,lsS]];exact World.ownsRow_nil _ _ _ _,gR _ _⟩
 ·have hs:=AnyM.slices_Sort_string ZdT g 0 c (lsS l) w hH hlt (by omega)
  rw [hlen] at hs;refine hs.mono ?_;rintro e w' ⟨rfl,k,os,rfl⟩;have h1:=ownsRow_sorted (n:=k) (os:=os) (ts:=(lsS l).mergeSort fun x y=>decide (x≤y)) (ss:=lsS l) (List.length_mergeSort _) hb hh (by omega) hcm hcs;rw [hlen,Z6W] at h1;exact ⟨rfl,h1,grownBy_sorted _⟩
theorem Z40 (ho:w.ownsRow base 9 1 (.slice A n c) n (sc l)) (hn:n≤8796093022208):
  Calls Tryz.prog 84 #[.slice A n c] w fun e w'=> ∃k,e= .returned (.slice A k c)∧Hid (k=(unqU l).length)∧k≤n∧w'.ownsRow base 9 1 (.slice A k c) k (sc (unqU l))∧w.grownBy w' (Value.slice A n c).ownBlock:=by
 rcases Z9y ho with ⟨rfl,rfl,rfl,rfl⟩ | ⟨g,cur,rfl,hb,hlt,hnc,hcm,hlen,hH,hh,hcs⟩
 ·refine (Any.slices_Compact_string_empty Zek none 0 w).mono ?_
  rintro e w' ⟨rfl,rfl⟩;exact ⟨0,rfl,rfl,lR _,World.ownsRow_nil _ _ _ _,gR _ _⟩
 ·have hs:=Any.slices_Compact_string Zek g 0 c (lsS l) w hH (by omega) (by omega)
  have hle:=Go.Lib.compact_length_le (lsS l);rw [hlen] at hs;have ho2:w.ownsRow base 9 1 (.slice (some ⟨g,0,none⟩) n c) n ((lsS l).map encStr):=by rw [Z6W,Zel];exact ho
  refine hs.mono ?_;rintro e w' ⟨rfl,q,rfl⟩;have h1:=Go.Lib.ownsRow_putRow (q:=q) (k:=(Lib.compact (lsS l)).length) (ys:=Lib.compact (lsS l)++List.replicate (n-(Lib.compact (lsS l)).length) []) ho2 (by simp;omega) (by omega);rw [List.take_left,Z6W] at h1;have hg:=grownBy_sorted (w:=w) (g:=g) (n:=q) (os:=#[]) (Lib.compact (lsS l)++List.replicate (n-(Lib.compact (lsS l)).length) []).toArray;have hu:unqU l=(Lib.compact (lsS l)).map idS:=by rw [ZaX];rfl
  have he: ∀W:World,grow W #[]=W:=fun W=>by cases W;simp [grow]
  rw [he] at hg;exact ⟨_,rfl,by unfold Hid;rw [hu,List.length_map],by omega,by rw [hu];exact h1,hg⟩
end
end Go.Proofs.YtecpbcmpncgokaaGreat
