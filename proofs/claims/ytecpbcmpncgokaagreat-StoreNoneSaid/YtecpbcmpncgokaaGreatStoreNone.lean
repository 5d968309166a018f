/- The hashes of two blobs of three bytes, that the laws' example keeps, differ. No program is in sight. Conditions: none. The layer 'store': the walk of the laws' example; the ids of what is packed; a blob that is added. Conditions: none. The walk of the law StoreNone. Conditions: an id that fits memory. -/
import Derived.Test.YtecpbcmpncgokaaGreatSumA
import Derived.KernelRfl
import Derived.Test.YtecpbcmpncgokaaGreatShort
import Derived.Test.YtecpbcmpncgokaaGreatLooAwake
import Derived.Test.YtecpbcmpncgokaaGreatSortU
import Derived.Test.YtecpbcmpncgokaaGreatSto10
import Derived.Lib.SlBytesConst
set_option linter.unusedVariables false
namespace Go.Dol
theorem Zu {S W A B:List Int} {r:Nat} (h:rounds S W r=A) (e:inner A W r 8=B):rounds S W (r+1)=B:=by rw [rounds,h,e]
theorem Zch (a b c d:UInt8):ZA [a,b,c,d]=Z2k (sumB (sumB first ([a,b,c,d,1]++(List.replicate 19 0++[4,0,0,0,0,0,0,0]))) (List.replicate 32 0)):=by
 unfold ZA;rw [Z1b (by simp)];unfold ZgS;have e:[a,b,c,d]++Z1y 4 4=([a,b,c,d,1]++(List.replicate 19 0++[4,0,0,0,0,0,0,0]))++List.replicate 32 0:=rfl;show Z2k (ZT first ([a,b,c,d]++Z1y 4 4)).1=_
 rw [e,Z1c (by simp),List.take_left' (by simp),List.drop_left' (by simp),Z1c (by simp),Z1b (by simp),List.take_of_length_le (by simp)]
theorem ZhJ:rounds [2654435769,1013904242,3668340011,2027808484,387276957,3041712726,1401181199,4055616968] [1701736193,1,0,0,0,0,4,0] 8=[3958000252,3012073144,2330793683,1632941252,1206516158,591391854,2172292574,4064058119]:=by
 have h:rounds [2654435769,1013904242,3668340011,2027808484,387276957,3041712726,1401181199,4055616968] [1701736193,1,0,0,0,0,4,0] 0=[2654435769,1013904242,3668340011,2027808484,387276957,3041712726,1401181199,4055616968]:=rfl;have h:=Zu (B:=[3980430277,2988442166,933546019,1057186265,1200835616,3973270807,237016264,3806448789]) h (by kernel_rfl);have h:=Zu (B:=[1925382448,1324251989,3071490419,2121818404,109243848,3923430610,2577147032,798989734]) h (by kernel_rfl);have h:=Zu (B:=[3815097495,443160162,1389273032,1329222203,1584356561,3319388475,2625395087,3741568924]) h (by kernel_rfl);have h:=Zu (B:=[2729394677,2770270902,3127521092,3040053551,1631721102,1804816456,2682985577,2444161711]) h (by kernel_rfl);have h:=Zu (B:=[2126554314,2316574742,292057726,689006253,1092707960,27882273,3591535293,4064346179]) h (by kernel_rfl);have h:=Zu (B:=[1375821446,1422481722,1252875489,3194197839,132688662,488737184,4140565321,3455271439]) h (by kernel_rfl);have h:=Zu (B:=[2600066958,4070807142,858297739,1178897875,1873335739,2900478886,445438034,761809263]) h (by kernel_rfl);have h:=Zu (B:=[3958000252,3012073144,2330793683,1632941252,1206516158,591391854,2172292574,4064058119]) h (by kernel_rfl);exact h
theorem ZhK:rounds [3958000252,3012073144,2330793683,1632941252,1206516158,591391854,2172292574,4064058119] [0,0,0,0,0,0,0,0] 8=[1881238288,1356977861,559022452,1282715062,1762532540,2780792063,3318677889,1174462149]:=by
 have h:rounds [3958000252,3012073144,2330793683,1632941252,1206516158,591391854,2172292574,4064058119] [0,0,0,0,0,0,0,0] 0=[3958000252,3012073144,2330793683,1632941252,1206516158,591391854,2172292574,4064058119]:=rfl;have h:=Zu (B:=[1094024837,1080213733,2980893253,3530974914,1321020881,701934541,4082503481,3557869066]) h (by kernel_rfl);have h:=Zu (B:=[123871840,3795728921,3912905894,1824834812,1914383918,4028691523,2037273916,513040704]) h (by kernel_rfl);have h:=Zu (B:=[3893448309,964368199,1252418721,2672145520,3277904445,2125593130,12442866,1980067445]) h (by kernel_rfl);have h:=Zu (B:=[1780977517,4275396744,2557990186,2311749974,2396142166,1317025869,1154800606,3046902354]) h (by kernel_rfl);have h:=Zu (B:=[1797559945,2637677969,2286763963,1865277547,543188955,1779694038,180711101,1319925111]) h (by kernel_rfl);have h:=Zu (B:=[3454127821,3422667468,2927105794,794956380,1856276795,3217820744,4236730751,1861804944]) h (by kernel_rfl);have h:=Zu (B:=[837762307,3639738025,2544261615,936244618,3968388971,2661610208,985989356,2006958556]) h (by kernel_rfl);have h:=Zu (B:=[1881238288,1356977861,559022452,1282715062,1762532540,2780792063,3318677889,1174462149]) h (by kernel_rfl);exact h
theorem ZhL:ZA [1,111,110,101]=Z2k [1881238288,1356977861,559022452,1282715062,1762532540,2780792063,3318677889,1174462149]:=by
 rw [Zch];unfold sumB;rw [show first=[2654435769,1013904242,3668340011,2027808484,387276957,3041712726,1401181199,4055616968] by kernel_rfl,show Z1x ([1,111,110,101,1]++(List.replicate 19 0++[4,0,0,0,0,0,0,0]))=[1701736193,1,0,0,0,0,4,0] by kernel_rfl,ZhJ,show Z1x (List.replicate 32 0)=[0,0,0,0,0,0,0,0] by kernel_rfl,ZhK]
theorem ZhM:rounds [2654435769,1013904242,3668340011,2027808484,387276957,3041712726,1401181199,4055616968] [1870099457,1,0,0,0,0,4,0] 8=[3011094049,3597420444,1105524035,160581666,1961228068,4291646637,22160434,355843297]:=by
 have h:rounds [2654435769,1013904242,3668340011,2027808484,387276957,3041712726,1401181199,4055616968] [1870099457,1,0,0,0,0,4,0] 0=[2654435769,1013904242,3668340011,2027808484,387276957,3041712726,1401181199,4055616968]:=rfl;have h:=Zu (B:=[2854185924,2988442166,933546019,1057186265,1200835616,3973270807,237016264,3403522602]) h (by kernel_rfl);have h:=Zu (B:=[245301576,1324251989,3071490419,2121818404,109243848,3923430610,3207396319,3609658488]) h (by kernel_rfl);have h:=Zu (B:=[1592117130,443160162,1389273032,1329222203,1584356561,1148115432,409320439,3196577480]) h (by kernel_rfl);have h:=Zu (B:=[313499716,2770270902,3127521092,3040053551,1541464285,908470239,2609608830,4181967889]) h (by kernel_rfl);have h:=Zu (B:=[2127326872,2316574742,292057726,4137110450,1540753772,2683054869,3086033633,337852579]) h (by kernel_rfl);have h:=Zu (B:=[1400543302,1422481722,2901477368,402001572,3117828988,3258195159,1390822077,1391947312]) h (by kernel_rfl);have h:=Zu (B:=[3391166350,1795768067,59856048,4271811290,232794003,2564958795,1595302205,3205546527]) h (by kernel_rfl);have h:=Zu (B:=[3011094049,3597420444,1105524035,160581666,1961228068,4291646637,22160434,355843297]) h (by kernel_rfl);exact h
theorem ZhN:rounds [3011094049,3597420444,1105524035,160581666,1961228068,4291646637,22160434,355843297] [0,0,0,0,0,0,0,0] 8=[1010484000,2462508380,2626492989,2080907802,1489904221,3753029692,1468086690,1045319299]:=by
 have h:rounds [3011094049,3597420444,1105524035,160581666,1961228068,4291646637,22160434,355843297] [0,0,0,0,0,0,0,0] 0=[3011094049,3597420444,1105524035,160581666,1961228068,4291646637,22160434,355843297]:=rfl;have h:=Zu (B:=[1194052202,2483158488,1978602567,1966421619,2042286110,3702165952,2768971043,2997359944]) h (by kernel_rfl);have h:=Zu (B:=[2447562385,1930975299,761772995,947095003,4257832634,690286160,3489020593,1711519992]) h (by kernel_rfl);have h:=Zu (B:=[1638765621,2547817463,2765019640,1881024991,1734391560,4038575184,2417097421,1102959379]) h (by kernel_rfl);have h:=Zu (B:=[1085644012,3853959747,1797929824,1017687141,3510041656,1739039027,1260208119,1332069882]) h (by kernel_rfl);have h:=Zu (B:=[1910549901,895669514,2115617686,2676026009,159727814,2544245952,400855591,1552311057]) h (by kernel_rfl);have h:=Zu (B:=[1252827361,3835700717,160332778,2922821290,451516243,2427606712,2407384175,1175839139]) h (by kernel_rfl);have h:=Zu (B:=[872413246,1581800633,1894632802,1189439815,2491786437,2667494293,2526587919,1507853693]) h (by kernel_rfl);have h:=Zu (B:=[1010484000,2462508380,2626492989,2080907802,1489904221,3753029692,1468086690,1045319299]) h (by kernel_rfl);exact h
theorem ZhO:ZA [1,116,119,111]=Z2k [1010484000,2462508380,2626492989,2080907802,1489904221,3753029692,1468086690,1045319299]:=by
 rw [Zch];unfold sumB;rw [show first=[2654435769,1013904242,3668340011,2027808484,387276957,3041712726,1401181199,4055616968] by kernel_rfl,show Z1x ([1,116,119,111,1]++(List.replicate 19 0++[4,0,0,0,0,0,0,0]))=[1870099457,1,0,0,0,0,4,0] by kernel_rfl,ZhM,show Z1x (List.replicate 32 0)=[0,0,0,0,0,0,0,0] by kernel_rfl,ZhN]
theorem Zdq:ZA [1,111,110,101]≠ZA [1,116,119,111]:=by
 rw [ZhL,ZhO]
 decide
end Go.Dol
set_option linter.unusedVariables false
namespace Go.Proofs.YtecpbcmpncgokaaGreat
open Go.RowKit Go.Dol
theorem Zdo {M:Nat} (hM:M≤2097152) {rs:List (LU)} {b:LU} (hr: ∀r∈rs,r.length≤M) (h:Z03 geS rs=some b):b.length≤rs.length*(M+64)+45:=by
 unfold Z03 at h;split at h
 ·rename_i hp
  injection h with h
  have h1:=Z4U M hM rs [] 0 hr;have h5:=hp.1;have h4:=Z4 8 rs.length (by omega);rw [←h,List.length_append,ZW,Z0F,List.length_append,Z2t,List.length_append];omega
 ·cases h
theorem Zdp (l:List (LU)):(setL l).Nodup:=(ZaG l).imp fun h e=>by rw [e] at h;exact List.lt_irrefl _ h
theorem Z6o {l:List (LU)} (h:l.Nodup):(setL l).length=l.length:=((List.perm_ext_iff_of_nodup (Zdp l) h).2 (Z5v l)).length_eq
section
variable {D:Dk} {ks:List (LU)} {b:LU}
theorem Packed.idsS (h:Packed D ks b):idsS D (pkP ks b)=(setL (ks.map ZA)).map idS:=by
 unfold Go.Proofs.YtecpbcmpncgokaaGreat.idsS;rw [Ze6,h.ids,List.nil_append]
 congr 1
 refine Zcq fun z=> ?_;unfold idsK;rw [Ze5,Z5v];unfold pkP
 by_cases h0:ks=[]
 ·rw [if_pos h0,h0]
  simp
 ·rw [if_neg h0]
  simp only [List.flatMap_cons,List.flatMap_nil,List.append_nil];rw [Z5h]
end
def blob1:LU:=[1,111,110,101]
def blob2:LU:=[1,116,119,111]
theorem Z7L (d:LU) (hd:d.length≤1048576):Zf geS ⟨1,d,[],⟨#[]⟩,[],⟨#[]⟩,⟨#[]⟩,⟨#[]⟩,0,⟨#[]⟩⟩=true:=by
 unfold Zf;rw [if_pos rfl,dT hd]
 rfl
theorem Zca (d:LU) (hd:d.length≤1048576):Zd geS (1::d)=true:=by
 have h:=Zhp (Z7L d hd);unfold Zd;rw [show (1::d)=encO ⟨1,d,[],⟨#[]⟩,[],⟨#[]⟩,⟨#[]⟩,⟨#[]⟩,0,⟨#[]⟩⟩ from rfl,h]
 rfl
theorem aw10: ∃D1 D2 D3 D4 b,putS geS (newD 10000) [] blob1=(.ok (idO blob1),D1)∧OkD D1∧putS geS D1 [] blob2=(.ok (idO blob2),D2)∧OkD D2∧
  repQ geS D2 [] (Z0V geS D2 [] [idO blob1,idO blob2])=((0,D3),pkP [blob1,blob2] b)∧OkD D3∧putS geS D3 (pkP [blob1,blob2] b) blob1=(.ok (idO blob1),D3)∧D3.l.length=1∧(idsS D3 (pkP [blob1,blob2] b)).length=2∧(idsK (pkP [blob1,blob2] b)).length≤4398046511104∧
  repQ geS D3 (pkP [blob1,blob2] b) (Z0V geS D3 (pkP [blob1,blob2] b) [])=((0,D4),[])∧OkD D4∧D4.l.length=0∧PkOk (pkP [blob1,blob2] b):=by
 have o1:Zd geS blob1=true:=Zca [111,110,101] (by decide);have o2:Zd geS blob2=true:=Zca [116,119,111] (by decide);have p1:=Z20 blob1 (by decide);have p2:=Z20 blob2 (by decide);have l1:blob1.length=4:=rfl;have l2:blob2.length=4:=rfl;have hne:idO blob1≠idO blob2:=fun e=>Zdq (by have:=congrArg (fun x:BA=>x.data.toList) e;simpa [idO,idS,blob1,blob2] using this);have J0:Just (newD 10000) []:=⟨Z8Z _ (by omega) (by omega),fun r hr=>(List.not_mem_nil hr).elim,List.nodup_nil,List.Perm.refl _⟩;have f0:=Zew 10000 (by omega) (by omega);rcases J0.put o1 (by omega) with ⟨b,e,_⟩ | ⟨D1,g1,e1,J1,_,f1⟩
 ·rw [Z7a (Z08 _) rfl] at e
  cases e
 have hn1:getO geS D1 (idO blob2)≠ .ok blob2:=fun e=>by
  rcases J1.fo.get J1.calm.ok.ord (Z08 blob2) with ⟨_,e'⟩ | ⟨r,_,h2,h3,_⟩
  ·rw [e] at e'
   cases e'
  ·have hm:=(Zh J1.calm.ok.ord).1 h3
   have:=J1.files.mem_iff.1 hm;obtain ⟨q,hq,he⟩:=List.mem_map.1 this;obtain rfl:q=blob1:=by simpa using hq
   injection he with he _
   exact hne (Z23 he)
 rcases J1.put o2 (by omega) with ⟨b,e,_⟩ | ⟨D2,g2,e2,J2,_,f2⟩
 ·rcases J1.fo.get J1.calm.ok.ord (Z08 blob2) with ⟨_,e'⟩ | ⟨r,_,h2,h3,_⟩
  ·rw [e] at e'
   cases e'
  ·have hm:=(Zh J1.calm.ok.ord).1 h3
   have:=J1.files.mem_iff.1 hm;obtain ⟨q,hq,he⟩:=List.mem_map.1 this;obtain rfl:q=blob1:=by simpa using hq
   injection he with he _
   exact absurd (Z23 he) hne
 have hnd:([blob1,blob2].map idO).Nodup:=by simp [hne]
 obtain ⟨b,hb⟩:=Z5U (ks:=[blob1,blob2]) (fun r hr=>J2.objs r (by simpa using hr)) hnd (by decide);have hbl:=Zdo (M:=4) (by decide) (fun r hr=>by rcases List.mem_cons.1 hr with rfl | hr;exact lR _;obtain rfl:=List.mem_singleton.1 hr;exact lR _) hb;have hbl2:b.length≤181:=hbl;obtain ⟨D3,e3,P3,_⟩:=Zcd J2 (ks:=[blob1,blob2]) (fun r hr=>by simpa using hr) hnd hb (fun _=>by omega);have g3:=P3.get (r:=blob1) (List.mem_cons_self ..);have e4:putS geS D3 (pkP [blob1,blob2] b) blob1=(.ok (idO blob1),D3):=by
  rw [Zaq o1,g3];exact if_pos rfl
 have hs:([blob1,blob2].map ZA).Nodup:=P3.objs.2.2;have h6:(idsS D3 (pkP [blob1,blob2] b)).length=2:=by
  rw [P3.idsS,List.length_map,Z6o hs]
  rfl
 have h7:(idsK (pkP [blob1,blob2] b)).length≤4398046511104:=by
  unfold idsK pkP;rw [if_neg (by decide)];simp only [List.flatMap_cons,List.flatMap_nil,List.append_nil];rw [Z5h,List.length_map,Z6o hs]
  decide
 obtain ⟨b0,hb0⟩:=Z5U (ks:=[]) (fun r hr=>(List.not_mem_nil hr).elim) List.nodup_nil (by decide);obtain ⟨D4,e5,c5,l5⟩:=Zaz P3 hb0;exact ⟨D1,D2,D3,D4,b,by rw [Ze8];exact e1,J1.calm.ok,by rw [Ze8];exact e2,J2.calm.ok,e3,P3.calm.ok,e4,by rw [P3.files];rfl,h6,h7,e5,c5.ok,by rw [l5];rfl,Zf4 P3.packs⟩
theorem Zfb {l:List Fil} {f:Fil} (h:f∈l):Z3g f≤ZE l:=by
 induction l with
 | nil=>cases h
 | cons x r ih=>
  have h1:=Z49 x;have h2:=Z2T r;rw [ZE];rcases List.mem_cons.1 h with rfl | h
  ·omega
  ·have:=ih h
   omega
theorem Zj9 {D:Dk} (h:OkD D):OkG 3518437208880 140737488351232 D:=⟨h.ord,h.cap0,h.cap1,h.left0,h.left1,h.names,h.toW.len,fun f hf=>by
 have h1:=Zfb hf;have h2:=h.room;have h3:=h.cap1;unfold Z3g at h1
 omega⟩
section
variable {w w1 w':World} {base gp gs g m:Nat} {xs:List PkA} {D:Dk} {P:List Pk}
theorem Tw3.new {w0:World} (h0:Below w0.heap.size w0 w) (h:Tw3 w w' g m gs) (h1:w0.heap.size≤g) (h2:w0.heap.size≤m) (h3:w0.heap.size≤gs):Below w0.heap.size w0 w':=
 h0.trans ⟨h.os,h.tape,h.output,h.size,fun k hk=>h.block k (by have:=h0.size;omega) (by omega) (by omega) (by omega)⟩
theorem TwI.new {w0:World} {S:List Nat} (h0:Below w0.heap.size w0 w) (h:TwI w w' S) (h1: ∀i∈S,w0.heap.size≤i):Below w0.heap.size w0 w':=
 h0.trans ⟨h.os,h.tape,h.output,h.size,fun k hk=>h.block k (by have:=h0.size;omega) fun hm=>by have:=h1 k hm;omega⟩
theorem Sto.mem {n:Nat} (h:Sto w gs g m base gp D xs) (h1:n≤gp) (h2:n≤base): ∀i∈gp::xs.map (·.g),n≤i:=fun i hi=>by
 rcases List.mem_cons.1 hi with rfl | hi
 ·exact h1
 ·obtain ⟨x,hx,rfl⟩:=List.mem_map.1 hi
  obtain ⟨An,cn,Aa,ca,dn,vn,hp⟩:=h.pks;obtain ⟨d,vi,hk,_⟩:=hp.packs x hx;exact lT h2 hk.gb
theorem Zau (w:World) (B:Nat) (l:LU) (fr:Nat×Nat):Far (w.alloc (.cells (bc l).toArray 5 fr)) B (some ⟨w.heap.size,0,none⟩) l:=by
 have hh:=heap_alloc_new w (.cells (bc l).toArray 5 fr);refine ⟨⟨by rw [Zm];omega,fun _=>⟨w.heap.size,0,rfl,by simp,fun j u hu=> ?_⟩⟩,fun _ k hk=> .inr ?_⟩
 ·rw [Nat.zero_add,cell_of_row _ _ _ _ _ fr hh]
  simpa using hu
 ·injection hk with hk
  have e:w.heap.size=k:=hk;rw [←e];exact ⟨_,fr,hh⟩
theorem Zav (h:Sto w gs g m base gp D xs) (hK:OkD D) (hP:PkOk (xs.map PkA.pk)) (hn:xs.length≤1048576) (q:Nat) (x y z:UInt8) (hr:Far w 0 (some ⟨q,0,none⟩) [x,y,z]):
  Calls Tryz.prog 67 #[.pointer (some ⟨gs,0,none⟩),.agg #[.int .i64 1,.slice (some ⟨q,0,none⟩) 3 3,.slice none 0 0,.string ⟨#[]⟩,.slice none 0 0,.string ⟨#[]⟩,.string ⟨#[]⟩,.string ⟨#[]⟩,.int .i64 0,.string ⟨#[]⟩]] w (RetPutS w gs g m base gp xs (putS geS D (xs.map PkA.pk) [1,x,y,z])):=by
 have hA:=Zdj h hK.toW (by have:=hK.lenW;omega) hP (by omega) 1 (some ⟨q,0,none⟩) [x,y,z] 3 none [] 0 ⟨#[]⟩ none [] 0 ⟨#[]⟩ ⟨#[]⟩ ⟨#[]⟩ 0 ⟨#[]⟩ (fun W hW=>Z1h 1 (some ⟨q,0,none⟩) [x,y,z] 3 none [] 0 ⟨#[]⟩ none [] 0 ⟨#[]⟩ ⟨#[]⟩ ⟨#[]⟩ 0 ⟨#[]⟩ W (hr.below hW).1 Rd.nil Rd.nil (by decide) (by decide) (qI fun p hp=>(List.not_mem_nil hp).elim));rw [show addS geS D (xs.map PkA.pk) ⟨1,[x,y,z],[],⟨#[]⟩,[],⟨#[]⟩,⟨#[]⟩,⟨#[]⟩,0,⟨#[]⟩⟩=putS geS D (xs.map PkA.pk) [1,x,y,z] from if_pos (Z7L [x,y,z] (show 3≤1048576 by decide))] at hA;exact hA
theorem Z7M (w:World) (x y z:Int):(convert 36 36 (.slice (some ⟨w.heap.size,0,none⟩) 3 3)).run Tryz.prog (w.alloc (.cells #[.int .u8 x,.int .u8 y,.int .u8 z] 5))= .ok (.slice (some ⟨w.heap.size,0,none⟩) 3 3) (w.alloc (.cells #[.int .u8 x,.int .u8 y,.int .u8 z] 5 (3,4))):=
 Lib.run_convert_bytes_const (P:=Tryz.prog) w 36 5 #[.int .u8 x,.int .u8 y,.int .u8 z] 3 3 Tryz.underlying36 Tryz.underlying5
set_option maxRecDepth 100000 in
set_option maxHeartbeats 6400000 in
theorem Z8B (w:World):Calls Tryz.prog 15 #[] w fun e w'=>e= .returned (.bool true)∧Below w.heap.size w w':=by
 obtain ⟨D1,D2,D3,D4,b,e1,K1,e2,K2,e3,K3,e4,l3,i3,k3,e5,K4,l4,hPk⟩:=aw10;obtain ⟨id1,hid1⟩: ∃id1,id1=idO blob1:=⟨_,rfl⟩;obtain ⟨id2,hid2⟩: ∃id2,id2=idO blob2:=⟨_,rfl⟩;obtain ⟨P,hP⟩: ∃P,P=pkP [blob1,blob2] b:=⟨_,rfl⟩;rw [←hP] at e3 e4 i3 k3 e5 hPk;rw [←hid1,←hid2] at e3;rw [←hid1] at e1 e4;rw [←hid2] at e2;have s1:id1.size=32:=by rw [hid1];exact Z08 _
 have s2:id2.size=32:=by rw [hid2];exact Z08 _
 have hPl:P.length≤1:=by rw [hP];unfold pkP;rw [if_neg (by decide)];exact lR _
 have K0:OkD (newD 10000):=(Z8Z 10000 (by omega) (by omega)).ok;have hok: ∀{D:Dk},OkD D→D.l.length+1≤3518437208880∧OkG 3518437208880 140737488351232 D:=fun {D} h=>⟨by have:=h.lenW;omega,Zj9 h⟩;clear hid1 hid2 hP;go_in;go_wp2_with fail;refine (ZcD 10000 w (by omega) (by omega)).mono ?_;rintro e w1 ⟨g,m,rfl,hD1,hg1,hm1,hb1⟩;have HO:=qI (Zc5 hD1 (hok K0).2);go_wp2_with fail;refine HO.out.mono ?_;rintro e w2 ⟨hb2,gs,base,gp,xs,hxs,rfl,hgs,hgp,hbase,hst2⟩;obtain rfl:xs=[]:=List.map_eq_nil_iff.1 hxs.out;have hb02:=hb1.next hb2;have hs1:=hb1.size;have ha:Below w2.heap.size w2 (w2.alloc (.cells #[.int .u8 111,.int .u8 110,.int .u8 101] 5 (3,4))):=(bR _ _).alloc (lR _) _;have HA:=qI (Zav (hst2.below ha) K0 (fun p hp=>(List.not_mem_nil hp).elim) (by decide) w2.heap.size 111 110 101 (Zau w2 0 [111,110,101] (3,4)));rw [show [1,111,110,101]=blob1 from rfl,show ([]:List PkA).map PkA.pk=[] from rfl,e1] at HA;have kc:=Z7M w2 111 110 101;clear HO;go_wp2_with fail;refine HA.out.mono ?_;intro e w3 h9;obtain ⟨rfl,hst3,ht3⟩:=h9.ok;have hb03:=Tw.new (hb02.next ha) ht3 hg1 hm1;have ha3:Below w3.heap.size w3 (w3.alloc (.cells #[.int .u8 116,.int .u8 119,.int .u8 111] 5 (3,4))):=(bR _ _).alloc (lR _) _;have HA3:=qI (Zav (hst3.below ha3) K1 (fun p hp=>(List.not_mem_nil hp).elim) (by decide) w3.heap.size 116 119 111 (Zau w3 0 [116,119,111] (3,4)));rw [show [1,116,119,111]=blob2 from rfl,show ([]:List PkA).map PkA.pk=[] from rfl,e2] at HA3;have kc3:=Z7M w3 116 119 111;clear HA kc;go_wp2_with fail;refine HA3.out.mono ?_;intro e w4 h9;obtain ⟨rfl,hst4,ht4⟩:=h9.ok;have hb04:=Tw.new (hb03.next ha3) ht4 hg1 hm1;have ha4:Below w4.heap.size w4 (w4.alloc (.cells #[.string id1,.string id2] 9)):=(bR _ _).alloc (lR _) _;have hr4:Rd (w4.alloc (.cells #[.string id1,.string id2] 9)) (w4.alloc (.cells #[.string id1,.string id2] 9)).heap.size 1 (some ⟨w4.heap.size,0,none⟩) 2 (sc [id1,id2]):=(Rd.new2v w4 9 (.string id1) (.string id2)).more (by simp)
 have hRp:=Z4x (hst4.below ha4) (hok K2).2 (hok K2).1 (fun p hp=>(List.not_mem_nil hp).elim) (by decide) (some ⟨w4.heap.size,0,none⟩) 2 [id1,id2] 2 rfl hr4 (by decide) (fun x hx=>by
  rcases List.mem_cons.1 hx with rfl | hx
  ·omega
  ·obtain rfl:=List.mem_singleton.1 hx
   omega)
 rw [show ([]:List PkA).map PkA.pk=[] from rfl,e3] at hRp;have HR:=qI hRp;clear HA3 kc3 hRp hr4;go_wp2_with fail;refine HR.out.mono ?_;rintro e w5 ⟨rfl,ht5,base5,gp5,xs5,hst5,hxs5,hnew5⟩;have hb05:=Tw3.new (hb04.next ha4) ht5 hg1 hm1 (by omega);have hs4:=(hb04.next ha4).size;have hgn:w.heap.size≤gp5∧w.heap.size≤base5:=by rcases hnew5 with ⟨rfl,rfl,_⟩ | ⟨h1,h2⟩<;>omega
 have hx5l:xs5.length≤1:=by have:=congrArg List.length hxs5.out;rw [List.length_map] at this;simp only at this;omega
 have hPk5:PkOk (xs5.map PkA.pk):=by rw [hxs5.out];exact hPk
 have HOp:=qI (Z8S hst5.dk);clear HR hnew5;go_wp2_with fail;refine HOp.out.mono ?_;rintro e w6 ⟨rfl,hw6⟩;obtain rfl:=hw6.symm;have ha5:Below w5.heap.size w5 (w5.alloc (.cells #[.int .u8 111,.int .u8 110,.int .u8 101] 5 (3,4))):=(bR _ _).alloc (lR _) _;have HA5:=qI (Zav (hst5.below ha5) K3 hPk5 (by omega) w5.heap.size 111 110 101 (Zau w5 0 [111,110,101] (3,4)));rw [show [1,111,110,101]=blob1 from rfl,hxs5.out] at HA5;rw [e4] at HA5;have kc5:=Z7M w5 111 110 101;clear HOp;go_wp2_with fail;refine HA5.out.mono ?_;intro e w7 h9;obtain ⟨rfl,hst7,ht7⟩:=h9.ok;have hb07:=Tw.new (hb05.next ha5) ht7 hg1 hm1;have HOp7:=qI (Z8S hst7.dk);clear HA5 kc5;go_wp2_with fail;refine HOp7.out.mono ?_;rintro e w8 ⟨rfl,hw8⟩;obtain rfl:=hw8.symm;have HN:=qI (Z1W hst7.dk K3.toW.toL);have n1:((D3.l.length:Int)==1)=true:=by rw [l3];rfl
 clear HOp7;go_wp2_with fail;refine HN.out.mono ?_;rintro e w9 ⟨A9,c9,rfl,ho9,hb9⟩;have hst9:=hst7.below hb9;have hb09:=hb07.next hb9;have HI:=qI (Zdh hst9 K3.toW hPk5 (by omega) (by rw [hxs5.out];exact k3));clear HN;go_wp2_with fail;refine HI.out.mono ?_;rintro e w10 ⟨ys,A10,c10,rfl,hys,ho10,hst10,ht10⟩;have n2:((ys.length:Int)==2)=true:=by rw [hys.out,hxs5.out,i3];rfl
 have hb010:=TwI.new hb09 ht10 (hst9.mem hgn.1 hgn.2);have hRp:=Z4x hst10 (hok K3).2 (hok K3).1 hPk5 (by omega) none 0 [] 0 rfl Rd.nil (by decide) (fun x hx=>(List.not_mem_nil hx).elim);rw [hxs5.out] at hRp;rw [e5] at hRp;have HR:=qI hRp;clear HI hRp hys;go_wp2_with fail;refine HR.out.mono ?_;rintro e w11 ⟨rfl,ht11,base11,gp11,xs11,hst11,hxs11,hnew11⟩;have hb011:=Tw3.new hb010 ht11 hg1 hm1 (by omega);have HN2:=qI (Z1W hst11.dk K4.toW.toL);have n3:((D4.l.length:Int)==0)=true:=by rw [l4];rfl
 clear HR;go_wp2_with fail;refine HN2.out.mono ?_;rintro e w12 ⟨A12,c12,rfl,ho12,hb12⟩;go_wp2_with fail;go_ret;exact ⟨rfl,hb011.next hb12⟩
end
end Go.Proofs.YtecpbcmpncgokaaGreat
set_option linter.unusedVariables false
namespace Go.Proofs.YtecpbcmpncgokaaGreat
open Go.RowKit Go.Dol
def Zjb (w:World) (i:Value) (wr:World):Prop:=∃ k:Nat,i= .int .i64 k∧k≤2∧Below w.heap.size w wr
set_option maxRecDepth 100000 in
set_option maxHeartbeats 6400000 in
theorem storeNone_walk (x0 x1:Value) (n:Int) (x3 x4 x5 x6 x7 x8 x9 x10 x11 x12:Value) (id:BA) (x14:Value) (w:World) (hid:id.size≤maxLen):
  Calls Tryz.prog 13 #[.agg #[x0,x1,.int .i64 n,x3,x4,x5,x6,x7,x8,x9,x10,x11,x12,.string id,x14]] w fun e w'=>e= .returned (.bool true)∧Below w.heap.size w w':=by
 have hb0:Below w.heap.size w (w.alloc (.cells #[x0,x1,.int .i64 n,x3,x4,x5,x6,x7,x8,x9,x10,x11,x12,.string id,x14] 43)):=(bR _ _).alloc (lR _) _;have hO:=Blk.new w 43 [x0,x1,.int .i64 n,x3,x4,x5,x6,x7,x8,x9,x10,x11,x12,.string id,x14];have HA:=qI (Z8B (w.alloc (.cells #[x0,x1,.int .i64 n,x3,x4,x5,x6,x7,x8,x9,x10,x11,x12,.string id,x14] 43)));go_in;go_wp2_with fail;refine HA.out.mono ?_;rintro e w1 ⟨rfl,hb1⟩;have hO1:=hO.below hb1 hO.lt;have hb01:=hb0.next hb1;clear HA hO;go_wp2_with fail;obtain ⟨w2,hw2⟩: ∃w2,w2=w1.alloc (.cells #[.pointer none,.pointer none] 100):=⟨_,rfl⟩;have hS2:Blk w2 w1.heap.size 100 [.pointer none,.pointer none]:=by rw [hw2];exact Blk.new w1 _ _
 have hb2:Below w1.heap.size w1 w2:=by rw [hw2];exact (bR _ _).alloc (lR _) _
 have hz2:w2.heap.size=w1.heap.size+1:=by rw [hw2];simp
 rw [←hw2,←hz2];obtain ⟨w3,hw3⟩: ∃w3,w3=w2.alloc (.cells #[.pointer none,.pointer (some ⟨w1.heap.size,0,none⟩)] 29):=⟨_,rfl⟩;have hL3:Blk w3 w2.heap.size 29 [.pointer none,.pointer (some ⟨w1.heap.size,0,none⟩)]:=by rw [hw3];exact Blk.new w2 _ _
 have hb3:Below w2.heap.size w2 w3:=by rw [hw3];exact (bR _ _).alloc (lR _) _
 have hO3:=(hO1.below hb2 hO1.lt).below hb3 (hO1.below hb2 hO1.lt).lt;have hS3:=hS2.below hb3 hS2.lt;have hb03:=(hb01.next hb2).next hb3;rw [←hw3];clear hw2 hw3 hO1 hS2 hz2;go_loopw [6] (fun i wr=>Zjb w3 i wr) (fun i _=>2-(intOf i).toNat)
 case atStart=>exact ⟨0,rfl,by omega,bR _ _⟩
 case round=>
  obtain ⟨k,rfl,hk,hbr⟩:=hrel;have hs:=hbr.size;have f1:IntKind.i64.wrap ((k:Int)+1)=(k:Int)+1:=qJ _ (by omega)
  by_cases hlt:k<2
  ·have d1:decide ((k:Int)<2)=true:=dT (by omega)
   have d1':(k:Int)<2:=by omega
   have hk0:(0:Int)≤(k:Int):=by omega
   have hOr:=hO3.below hbr hO3.lt;have hLr:=hL3.below hbr hL3.lt;obtain ⟨p,hp,hN⟩: ∃p,wr.cell? ⟨w2.heap.size,0+k,none⟩=some (.pointer p)∧NS wr p:=by
    rw [Nat.zero_add];rcases (show k=0∨k=1 by omega) with rfl | rfl
    ·exact ⟨none,by rw [hLr.cell];rfl,.inl rfl⟩
    ·exact ⟨_,by rw [hLr.cell];rfl,.inr ⟨_,rfl,hS3.below hbr hS3.lt⟩⟩
   rw [Nat.zero_add] at hp;have o2:wr.cell? ⟨w.heap.size,2,none⟩=some (.int .i64 n):=by rw [hOr.cell];rfl
   have o13:wr.cell? ⟨w.heap.size,13,none⟩=some (.string id):=by rw [hOr.cell];rfl
   have HG:=qI (Z3W hN id);have HOb:=qI (Z7R hN id n);go_wp2_with fail;refine HG.out.mono ?_;rintro e w5 ⟨rfl,hw5⟩;obtain rfl:=hw5.symm;clear HG;go_wp2_with fail;refine HOb.out.mono ?_;rintro e w6 ⟨rfl,hb6⟩;have hB6:=Blk.new w6 40 zcells;clear HOb;go_wp2_with ((refine Z5 (by rfl) _ (.tmp 10) (.tmp 45) rfl w6.heap.size zcells rfl rfl 40 zcells hB6 (by kernel_rfl) rfl (by decide) ?_;intro w7 hB7 hg7));have hb7:Below w6.heap.size w6 w7:=((bR w6.heap.size w6).alloc (lR _) _).grown hg7 (by simp) (fun k hk=>by cases hk;exact lR _);have hb8:Below w7.heap.size w7 (w7.alloc (.cells #[.int .u8 2,.int .u8 0] 5)):=(bR _ _).alloc (lR _) _;have hb08:=(hb6.next hb7).next hb8;have hr8:Rd (w7.alloc (.cells #[.int .u8 2,.int .u8 0] 5)) (w7.alloc (.cells #[.int .u8 2,.int .u8 0] 5)).heap.size 1 (some ⟨w7.heap.size,0,none⟩) ([2,0]:LU).length (bc [2,0]):=(Rd.new2v w7 5 (.int .u8 2) (.int .u8 0)).more (by simp);have HP:=qI (Zcg (hN.below hb08) (some ⟨w7.heap.size,0,none⟩) [2,0] 2 hr8 (by decide) (by decide) (by decide) Zhm);clear hr8 hB6 hB7;refine HP.out.mono ?_;rintro e w9 ⟨rfl,hb9⟩;have hb09:=hb08.next hb9;have hO9:=hOr.below hb09 hOr.lt;have p13:w9.cell? ⟨w.heap.size,13,none⟩=some (.string id):=by rw [hO9.cell];rfl
   have hb10:Below w9.heap.size w9 (w9.alloc (.cells #[.string id] 9)):=(bR _ _).alloc (lR _) _;have HNd:=qI (ZaA (hN.below (hb09.next hb10)) (some ⟨w9.heap.size,0,none⟩) id 1 ((Rd.new1 w9 9 (.string id)).more (by simp)) hid);clear HP;go_wp2_with fail;refine HNd.out.mono ?_;rintro e w11 ⟨rfl,hb11⟩;have hb011:=(hb09.next hb10).next hb11;have HR:=qI (Z7U (hN.below hb011));clear HNd p13;go_wp2_with fail;refine HR.out.mono ?_;rintro e w12 ⟨rfl,hb12⟩;have hb012:=hb011.next hb12;have hO12:=hOr.below hb012 hOr.lt;have p13:w12.cell? ⟨w.heap.size,13,none⟩=some (.string id):=by rw [hO12.cell];rfl
   have hN12:=hN.below hb012;have HH:=qI (Zce hN12 id);have HI:=qI (Zcf hN12);have HPk:=qI (Z8C hN12);clear HR;go_wp2_with fail;refine HH.out.mono ?_;rintro e w13 ⟨rfl,hw⟩;obtain rfl:=hw.symm;go_wp2_with fail;refine HI.out.mono ?_;rintro e w13 ⟨rfl,hw⟩;obtain rfl:=hw.symm;go_wp2_with fail;refine HPk.out.mono ?_;rintro e w13 ⟨rfl,hw⟩;obtain rfl:=hw.symm;go_wp2_with fail;exact ⟨⟨k+1,by go_num,by omega,hbr.next hb012⟩,by simp [intOf];omega⟩
  ·have d1:decide ((k:Int)<2)=false:=qF (by omega)
   have HOp:=qI (ZaB wr);go_wp2_with fail;refine HOp.out.mono ?_;rintro e w5 ⟨rfl,hw5⟩;obtain rfl:=hw5.symm;go_wp2_with fail;go_ret;exact ⟨rfl,hb03.next hbr⟩
end Go.Proofs.YtecpbcmpncgokaaGreat
