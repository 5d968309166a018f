/- The hashes of two blobs of three bytes, that the laws' example keeps, differ. No program is in sight. Conditions: none. The walk of the laws' example: an object of two bytes, kept, read, got, dropped. Conditions: none. The layer 'store': the walk of the laws' example; the ids of what is packed; a blob that is added. Conditions: none. Objects as they lie in memory, one behind the other: of ten cells each. Conditions: none. append at an operation: onto a slice that the call owns and that begins anywhere in its row; onto a row, with a word on where the new one lies. Conditions: as each law names. The walk of the law LooseHolds: what was put is got. Conditions: objects that read. The layer 'store': the walk of the laws' store with objects. Conditions: objects that read. The layer 'store': what the turning of one store's packs leaves of another store; a walk over ids that are kept. Conditions -/
import Derived.Test.YtecpbcmpncgokaaGreatSumA
import Derived.KernelRfl
import Derived.Test.YtecpbcmpncgokaaGreatShort
import Derived.Test.YtecpbcmpncgokaaGreatSto1
import Derived.Test.YtecpbcmpncgokaaGreatSto0
import Derived.Test.YtecpbcmpncgokaaGreatStoLaw
import Derived.Test.YtecpbcmpncgokaaGreatSortU
import Derived.Test.YtecpbcmpncgokaaGreatSto10
import Derived.Lib.SlBytesConst
import Derived.Test.YtecpbcmpncgokaaGreatObjA
import Derived.Test.YtecpbcmpncgokaaGreatWordsA
set_option linter.unusedVariables false
namespace Go.Dol
theorem Zx {S W A B:List Int} {r:Nat} (h:rounds S W r=A) (e:inner A W r 8=B):rounds S W (r+1)=B:=by rw [rounds,h,e]
theorem ZcQ (a b c d:UInt8):ZC [a,b,c,d]=Z2u (sumB (sumB first ([a,b,c,d,1]++(List.replicate 19 0++[4,0,0,0,0,0,0,0]))) (List.replicate 32 0)):=by
 unfold ZC;rw [Z1i (by simp)];unfold ZhG;have e:[a,b,c,d]++Z1E 4 4=([a,b,c,d,1]++(List.replicate 19 0++[4,0,0,0,0,0,0,0]))++List.replicate 32 0:=rfl;show Z2u (ZU first ([a,b,c,d]++Z1E 4 4)).1=_
 rw [e,Z1j (by simp),List.take_left' (by simp),List.drop_left' (by simp),Z1j (by simp),Z1i (by simp),List.take_of_length_le (by simp)]
theorem Ziw:rounds [2654435769,1013904242,3668340011,2027808484,387276957,3041712726,1401181199,4055616968] [1701736193,1,0,0,0,0,4,0] 8=[3958000252,3012073144,2330793683,1632941252,1206516158,591391854,2172292574,4064058119]:=by
 have h:rounds [2654435769,1013904242,3668340011,2027808484,387276957,3041712726,1401181199,4055616968] [1701736193,1,0,0,0,0,4,0] 0=[2654435769,1013904242,3668340011,2027808484,387276957,3041712726,1401181199,4055616968]:=rfl;have h:=Zx (B:=[3980430277,2988442166,933546019,1057186265,1200835616,3973270807,237016264,3806448789]) h (by kernel_rfl);have h:=Zx (B:=[1925382448,1324251989,3071490419,2121818404,109243848,3923430610,2577147032,798989734]) h (by kernel_rfl);have h:=Zx (B:=[3815097495,443160162,1389273032,1329222203,1584356561,3319388475,2625395087,3741568924]) h (by kernel_rfl);have h:=Zx (B:=[2729394677,2770270902,3127521092,3040053551,1631721102,1804816456,2682985577,2444161711]) h (by kernel_rfl);have h:=Zx (B:=[2126554314,2316574742,292057726,689006253,1092707960,27882273,3591535293,4064346179]) h (by kernel_rfl);have h:=Zx (B:=[1375821446,1422481722,1252875489,3194197839,132688662,488737184,4140565321,3455271439]) h (by kernel_rfl);have h:=Zx (B:=[2600066958,4070807142,858297739,1178897875,1873335739,2900478886,445438034,761809263]) h (by kernel_rfl);have h:=Zx (B:=[3958000252,3012073144,2330793683,1632941252,1206516158,591391854,2172292574,4064058119]) h (by kernel_rfl);exact h
theorem Zix:rounds [3958000252,3012073144,2330793683,1632941252,1206516158,591391854,2172292574,4064058119] [0,0,0,0,0,0,0,0] 8=[1881238288,1356977861,559022452,1282715062,1762532540,2780792063,3318677889,1174462149]:=by
 have h:rounds [3958000252,3012073144,2330793683,1632941252,1206516158,591391854,2172292574,4064058119] [0,0,0,0,0,0,0,0] 0=[3958000252,3012073144,2330793683,1632941252,1206516158,591391854,2172292574,4064058119]:=rfl;have h:=Zx (B:=[1094024837,1080213733,2980893253,3530974914,1321020881,701934541,4082503481,3557869066]) h (by kernel_rfl);have h:=Zx (B:=[123871840,3795728921,3912905894,1824834812,1914383918,4028691523,2037273916,513040704]) h (by kernel_rfl);have h:=Zx (B:=[3893448309,964368199,1252418721,2672145520,3277904445,2125593130,12442866,1980067445]) h (by kernel_rfl);have h:=Zx (B:=[1780977517,4275396744,2557990186,2311749974,2396142166,1317025869,1154800606,3046902354]) h (by kernel_rfl);have h:=Zx (B:=[1797559945,2637677969,2286763963,1865277547,543188955,1779694038,180711101,1319925111]) h (by kernel_rfl);have h:=Zx (B:=[3454127821,3422667468,2927105794,794956380,1856276795,3217820744,4236730751,1861804944]) h (by kernel_rfl);have h:=Zx (B:=[837762307,3639738025,2544261615,936244618,3968388971,2661610208,985989356,2006958556]) h (by kernel_rfl);have h:=Zx (B:=[1881238288,1356977861,559022452,1282715062,1762532540,2780792063,3318677889,1174462149]) h (by kernel_rfl);exact h
theorem Ziy:ZC [1,111,110,101]=Z2u [1881238288,1356977861,559022452,1282715062,1762532540,2780792063,3318677889,1174462149]:=by
 rw [ZcQ];unfold sumB;rw [show first=[2654435769,1013904242,3668340011,2027808484,387276957,3041712726,1401181199,4055616968] by kernel_rfl,show Z1D ([1,111,110,101,1]++(List.replicate 19 0++[4,0,0,0,0,0,0,0]))=[1701736193,1,0,0,0,0,4,0] by kernel_rfl,Ziw,show Z1D (List.replicate 32 0)=[0,0,0,0,0,0,0,0] by kernel_rfl,Zix]
theorem Ziz:rounds [2654435769,1013904242,3668340011,2027808484,387276957,3041712726,1401181199,4055616968] [1870099457,1,0,0,0,0,4,0] 8=[3011094049,3597420444,1105524035,160581666,1961228068,4291646637,22160434,355843297]:=by
 have h:rounds [2654435769,1013904242,3668340011,2027808484,387276957,3041712726,1401181199,4055616968] [1870099457,1,0,0,0,0,4,0] 0=[2654435769,1013904242,3668340011,2027808484,387276957,3041712726,1401181199,4055616968]:=rfl;have h:=Zx (B:=[2854185924,2988442166,933546019,1057186265,1200835616,3973270807,237016264,3403522602]) h (by kernel_rfl);have h:=Zx (B:=[245301576,1324251989,3071490419,2121818404,109243848,3923430610,3207396319,3609658488]) h (by kernel_rfl);have h:=Zx (B:=[1592117130,443160162,1389273032,1329222203,1584356561,1148115432,409320439,3196577480]) h (by kernel_rfl);have h:=Zx (B:=[313499716,2770270902,3127521092,3040053551,1541464285,908470239,2609608830,4181967889]) h (by kernel_rfl);have h:=Zx (B:=[2127326872,2316574742,292057726,4137110450,1540753772,2683054869,3086033633,337852579]) h (by kernel_rfl);have h:=Zx (B:=[1400543302,1422481722,2901477368,402001572,3117828988,3258195159,1390822077,1391947312]) h (by kernel_rfl);have h:=Zx (B:=[3391166350,1795768067,59856048,4271811290,232794003,2564958795,1595302205,3205546527]) h (by kernel_rfl);have h:=Zx (B:=[3011094049,3597420444,1105524035,160581666,1961228068,4291646637,22160434,355843297]) h (by kernel_rfl);exact h
theorem ZiA:rounds [3011094049,3597420444,1105524035,160581666,1961228068,4291646637,22160434,355843297] [0,0,0,0,0,0,0,0] 8=[1010484000,2462508380,2626492989,2080907802,1489904221,3753029692,1468086690,1045319299]:=by
 have h:rounds [3011094049,3597420444,1105524035,160581666,1961228068,4291646637,22160434,355843297] [0,0,0,0,0,0,0,0] 0=[3011094049,3597420444,1105524035,160581666,1961228068,4291646637,22160434,355843297]:=rfl;have h:=Zx (B:=[1194052202,2483158488,1978602567,1966421619,2042286110,3702165952,2768971043,2997359944]) h (by kernel_rfl);have h:=Zx (B:=[2447562385,1930975299,761772995,947095003,4257832634,690286160,3489020593,1711519992]) h (by kernel_rfl);have h:=Zx (B:=[1638765621,2547817463,2765019640,1881024991,1734391560,4038575184,2417097421,1102959379]) h (by kernel_rfl);have h:=Zx (B:=[1085644012,3853959747,1797929824,1017687141,3510041656,1739039027,1260208119,1332069882]) h (by kernel_rfl);have h:=Zx (B:=[1910549901,895669514,2115617686,2676026009,159727814,2544245952,400855591,1552311057]) h (by kernel_rfl);have h:=Zx (B:=[1252827361,3835700717,160332778,2922821290,451516243,2427606712,2407384175,1175839139]) h (by kernel_rfl);have h:=Zx (B:=[872413246,1581800633,1894632802,1189439815,2491786437,2667494293,2526587919,1507853693]) h (by kernel_rfl);have h:=Zx (B:=[1010484000,2462508380,2626492989,2080907802,1489904221,3753029692,1468086690,1045319299]) h (by kernel_rfl);exact h
theorem ZiB:ZC [1,116,119,111]=Z2u [1010484000,2462508380,2626492989,2080907802,1489904221,3753029692,1468086690,1045319299]:=by
 rw [ZcQ];unfold sumB;rw [show first=[2654435769,1013904242,3668340011,2027808484,387276957,3041712726,1401181199,4055616968] by kernel_rfl,show Z1D ([1,116,119,111,1]++(List.replicate 19 0++[4,0,0,0,0,0,0,0]))=[1870099457,1,0,0,0,0,4,0] by kernel_rfl,Ziz,show Z1D (List.replicate 32 0)=[0,0,0,0,0,0,0,0] by kernel_rfl,ZiA]
theorem Ze4:ZC [1,111,110,101]≠ZC [1,116,119,111]:=by
 rw [Ziy,ZiB]
 decide
end Go.Dol
set_option linter.unusedVariables false
namespace Go.Proofs.YtecpbcmpncgokaaGreat
open Go.RowKit Go.Dol
theorem Z60 (cap:Int) (h0:0≤cap) (h1:cap≤1099511627776):CalmD (newD cap):=⟨⟨List.Pairwise.nil,h0,h1,h0,Int.le_refl (-1),(by decide:(-1:Int)≤9223372036854775807),fun f hf=>(List.not_mem_nil hf).elim⟩,rfl,rfl⟩
theorem Zfh (cap:Int) (h0:0≤cap) (h1:cap≤1099511627776):frD (newD cap)=cap:=by
 show IntKind.i64.wrap (cap-0)=cap
 rw [Int.sub_zero];exact qJ _ (by omega)
end Go.Proofs.YtecpbcmpncgokaaGreat
set_option linter.unusedVariables false
namespace Go.Proofs.YtecpbcmpncgokaaGreat
open Go.RowKit Go.Dol
theorem Ze2 {M:Nat} (hM:M≤2097152) {rs:List (LU)} {b:LU} (hr: ∀r∈rs,r.length≤M) (h:ZZ geS rs=some b):b.length≤rs.length*(M+64)+45:=by
 unfold ZZ at h;split at h
 ·rename_i hp
  injection h with h
  have h1:=Z5c M hM rs [] 0 hr;have h5:=hp.1;have h4:=Z5 8 rs.length (by omega);rw [←h,List.length_append,ZX,Z0L,List.length_append,Z2F,List.length_append];omega
 ·cases h
theorem Ze3 (l:List (LU)):(setL l).Nodup:=(Zba l).imp fun h e=>by rw [e] at h;exact List.lt_irrefl _ h
theorem Z6P {l:List (LU)} (h:l.Nodup):(setL l).length=l.length:=((List.perm_ext_iff_of_nodup (Ze3 l) h).2 (Z5S l)).length_eq
section
variable {D:Dk} {ks:List (LU)} {b:LU}
theorem Packed.idsS (h:Packed D ks b):idsS D (pkP ks b)=(setL (ks.map ZC)).map idS:=by
 unfold Go.Proofs.YtecpbcmpncgokaaGreat.idsS;rw [ZeR,h.ids,List.nil_append]
 congr 1
 refine ZcZ fun z=> ?_;unfold idsK;rw [ZeQ,Z5S];unfold pkP
 by_cases h0:ks=[]
 ·rw [if_pos h0,h0]
  simp
 ·rw [if_neg h0]
  simp only [List.flatMap_cons,List.flatMap_nil,List.append_nil];rw [Z5B]
end
def blob1:LU:=[1,111,110,101]
def blob2:LU:=[1,116,119,111]
theorem Z8k (d:LU) (hd:d.length≤1048576):Zf geS ⟨1,d,[],⟨#[]⟩,[],⟨#[]⟩,⟨#[]⟩,⟨#[]⟩,0,⟨#[]⟩⟩=true:=by
 unfold Zf;rw [if_pos rfl,dT hd]
 rfl
theorem ZcL (d:LU) (hd:d.length≤1048576):Zd geS (1::d)=true:=by
 have h:=Zew (Z8k d hd);unfold Zd;rw [show (1::d)=encO ⟨1,d,[],⟨#[]⟩,[],⟨#[]⟩,⟨#[]⟩,⟨#[]⟩,0,⟨#[]⟩⟩ from rfl,h]
 rfl
theorem aw10: ∃D1 D2 D3 D4 b,putS geS (newD 10000) [] blob1=(.ok (idO blob1),D1)∧OkD D1∧putS geS D1 [] blob2=(.ok (idO blob2),D2)∧OkD D2∧
  repQ geS D2 [] (Z0l geS D2 [] [idO blob1,idO blob2])=((0,D3),pkP [blob1,blob2] b)∧OkD D3∧putS geS D3 (pkP [blob1,blob2] b) blob1=(.ok (idO blob1),D3)∧D3.l.length=1∧(idsS D3 (pkP [blob1,blob2] b)).length=2∧(idsK (pkP [blob1,blob2] b)).length≤4398046511104∧
  repQ geS D3 (pkP [blob1,blob2] b) (Z0l geS D3 (pkP [blob1,blob2] b) [])=((0,D4),[])∧OkD D4∧D4.l.length=0∧PkOk (pkP [blob1,blob2] b):=by
 have o1:Zd geS blob1=true:=ZcL [111,110,101] (by decide);have o2:Zd geS blob2=true:=ZcL [116,119,111] (by decide);have p1:=Z26 blob1 (by decide);have p2:=Z26 blob2 (by decide);have l1:blob1.length=4:=rfl;have l2:blob2.length=4:=rfl;have hne:idO blob1≠idO blob2:=fun e=>Ze4 (by have:=congrArg (fun x:BA=>x.data.toList) e;simpa [idO,idS,blob1,blob2] using this);have J0:Just (newD 10000) []:=⟨Z60 _ (by omega) (by omega),fun r hr=>(List.not_mem_nil hr).elim,List.nodup_nil,List.Perm.refl _⟩;have f0:=Zfh 10000 (by omega) (by omega);rcases J0.put o1 (by omega) with ⟨b,e,_⟩ | ⟨D1,g1,e1,J1,_,f1⟩
 ·rw [Z7H (ZM _) rfl] at e
  cases e
 have hn1:getO geS D1 (idO blob2)≠ .ok blob2:=fun e=>by
  rcases J1.fo.get J1.calm.ok.ord (ZM blob2) with ⟨_,e'⟩ | ⟨r,_,h2,h3,_⟩
  ·rw [e] at e'
   cases e'
  ·have hm:=(Zj J1.calm.ok.ord).1 h3
   have:=J1.files.mem_iff.1 hm;obtain ⟨q,hq,he⟩:=List.mem_map.1 this;obtain rfl:q=blob1:=by simpa using hq
   injection he with he _
   exact hne (Z29 he)
 rcases J1.put o2 (by omega) with ⟨b,e,_⟩ | ⟨D2,g2,e2,J2,_,f2⟩
 ·rcases J1.fo.get J1.calm.ok.ord (ZM blob2) with ⟨_,e'⟩ | ⟨r,_,h2,h3,_⟩
  ·rw [e] at e'
   cases e'
  ·have hm:=(Zj J1.calm.ok.ord).1 h3
   have:=J1.files.mem_iff.1 hm;obtain ⟨q,hq,he⟩:=List.mem_map.1 this;obtain rfl:q=blob1:=by simpa using hq
   injection he with he _
   exact absurd (Z29 he) hne
 have hnd:([blob1,blob2].map idO).Nodup:=by simp [hne]
 obtain ⟨b,hb⟩:=Z6m (ks:=[blob1,blob2]) (fun r hr=>J2.objs r (by simpa using hr)) hnd (by decide);have hbl:=Ze2 (M:=4) (by decide) (fun r hr=>by rcases List.mem_cons.1 hr with rfl | hr;exact lR _;obtain rfl:=List.mem_singleton.1 hr;exact lR _) hb;have hbl2:b.length≤181:=hbl;obtain ⟨D3,e3,P3,_⟩:=Z6R J2 (ks:=[blob1,blob2]) (fun r hr=>by simpa using hr) hnd hb (fun _=>by omega);have g3:=P3.get (r:=blob1) (List.mem_cons_self ..);have e4:putS geS D3 (pkP [blob1,blob2] b) blob1=(.ok (idO blob1),D3):=by
  rw [ZaW o1,g3];exact if_pos rfl
 have hs:([blob1,blob2].map ZC).Nodup:=P3.objs.2.2;have h6:(idsS D3 (pkP [blob1,blob2] b)).length=2:=by
  rw [P3.idsS,List.length_map,Z6P hs]
  rfl
 have h7:(idsK (pkP [blob1,blob2] b)).length≤4398046511104:=by
  unfold idsK pkP;rw [if_neg (by decide)];simp only [List.flatMap_cons,List.flatMap_nil,List.append_nil];rw [Z5B,List.length_map,Z6P hs]
  decide
 obtain ⟨b0,hb0⟩:=Z6m (ks:=[]) (fun r hr=>(List.not_mem_nil hr).elim) List.nodup_nil (by decide);obtain ⟨D4,e5,c5,l5⟩:=Zb3 P3 hb0;exact ⟨D1,D2,D3,D4,b,by rw [Zb1];exact e1,J1.calm.ok,by rw [Zb1];exact e2,J2.calm.ok,e3,P3.calm.ok,e4,by rw [P3.files];rfl,h6,h7,e5,c5.ok,by rw [l5];rfl,ZfR P3.packs⟩
theorem costs_mem {l:List Fil} {f:Fil} (h:f∈l):Z1n f≤Zg l:=by
 induction l with
 | nil=>cases h
 | cons x r ih=>
  have h1:=Z4n x;have h2:=Z0o r;rw [Zg];rcases List.mem_cons.1 h with rfl | h
  ·omega
  ·have:=ih h
   omega
theorem ZeT {D:Dk} (h:OkD D):OkG 3518437208880 140737488351232 D:=⟨h.ord,h.cap0,h.cap1,h.left0,h.left1,h.names,h.toW.len,fun f hf=>by
 have h1:=costs_mem hf;have h2:=h.room;have h3:=h.cap1;unfold Z1n at h1
 omega⟩
section
variable {w w1 w':World} {base gp gs g m:Nat} {xs:List PkA} {D:Dk} {P:List Pk}
theorem Tw3.new {w0:World} (h0:Below w0.heap.size w0 w) (h:Tw3 w w' g m gs) (h1:w0.heap.size≤g) (h2:w0.heap.size≤m) (h3:w0.heap.size≤gs):Below w0.heap.size w0 w':=
 h0.trans ⟨h.os,h.tape,h.output,h.size,fun k hk=>h.block k (by have:=h0.size;omega) (by omega) (by omega) (by omega)⟩
theorem TwI.new {w0:World} {S:List Nat} (h0:Below w0.heap.size w0 w) (h:TwI w w' S) (h1: ∀i∈S,w0.heap.size≤i):Below w0.heap.size w0 w':=
 h0.trans ⟨h.os,h.tape,h.output,h.size,fun k hk=>h.block k (by have:=h0.size;omega) fun hm=>by have:=h1 k hm;omega⟩
theorem Sto.mem {n:Nat} (h:Sto w gs g m base gp D xs) (h1:n≤gp) (h2:n≤base): ∀i∈gp::xs.map (·.g),n≤i:=fun i hi=>by
 rcases List.mem_cons.1 hi with rfl | hi
 ·exact h1
 ·obtain ⟨x,hx,rfl⟩:=List.mem_map.1 hi
  obtain ⟨An,cn,Aa,ca,dn,vn,hp⟩:=h.pks;obtain ⟨d,vi,hk,_⟩:=hp.packs x hx;exact lT h2 hk.gb
theorem ZaZ (w:World) (B:Nat) (l:LU) (fr:Nat×Nat):Far (w.alloc (.cells (bc l).toArray 5 fr)) B (some ⟨w.heap.size,0,none⟩) l:=by
 have hh:=heap_alloc_new w (.cells (bc l).toArray 5 fr);refine ⟨⟨by rw [Zo];omega,fun _=>⟨w.heap.size,0,rfl,by simp,fun j u hu=> ?_⟩⟩,fun _ k hk=> .inr ?_⟩
 ·rw [Nat.zero_add,cell_of_row _ _ _ _ _ fr hh]
  simpa using hu
 ·injection hk with hk
  have e:w.heap.size=k:=hk;rw [←e];exact ⟨_,fr,hh⟩
theorem Zb0 (h:Sto w gs g m base gp D xs) (hK:OkD D) (hP:PkOk (xs.map PkA.pk)) (hn:xs.length≤1048576) (q:Nat) (x y z:UInt8) (hr:Far w 0 (some ⟨q,0,none⟩) [x,y,z]):
  Calls Tryz.prog 67 #[.pointer (some ⟨gs,0,none⟩),.agg #[.int .i64 1,.slice (some ⟨q,0,none⟩) 3 3,.slice none 0 0,.string ⟨#[]⟩,.slice none 0 0,.string ⟨#[]⟩,.string ⟨#[]⟩,.string ⟨#[]⟩,.int .i64 0,.string ⟨#[]⟩]] w (RetPutS w gs g m base gp xs (putS geS D (xs.map PkA.pk) [1,x,y,z])):=by
 have hA:=ZdY h hK.toW (by have:=hK.lenW;omega) hP (by omega) 1 (some ⟨q,0,none⟩) [x,y,z] 3 none [] 0 ⟨#[]⟩ none [] 0 ⟨#[]⟩ ⟨#[]⟩ ⟨#[]⟩ 0 ⟨#[]⟩ (fun W hW=>Z0W 1 (some ⟨q,0,none⟩) [x,y,z] 3 none [] 0 ⟨#[]⟩ none [] 0 ⟨#[]⟩ ⟨#[]⟩ ⟨#[]⟩ 0 ⟨#[]⟩ W (hr.below hW).1 Rd.nil Rd.nil (by decide) (by decide) (qI fun p hp=>(List.not_mem_nil hp).elim));rw [show addS geS D (xs.map PkA.pk) ⟨1,[x,y,z],[],⟨#[]⟩,[],⟨#[]⟩,⟨#[]⟩,⟨#[]⟩,0,⟨#[]⟩⟩=putS geS D (xs.map PkA.pk) [1,x,y,z] from if_pos (Z8k [x,y,z] (show 3≤1048576 by decide))] at hA;exact hA
theorem Z8l (w:World) (x y z:Int):(convert 36 36 (.slice (some ⟨w.heap.size,0,none⟩) 3 3)).run Tryz.prog (w.alloc (.cells #[.int .u8 x,.int .u8 y,.int .u8 z] 5))= .ok (.slice (some ⟨w.heap.size,0,none⟩) 3 3) (w.alloc (.cells #[.int .u8 x,.int .u8 y,.int .u8 z] 5 (3,4))):=
 Lib.run_convert_bytes_const (P:=Tryz.prog) w 36 5 #[.int .u8 x,.int .u8 y,.int .u8 z] 3 3 Tryz.underlying36 Tryz.underlying5
set_option maxRecDepth 100000 in
set_option maxHeartbeats 6400000 in
theorem Z97 (w:World):Calls Tryz.prog 15 #[] w fun e w'=>e= .returned (.bool true)∧Below w.heap.size w w':=by
 obtain ⟨D1,D2,D3,D4,b,e1,K1,e2,K2,e3,K3,e4,l3,i3,k3,e5,K4,l4,hPk⟩:=aw10;obtain ⟨id1,hid1⟩: ∃id1,id1=idO blob1:=⟨_,rfl⟩;obtain ⟨id2,hid2⟩: ∃id2,id2=idO blob2:=⟨_,rfl⟩;obtain ⟨P,hP⟩: ∃P,P=pkP [blob1,blob2] b:=⟨_,rfl⟩;rw [←hP] at e3 e4 i3 k3 e5 hPk;rw [←hid1,←hid2] at e3;rw [←hid1] at e1 e4;rw [←hid2] at e2;have s1:id1.size=32:=by rw [hid1];exact ZM _
 have s2:id2.size=32:=by rw [hid2];exact ZM _
 have hPl:P.length≤1:=by rw [hP];unfold pkP;rw [if_neg (by decide)];exact lR _
 have K0:OkD (newD 10000):=(Z60 10000 (by omega) (by omega)).ok;have hok: ∀{D:Dk},OkD D→D.l.length+1≤3518437208880∧OkG 3518437208880 140737488351232 D:=fun {D} h=>⟨by have:=h.lenW;omega,ZeT h⟩;clear hid1 hid2 hP;go_in;go_wp2_with fail;refine (Z4Q 10000 w (by omega) (by omega)).mono ?_;rintro e w1 ⟨g,m,rfl,hD1,hg1,hm1,hb1⟩;have HO:=qI (Z47 hD1 (hok K0).2);go_wp2_with fail;refine HO.out.mono ?_;rintro e w2 ⟨hb2,gs,base,gp,xs,hxs,rfl,hgs,hgp,hbase,hst2⟩;obtain rfl:xs=[]:=List.map_eq_nil_iff.1 hxs.out;have hb02:=hb1.next hb2;have hs1:=hb1.size;have ha:Below w2.heap.size w2 (w2.alloc (.cells #[.int .u8 111,.int .u8 110,.int .u8 101] 5 (3,4))):=(bR _ _).alloc (lR _) _;have HA:=qI (Zb0 (hst2.below ha) K0 (fun p hp=>(List.not_mem_nil hp).elim) (by decide) w2.heap.size 111 110 101 (ZaZ w2 0 [111,110,101] (3,4)));rw [show [1,111,110,101]=blob1 from rfl,show ([]:List PkA).map PkA.pk=[] from rfl,e1] at HA;have kc:=Z8l w2 111 110 101;clear HO;go_wp2_with fail;refine HA.out.mono ?_;intro e w3 h9;obtain ⟨rfl,hst3,ht3⟩:=h9.ok;have hb03:=Tw.new (hb02.next ha) ht3 hg1 hm1;have ha3:Below w3.heap.size w3 (w3.alloc (.cells #[.int .u8 116,.int .u8 119,.int .u8 111] 5 (3,4))):=(bR _ _).alloc (lR _) _;have HA3:=qI (Zb0 (hst3.below ha3) K1 (fun p hp=>(List.not_mem_nil hp).elim) (by decide) w3.heap.size 116 119 111 (ZaZ w3 0 [116,119,111] (3,4)));rw [show [1,116,119,111]=blob2 from rfl,show ([]:List PkA).map PkA.pk=[] from rfl,e2] at HA3;have kc3:=Z8l w3 116 119 111;clear HA kc;go_wp2_with fail;refine HA3.out.mono ?_;intro e w4 h9;obtain ⟨rfl,hst4,ht4⟩:=h9.ok;have hb04:=Tw.new (hb03.next ha3) ht4 hg1 hm1;have ha4:Below w4.heap.size w4 (w4.alloc (.cells #[.string id1,.string id2] 9)):=(bR _ _).alloc (lR _) _;have hr4:Rd (w4.alloc (.cells #[.string id1,.string id2] 9)) (w4.alloc (.cells #[.string id1,.string id2] 9)).heap.size 1 (some ⟨w4.heap.size,0,none⟩) 2 (sc [id1,id2]):=(Rd.new2v w4 9 (.string id1) (.string id2)).more (by simp)
 have hRp:=Z2J (hst4.below ha4) (hok K2).2 (hok K2).1 (fun p hp=>(List.not_mem_nil hp).elim) (by decide) (some ⟨w4.heap.size,0,none⟩) 2 [id1,id2] 2 rfl hr4 (by decide) (fun x hx=>by
  rcases List.mem_cons.1 hx with rfl | hx
  ·omega
  ·obtain rfl:=List.mem_singleton.1 hx
   omega)
 rw [show ([]:List PkA).map PkA.pk=[] from rfl,e3] at hRp;have HR:=qI hRp;clear HA3 kc3 hRp hr4;go_wp2_with fail;refine HR.out.mono ?_;rintro e w5 ⟨rfl,ht5,base5,gp5,xs5,hst5,hxs5,hnew5⟩;have hb05:=Tw3.new (hb04.next ha4) ht5 hg1 hm1 (by omega);have hs4:=(hb04.next ha4).size;have hgn:w.heap.size≤gp5∧w.heap.size≤base5:=by rcases hnew5 with ⟨rfl,rfl,_⟩ | ⟨h1,h2⟩<;>omega
 have hx5l:xs5.length≤1:=by have:=congrArg List.length hxs5.out;rw [List.length_map] at this;simp only at this;omega
 have hPk5:PkOk (xs5.map PkA.pk):=by rw [hxs5.out];exact hPk
 have HOp:=qI (Z5X hst5.dk);clear HR hnew5;go_wp2_with fail;refine HOp.out.mono ?_;rintro e w6 ⟨rfl,hw6⟩;obtain rfl:=hw6.symm;have ha5:Below w5.heap.size w5 (w5.alloc (.cells #[.int .u8 111,.int .u8 110,.int .u8 101] 5 (3,4))):=(bR _ _).alloc (lR _) _;have HA5:=qI (Zb0 (hst5.below ha5) K3 hPk5 (by omega) w5.heap.size 111 110 101 (ZaZ w5 0 [111,110,101] (3,4)));rw [show [1,111,110,101]=blob1 from rfl,hxs5.out] at HA5;rw [e4] at HA5;have kc5:=Z8l w5 111 110 101;clear HOp;go_wp2_with fail;refine HA5.out.mono ?_;intro e w7 h9;obtain ⟨rfl,hst7,ht7⟩:=h9.ok;have hb07:=Tw.new (hb05.next ha5) ht7 hg1 hm1;have HOp7:=qI (Z5X hst7.dk);clear HA5 kc5;go_wp2_with fail;refine HOp7.out.mono ?_;rintro e w8 ⟨rfl,hw8⟩;obtain rfl:=hw8.symm;have HN:=qI (Z0T hst7.dk K3.toW.toL);have n1:((D3.l.length:Int)==1)=true:=by rw [l3];rfl
 clear HOp7;go_wp2_with fail;refine HN.out.mono ?_;rintro e w9 ⟨A9,c9,rfl,ho9,hb9⟩;have hst9:=hst7.below hb9;have hb09:=hb07.next hb9;have HI:=qI (ZdX hst9 K3.toW hPk5 (by omega) (by rw [hxs5.out];exact k3));clear HN;go_wp2_with fail;refine HI.out.mono ?_;rintro e w10 ⟨ys,A10,c10,rfl,hys,ho10,hst10,ht10⟩;have n2:((ys.length:Int)==2)=true:=by rw [hys.out,hxs5.out,i3];rfl
 have hb010:=TwI.new hb09 ht10 (hst9.mem hgn.1 hgn.2);have hRp:=Z2J hst10 (hok K3).2 (hok K3).1 hPk5 (by omega) none 0 [] 0 rfl Rd.nil (by decide) (fun x hx=>(List.not_mem_nil hx).elim);rw [hxs5.out] at hRp;rw [e5] at hRp;have HR:=qI hRp;clear HI hRp hys;go_wp2_with fail;refine HR.out.mono ?_;rintro e w11 ⟨rfl,ht11,base11,gp11,xs11,hst11,hxs11,hnew11⟩;have hb011:=Tw3.new hb010 ht11 hg1 hm1 (by omega);have HN2:=qI (Z0T hst11.dk K4.toW.toL);have n3:((D4.l.length:Int)==0)=true:=by rw [l4];rfl
 clear HR;go_wp2_with fail;refine HN2.out.mono ?_;rintro e w12 ⟨A12,c12,rfl,ho12,hb12⟩;go_wp2_with fail;go_ret;exact ⟨rfl,hb011.next hb12⟩
end
end Go.Proofs.YtecpbcmpncgokaaGreat
set_option linter.unusedVariables false
namespace Go.Dol
open Go.RowKit
structure ObA where
 k:Int
 Ad:OA
 d:LU
 cd:Nat
 Ae:OA
 en:List Ent
 ce:Nat
 tr:BA
 Ap:OA
 pa:List BA
 cp:Nat
 ta:BA
 na:BA
 wh:BA
 st:Int
 te:BA
def ObA.cells (x:ObA):List Value:=[.int .i64 x.k,.slice x.Ad x.d.length x.cd,.slice x.Ae x.en.length x.ce,.string x.tr,.slice x.Ap x.pa.length x.cp,.string x.ta,.string x.na,.string x.wh,.int .i64 x.st,.string x.te]
def oc (l:List ObA):List Value:=l.flatMap ObA.cells
theorem Z1U: ∀{l:List ObA} {i:Nat} {x:ObA},l[i]?=some x→ ∀j,j<10→(oc l)[i*10+j]?=x.cells[j]?
 | [],i,x,h,_,_=>by simp at h
 | y::l,0,x,h,j,hj=>by
  have hx:y=x:=by simpa using h
  subst hx;rw [oc,List.flatMap_cons,Nat.zero_mul,Nat.zero_add,List.getElem?_append_left (by show j<10;omega)]
 | y::l,i+1,x,h,j,hj=>by
  rw [oc,List.flatMap_cons,List.getElem?_append_right (by show 10≤_;omega)];have e:(i+1)*10+j-y.cells.length=i*10+j:=by show (i+1)*10+j-10=_;omega
  rw [e];exact Z1U (l:=l) (by simpa using h) j hj
theorem Z9I (l:List ObA):(oc l).length=l.length*10:=by
 induction l with
 | nil=>rfl
 | cons x l ih=>rw [oc,List.flatMap_cons,List.length_append,List.length_cons];show 10+(oc l).length=_;rw [ih];omega
theorem Zfr {w:World} {bb off k:Nat} {l:List ObA} {x:ObA} (h: ∀j u,(oc l)[j]?=some u→w.cell? ⟨bb,off+j,none⟩=some u) (hx:l[k]?=some x):
  w.cell? ⟨bb,off+k*10,none⟩=some (.int .i64 x.k)∧w.cell? ⟨bb,off+k*10+1,none⟩=some (.slice x.Ad x.d.length x.cd)∧w.cell? ⟨bb,off+k*10+2,none⟩=some (.slice x.Ae x.en.length x.ce)∧w.cell? ⟨bb,off+k*10+3,none⟩=some (.string x.tr)∧
  w.cell? ⟨bb,off+k*10+4,none⟩=some (.slice x.Ap x.pa.length x.cp)∧w.cell? ⟨bb,off+k*10+5,none⟩=some (.string x.ta)∧w.cell? ⟨bb,off+k*10+6,none⟩=some (.string x.na)∧w.cell? ⟨bb,off+k*10+7,none⟩=some (.string x.wh)∧w.cell? ⟨bb,off+k*10+8,none⟩=some (.int .i64 x.st)∧w.cell? ⟨bb,off+k*10+9,none⟩=some (.string x.te):=
 ⟨h (k*10+0) _ (Z1U hx 0 (by omega)),h (k*10+1) _ (Z1U hx 1 (by omega)),h (k*10+2) _ (Z1U hx 2 (by omega)),h (k*10+3) _ (Z1U hx 3 (by omega)),h (k*10+4) _ (Z1U hx 4 (by omega)),h (k*10+5) _ (Z1U hx 5 (by omega)),h (k*10+6) _ (Z1U hx 6 (by omega)),h (k*10+7) _ (Z1U hx 7 (by omega)),h (k*10+8) _ (Z1U hx 8 (by omega)),h (k*10+9) _ (Z1U hx 9 (by omega))⟩
def Obs (w:World) (B:Nat) (l:List ObA):Prop:=∀ x∈l,Rd w B 1 x.Ad x.d.length (bc x.d)∧Rd w B 3 x.Ae x.en.length (ec x.en)∧Rd w B 1 x.Ap x.pa.length (pc x.pa)∧x.en.length≤140737488355328∧x.pa.length≤140737488355328∧Hid ((∀e∈x.en,e.name.size≤maxLen)∧ ∀p∈x.pa,p.size≤maxLen)
theorem Obs.below {w w':World} {B:Nat} {l:List ObA} (h:Obs w B l) (hb:Below B w w'):Obs w' B l:=fun x hx=>by
 obtain ⟨h1,h2,h3,h4⟩:=h x hx;exact ⟨h1.below hb,h2.below hb,h3.below hb,h4⟩
end Go.Dol
set_option linter.unusedVariables false
namespace Go.Dol
open Go.RowKit
section
variable {P:Program} {w:World} {ops:Array Oper} {rest:List Oper} {o:Oper} {a:Act} {Q:Exit→Act→World→Prop}
theorem Zg5 (hgd:o.guard=none) (s x:Operand) (t e:TypeId) (z:Value) (bytes:Nat)
  (ho:o.op= .call { callee:=.builtin .append,args:=#[s,x],argTypes:=#[t,t] })
  (ht:P.underlying t=some (.slice e)) (hi:(P.info? e).map (fun i=>(i.zero,i.size,i.bytes))=some (some z,1,bytes)) (hzs:z.cells.size=1)
  (base:Nat) (v:Value) (n:Nat) (xs:List Value) (hs:a.eval s=v) (hown:w.ownsRow base e 1 v n xs)
  (B:Nat) (A:OA) (m c:Nat) (news:List Value) (hx:a.eval x= .slice A m c) (hr:Rd w B 1 A m news) (h1: ∀u∈news,u.oneCell'=true)
  (hmax:n+m≤maxLen) (hlen:(n+m)*bytes≤140737488355328) (hbase:base≤w.heap.size)
  (h: ∀(A':OA) (c':Nat) (w':World),w'.ownsRow base e 1 (.slice A' (n+m) c') (n+m) (xs++news)→Below base w w'→w.grownBy w' v.ownBlock→Hid ((Value.slice A' (n+m) c').ownBlock=v.ownBlock∨(Value.slice A' (n+m) c').ownBlock=some w.heap.size)→
   n+m≤c'→c'≤maxLen→wpList P ops Q rest (a.put o.dst (.slice A' (n+m) c')) w'):wpList P ops Q (o::rest) a w:=by
 refine Z0m w hgd s x _ ho base _ _ 1 bytes ht hi hzs (by decide) v n xs hs hown B A m c news hx hr h1 hmax hlen hbase ?_;intro A' c' w' h1 h2 h3 h4 h5;exact h _ c' w' h1 ((bR _ _).grown h2 hbase (fun k hk=>(hown.lt k hk).1)) h2 h3 h4 h5
end
end Go.Dol
set_option linter.unusedVariables false
namespace Go.Proofs.YtecpbcmpncgokaaGreat
open Go.RowKit Go.Dol
structure TwoS (w:World) (base:Nat) (A:OA) (c:Nat) (xs:List BA) (A2:OA) (c2:Nat) (ys:List BA):Prop where
 one:w.ownsRow base 9 1 (.slice A xs.length c) xs.length (sc xs)
 two:w.ownsRow base 9 1 (.slice A2 ys.length c2) ys.length (sc ys)
 apart: ∀k,(Value.slice A xs.length c).ownBlock=some k→(Value.slice A2 ys.length c2).ownBlock≠some k
section
variable {w w':World} {g m base:Nat} {D:Dk} {A A2:OA} {c c2:Nat} {xs ys:List BA}
theorem TwoS.nil (w:World) (base:Nat):TwoS w base none 0 [] none 0 []:=⟨World.ownsRow_nil _ _ _ _,World.ownsRow_nil _ _ _ _,fun k h=>by cases h⟩
theorem TwoS.below (h:TwoS w base A c xs A2 c2 ys) (hb:Below w.heap.size w w'):TwoS w' base A c xs A2 c2 ys:=⟨Zi h.one hb,Zi h.two hb,h.apart⟩
theorem TwoS.tw (h:TwoS w base A c xs A2 c2 ys) (hD:Dsk w g m D) (ht:Tw w w' g m):TwoS w' base A c xs A2 c2 ys:=⟨Zec hD ht h.one (by decide),Zec hD ht h.two (by decide),h.apart⟩
theorem TwoS.app1 {x:BA} {A':OA} {c':Nat} (h:TwoS w base A c xs A2 c2 ys) (ho:w'.ownsRow base 9 1 (.slice A' (xs.length+1) c') (xs.length+1) (sc xs++[.string x])) (hg:w.grownBy w' (Value.slice A xs.length c).ownBlock)
  (hl:(Value.slice A' (xs.length+1) c').ownBlock=(Value.slice A xs.length c).ownBlock∨(Value.slice A' (xs.length+1) c').ownBlock=some w.heap.size):TwoS w' base A' c' (xs++[x]) A2 c2 ys:=by
 have e:(xs++[x]).length=xs.length+1:=by simp
 refine ⟨by rw [e,Zad];exact ho,Z2d h.two fun k hk=>hg.block k (Zs h.two k hk).2 fun e2=>h.apart k e2.symm hk,fun k hk h2=> ?_⟩;rw [e] at hk;rcases hl with h3 | h3
 ·exact h.apart k (h3.symm.trans hk) h2
 ·rw [h3] at hk
  injection hk with hk
  have:=(Zs h.two k h2).2;omega
theorem TwoS.app2 {y:BA} {A':OA} {c':Nat} (h:TwoS w base A c xs A2 c2 ys) (ho:w'.ownsRow base 9 1 (.slice A' (ys.length+1) c') (ys.length+1) (sc ys++[.string y])) (hg:w.grownBy w' (Value.slice A2 ys.length c2).ownBlock)
  (hl:(Value.slice A' (ys.length+1) c').ownBlock=(Value.slice A2 ys.length c2).ownBlock∨(Value.slice A' (ys.length+1) c').ownBlock=some w.heap.size):TwoS w' base A c xs A' c' (ys++[y]):=by
 have e:(ys++[y]).length=ys.length+1:=by simp
 refine ⟨Z2d h.one fun k hk=>hg.block k (Zs h.one k hk).2 fun e2=>h.apart k hk e2.symm,by rw [e,Zad];exact ho,fun k hk h2=> ?_⟩;rw [e] at h2;rcases hl with h3 | h3
 ·exact h.apart k hk (h3.symm.trans h2)
 ·rw [h3] at h2
  injection h2 with h2
  have:=(Zs h.one k hk).2;omega
end
theorem Zdo {w:World} {b1 b2:Nat} {e1 e2:TypeId} {s1 s2 n1 n2:Nat} {v1 v2:Value} {xs ys:List Value} (h1:w.ownsRow b1 e1 s1 v1 n1 xs) (h2:w.ownsRow b2 e2 s2 v2 n2 ys) (he:e1≠e2):v2.ownBlock=none∨v2.ownBlock≠v1.ownBlock:=by
 rcases h2.2 with ⟨rfl,_⟩ | ⟨k2,cap,cur2,rfl,_,hh2,_⟩
 ·exact .inl rfl
 ·refine .inr fun e'=> ?_
  rcases h1.2 with ⟨rfl,_⟩ | ⟨k1,cap1,cur1,rfl,_,hh1,_⟩
  ·cases e'
  ·have e3:k2=k1:=by simpa [Value.ownBlock] using e'
   rw [e3,hh1] at hh2;injection hh2 with hh2
   injection hh2 with _ hh2
   exact he hh2
end Go.Proofs.YtecpbcmpncgokaaGreat
set_option linter.unusedVariables false
namespace Go.Proofs.YtecpbcmpncgokaaGreat
open Go.RowKit Go.Dol
section
variable {w w1 w':World} {base gp gs g m:Nat} {xs:List PkA} {D:Dk} {A A2:OA} {c c2 n:Nat} {ys zs:List BA}
theorem Tw.row (h:Tw w w1 g m) {row:Option Nat} (hg:w1.grownBy w' row) (hr: ∀k,row=some k→w.heap.size≤k):Tw w w' g m:=
  ⟨hg.os.trans h.os,hg.tape.trans h.tape,hg.output.trans h.output,lT h.size hg.size,fun i hi h1 h2=>(hg.block i (Nat.lt_of_lt_of_le hi h.size) fun e=>by have:=hr i e.symm;omega).trans (h.block i hi h1 h2)⟩
theorem TwoS.lower {n':Nat} (h:TwoS w n A c ys A2 c2 zs) (hn:n'≤n):TwoS w n' A c ys A2 c2 zs:=⟨h.one.base hn,h.two.base hn,h.apart⟩
end
def Zjs (w:World) (e:Ending) (w':World):Prop:=
  ∃(g m gs base gp:Nat) (D:Dk) (ps:List (LU)) (n:Nat) (A1:OA) (c1:Nat) (A2:OA) (c2:Nat),e= .returned (.tuple #[.pointer (some ⟨g,0,none⟩), .pointer (some ⟨gs,0,none⟩), .slice A1 n c1, .slice A2 n c2])∧Hid (ps.length=n)∧n≤20∧Sto w' gs g m base gp D []∧
    Hid (Just D ps∧D.cap=1099511627776)∧Hid (TwoS w' w.heap.size A1 c1 (ps.map idO) A2 c2 (ps.map idS))∧(w.heap.size≤g∧w.heap.size≤m∧w.heap.size≤gs∧w.heap.size≤gp∧w.heap.size≤base)∧Below w.heap.size w w'
def Zk4 (l:List ObA) (g m:Nat) (w:World) (v1 v2 i:Value) (wr:World):Prop:=
  ∃(k:Nat) (D:Dk) (ps:List (LU)) (n:Nat) (A1:OA) (c1:Nat) (A2:OA) (c2:Nat),i= .int .i64 k∧k≤l.length∧k≤20∧v1= .slice A1 n c1∧v2= .slice A2 n c2∧Hid (ps.length=n)∧n≤k∧Hid (TwoS wr w.heap.size A1 c1 (ps.map idO) A2 c2 (ps.map idS))∧Dsk wr g m D∧Hid (Just D ps∧D.cap=1099511627776)∧Tw w wr g m
set_option maxRecDepth 100000 in
set_option maxHeartbeats 12800000 in
theorem ZcK (A:OA) (l:List ObA) (c:Nat) (w:World) (hr:Rd w w.heap.size 10 A l.length (oc l)) (hos:Obs w w.heap.size l) (hl:l.length≤140737488351232):
    Calls Tryz.prog 57 #[.slice A l.length c] w (Zjs w):=by
  go_in;go_wp2_with fail;refine (Z4Q 1099511627776 w (by omega) (by omega)).mono ?_;rintro e w1 ⟨g,m,rfl,hD1,hg1,hm1,hb1⟩;have hC0:=Z60 1099511627776 (by omega) (by omega);have HO:=qI (Z47 hD1 (ZeT hC0.ok));go_wp2_with fail;refine HO.out.mono ?_;rintro e w2 ⟨hb2,gs,base,gp,xs,hxs,rfl,hgs,hgp,hbase,hst2⟩;obtain rfl:xs=[]:=List.map_eq_nil_iff.1 hxs.out;have hb02:=hb1.next hb2;have hs1:=hb1.size;have hO2:Hid (Just (newD 1099511627776) []∧(newD 1099511627776).cap=1099511627776):=⟨⟨hC0,fun r hr=>(List.not_mem_nil hr).elim,List.nodup_nil,List.Perm.refl _⟩,rfl⟩;have hs2:=hb2.size;have hgm:g<w2.heap.size∧m<w2.heap.size:=hst2.dk.lt;clear HO hC0 hxs;go_wp2_with fail;go_loopw [10,11,12] (fun v1 v2 i wr=>Zk4 l g m w2 v1 v2 i wr) (fun _ _ i _=>l.length-(intOf i).toNat)
  case atStart=>exact ⟨0,_,[],0,none,0,none,0,rfl,zL _,zL _,rfl,rfl,rfl,lR _,TwoS.nil _ _,hst2.dk,hO2,Tw.refl _ _ _⟩
  case round=>
    clear hO2;obtain ⟨k,D,ps,n,A1,c1,A2,c2,rfl,hk,hk20,rfl,rfl,hpn,hnk,hT,hD,hO,hw⟩:=hrel;have hs:=hw.size;have hbw:Below w.heap.size w wr:=Tw.new hb02 hw hg1 hm1;have f1:IntKind.i64.wrap ((k:Int)+1)=(k:Int)+1:=qJ _ (by omega)
    by_cases h1:k<l.length∧k<20
    · obtain ⟨h1,h2⟩:=h1
      have d1:decide ((k:Int)<(l.length:Int))=true:=dT (by omega);have d1':(k:Int)<(l.length:Int):=by omega
      have d2:decide ((k:Int)<20)=true:=dT (by omega);have d2':(k:Int)<20:=by omega
      have hk0:(0:Int)≤(k:Int):=by omega
      obtain ⟨x,hx⟩: ∃x,l[k]?=some x:=⟨l[k],gE h1⟩;have hsw:=hbw.size;obtain ⟨bb,off,rfl,hbb,hcell⟩:=(hr.below hbw).at_ (by omega);obtain ⟨x1,x2,x3,x4,x5,x6⟩:=hos x (List.mem_of_getElem? hx);obtain ⟨q0,q1,q2,q3,q4,q5,q6,q7,q8,q9⟩:=Zfr hcell hx;have HE:=qI (Z0W x.k x.Ad x.d x.cd x.Ae x.en x.ce x.tr x.Ap x.pa x.cp x.ta x.na x.wh x.st x.te wr ((x1.below hbw).more hsw) ((x2.below hbw).more hsw) ((x3.below hbw).more hsw) x4 x5 (qI x6.out.2));have hJ:=hO.out.1;have hKW:=hJ.calm.ok.toW;have hlen:=hJ.calm.ok.lenW;have hno:PkOk (([]:List PkA).map PkA.pk):=fun p hp=>(List.not_mem_nil hp).elim;clear hcell hx x1 x2 x3 x4 x5 x6;go_wp2_with fail;refine HE.out.mono ?_;rintro e w4 ⟨hb4,⟨hc,raw,A4,c4,el,rfl,ho4⟩ | ⟨hc,rfl⟩⟩
      · have hobj:Zd geS raw=true:=by rw [el.out];exact (by unfold Zd;rw [Zew hc];rfl)
        have hfew:=Z17 raw hobj;have hpf:=Z4p hobj;have hol:=Z5i ho4;have HS:=qI (Z2i A4 raw c4 w4 (Rd.of_own ho4) (by omega));clear HE hc el;go_wp2_with fail;refine HS.out.mono ?_;rintro e w5 ⟨rfl,hb5⟩;obtain ⟨id,hid⟩: ∃id,id=idO raw:=⟨_,rfl⟩;have h32:id.size=32:=by rw [hid];exact ZM _
        have hw5:=hw.step ((Tw.below hb4).step (Tw.below hb5));have hD5:=(hD.below hb4).below hb5;have hst5:=hst2.tw hw5 hD5;have hH:=Z8g hst5 hKW hno (by decide) id (by omega) (fun e=>Z46 e rfl);rw [show ([]:List PkA).map PkA.pk=[] from rfl,Z5L] at hH;rw [←hid];have HID:=qI hid;obtain ⟨hd,hhd⟩: ∃hd,hd=isOk (getO geS D id):=⟨_,rfl⟩;rw [←hhd] at hH;have HH:=qI hH;clear HS hH hid;go_wp2_with fail;refine HH.out.mono ?_;rintro e w6 ⟨rfl,hb6⟩;have hD6:=hD5.below hb6;have hst6:=hst5.below hb6;have ho6:=Zi (Zi ho4 hb5) hb6;have hT6:=((hT.out.below hb4).below hb5).below hb6;have hw6:=hw5.step (Tw.below hb6);have hP:=Z5a hst6 hKW (by omega) hno (by decide) A4 raw c4 (Rd.of_own ho6) hol.1 hol.2 (by omega);rw [show ([]:List PkA).map PkA.pk=[] from rfl,Zb1] at hP;have hroom:=hJ.room;rcases hJ.put hobj (by have:=hO.out.2;have:=hpn.out;omega) with ⟨b,hg,he⟩ | ⟨D',hg,he,hJ',hc',_⟩
        · have hd1:hd=true:=by rw [hhd,HID.out,hg];rfl
          rw [he] at hP;have HP:=qI hP;subst hd1;clear hP he hhd HH hg;go_wp2_with fail;refine HP.out.mono ?_;clear HP
          by_cases hbr:b=raw
          · rw [if_pos hbr]
            clear hbr;intro e w7 h9;obtain ⟨rfl,hst7,ht7⟩:=h9.ok;have hT7:=qI (hT6.tw hD6 ht7);go_wp2_with fail;exact ⟨⟨k+1,D,ps,n,A1,c1,A2,c2,by go_num,by omega,by omega,rfl,rfl,hpn,by omega,hT7,hst7.dk,hO,hw6.step ht7⟩,by simp [intOf];omega⟩
          · rw [if_neg hbr]
            clear hbr;intro e w7 h9;obtain ⟨rfl,hst7,ht7⟩:=h9.err;have hT7:=qI (hT6.tw hD6 ht7);go_wp2_with fail;exact ⟨⟨k+1,D,ps,n,A1,c1,A2,c2,by go_num,by omega,by omega,rfl,rfl,hpn,by omega,hT7,hst7.dk,hO,hw6.step ht7⟩,by simp [intOf];omega⟩
        · have hd1:hd=false:=by rw [hhd,HID.out,hg];rfl
          rw [he, ←HID.out] at hP;have HP:=qI hP;have hO7:Hid (Just D' (ps++[raw])∧D'.cap=1099511627776):=⟨hJ',hc'.trans hO.out.2⟩;subst hd1;clear hP he hhd HH hg hJ' hc' hJ hO;go_wp2_with fail;refine HP.out.mono ?_;intro e w7 h9;obtain ⟨rfl,hst7,ht7⟩:=h9.ok;have hT7:=hT6.tw hD6 ht7;have ho7:=Zec hD6 ht7 ho6 (by decide);have hw7:=hw6.step ht7;have hs7:=hw7.size;have hD7:=hst7.dk;have hn1:(ps.map idO).length=n:=by rw [List.length_map];exact hpn.out
          have hn2:(ps.map idS).length=n:=by rw [List.length_map];exact hpn.out
          have hR1:=Rd.new1 w7 9 (.string id);have hb78:Below w7.heap.size w7 (w7.alloc (.cells #[.string id] 9)):=(bR _ _).alloc (lR _) _;have hT8:=hT7.below hb78;have ho1:=hT8.one;rw [hn1] at ho1;clear HP hT6 ho6 hT
          go_wp2_with (first
            | (at_builtin;refine Zg5 rfl _ _ 38 9 (.string ⟨#[]⟩) 16 rfl Tryz.underlying38 Z7k rfl w2.heap.size (.slice A1 n c1) n (sc (ps.map idO)) rfl ho1 _ _ 1 1 [.string id] rfl hR1 (by intro u hu;obtain rfl:=List.mem_singleton.1 hu;rfl) (by unfold maxLen;omega) (by omega) (by simp;omega) ?_
               intro A9 c9 w9 ho9 hb9 hg9 hl9 _ _;have hT9:=hT8.app1 (x:=id) (A':=A9) (c':=c9) (by rw [hn1];exact ho9) (by rw [hn1];exact hg9) (by rw [hn1];exact hl9.out);have hb10:Below w9.heap.size w9 (w9.alloc (.cells #[.string (idS raw)] 9)):=(bR _ _).alloc (lR _) _;have hT10:=hT9.below hb10;have ho10:=hT10.two;rw [hn2] at ho10;have ho9r:=(Zi ho7 hb78).kept hg9 (Zdo ho1 (Zi ho7 hb78) (by decide));have cv:(convert 36 9 (.slice A4 raw.length c4)).run Tryz.prog w9= .ok (.string (idS raw)) w9:=Z0Q (Rd.of_own ho9r);have hR10:=Rd.new1 w9 9 (.string (idS raw))
               have hs9:=hg9.size)
            | (at_builtin;refine Zg5 rfl _ _ 38 9 (.string ⟨#[]⟩) 16 rfl Tryz.underlying38 Z7k rfl w2.heap.size (.slice A2 n c2) n (sc (ps.map idS)) rfl ho10 _ _ 1 1 [.string (idS raw)] rfl hR10 (by intro u hu;obtain rfl:=List.mem_singleton.1 hu;rfl) (by unfold maxLen;omega) (by omega) (by simp at hs9 ⊢; omega) ?_
               intro A11 c11 w11 ho11 hb11 hg11 hl11 _ _))
          have hT12:=hT10.app2 (y:=idS raw) (A':=A11) (c':=c11) (by rw [hn2];exact ho11) (by rw [hn2];exact hg11) (by rw [hn2];exact hl11.out);have hD9:=(hD7.below hb78).own ho1 (by decide) (by decide) hg9;have hD11:=(hD9.below hb10).own ho10 (by decide) (by decide) hg11;have hw9:=Tw.row (hw7.step (Tw.below hb78)) hg9 (fun j hj=>(Zs ho1 j hj).1);have hw11:=Tw.row (hw9.step (Tw.below hb10)) hg11 (fun j hj=>(Zs ho10 j hj).1);refine ⟨⟨k+1,D',ps++[raw],n+1,A9,c9,A11,c11,by go_num,by omega,by omega,rfl,rfl, ?_,by omega, ?_,hD11,hO7,hw11⟩,by simp [intOf];omega⟩
          · unfold Hid
            rw [List.length_append,hpn.out]
            rfl
          · unfold Hid
            rw [List.map_append,List.map_append];rw [HID.out] at hT12;exact hT12
      · have HS:=qI (Z2i none [] 0 w4 Rd.nil (by decide))
        clear HE;go_wp2_with fail;refine HS.out.mono ?_;rintro e w5 ⟨rfl,hb5⟩;obtain ⟨id,hid⟩: ∃id,id=idO []:=⟨_,rfl⟩;have h32:id.size=32:=by rw [hid];exact ZM _
        have hw5:=hw.step ((Tw.below hb4).step (Tw.below hb5));have hD5:=(hD.below hb4).below hb5;have hst5:=hst2.tw hw5 hD5;have hH:=Z8g hst5 hKW hno (by decide) id (by omega) (fun e=>Z46 e rfl);rw [←hid];obtain ⟨hd,hhd⟩: ∃hd,hd=isOk (getS geS D (([]:List PkA).map PkA.pk) id):=⟨_,rfl⟩;rw [←hhd] at hH;have HH:=qI hH;clear HS hH hid hhd;go_wp2_with fail;refine HH.out.mono ?_;rintro e w6 ⟨rfl,hb6⟩;have hD6:=hD5.below hb6;have hst6:=hst5.below hb6;have hT6:=((hT.out.below hb4).below hb5).below hb6;have hw6:=hw5.step (Tw.below hb6);have hP:=Z5a hst6 hKW (by omega) hno (by decide) none [] 0 Rd.nil (by decide) (by decide) (by decide);rw [Z8f _ _ _ _ (show Zd geS []=false from rfl)] at hP;have HP:=qI hP;clear hP HH hT;go_wp2_with fail;refine HP.out.mono ?_;intro e w7 h9;obtain ⟨rfl,hst7,ht7⟩:=h9.err;have hT7:=qI (hT6.tw hD6 ht7);go_wp2_with fail;exact ⟨⟨k+1,D,ps,n,A1,c1,A2,c2,by go_num,by omega,by omega,rfl,rfl,hpn,by omega,hT7,hst7.dk,hO,hw6.step ht7⟩,by simp [intOf];omega⟩
    · have hfin: ¬((k:Int)<(l.length:Int)∧(k:Int)<20):=fun h=>h1 ⟨by omega,by omega⟩
      go_upto_region 6 with (fail)
      go_cut [34] (fun v wx=>v= .bool false∧wx=wr)
      case first=>
        by_cases hkl:k<l.length
        · have d1:decide ((k:Int)<(l.length:Int))=true:=dT (by omega)
          have d1':(k:Int)<(l.length:Int):=by omega
          have d2:decide ((k:Int)<20)=false:=qF (by omega);have d2': ¬(k:Int)<20:=by omega
          clear hfin h1;go_wp2_with fail;go_meet;exact ⟨rfl,rfl⟩
        · have d1:decide ((k:Int)<(l.length:Int))=false:=qF (by omega)
          have d1': ¬(k:Int)<(l.length:Int):=by omega
          clear hfin h1;go_wp2_with fail;go_meet;exact ⟨rfl,rfl⟩
      case rest=>
      obtain ⟨rfl,hwx⟩:=hcut;obtain rfl:=hwx.symm;have hst9:=hst2.tw hw hD;have hT9:=qI (hT.out.lower hb02.size);clear hfin h1 f1;go_wp2_with fail;refine bodyPost_ret (v:= .tuple #[.pointer (some ⟨g,0,none⟩), .pointer (some ⟨gs,0,none⟩), .slice A1 n c1, .slice A2 n c2]) (by simp [results,Tryz.results57]) rfl ?_;exact ⟨g,m,gs,base,gp,D,ps,n,A1,c1,A2,c2,rfl,hpn,by omega,hst9,hO,hT9,by omega,hbw⟩
end Go.Proofs.YtecpbcmpncgokaaGreat
set_option linter.unusedVariables false
namespace Go.Proofs.YtecpbcmpncgokaaGreat
open Go.RowKit Go.Dol
section
variable {w w':World} {base gp gs g m:Nat} {xs:List PkA} {D:Dk} {S:List Nat}
end
theorem ZiC (ks:List (LU)) (b:LU):(pkF ks b).length=if ks.length=0 then 0 else 1:=by
 unfold pkF;cases ks<;>rfl
end Go.Proofs.YtecpbcmpncgokaaGreat
