/- Walks and laws. Conditions: as stated. -/
import Derived.Test.YtecpbcmpncgokaaGreatRSt9
set_option maxRecDepth 99999
set_option maxHeartbeats 25600000
set_option linter.all false
open List renaming replicate->PI
open Go.RowKit Go.Dol
namespace Go.Dol
theorem br {S W A B r} (a:rounds S W r=A) (b:inner A W r 8=B):rounds S W (r+1)=B:=by rw [rounds,a,b]
theorem zc (a b c d):aw [a,b,c,d]=dh (sumB (sumB first ([a,b,c,d,1]++(PI 19 0++[4,0,0,0,0,0,0,0]))) (PI 32 0)):=by
 unfold aw;rw [fQ (by simp)];unfold mU;have e:[a,b,c,d]++dK 4 4=([a,b,c,d,1]++(PI 19 0++[4,0,0,0,0,0,0,0]))++PI 32 0:=rfl;show dh (bt first ([a,b,c,d]++dK 4 4)).1=_;rw [e,fR (by simp),List.take_left' (by simp),List.drop_left' (by simp),fR (by simp),fQ (by simp),i9 (by simp)]
theorem LL:rounds [2654435769,1013904242,3668340011,2027808484,387276957,3041712726,1401181199,4055616968] [1701736193,1,0,0,0,0,4,0] 8=[3958000252,3012073144,2330793683,1632941252,1206516158,591391854,2172292574,4064058119]:=by
 have a:rounds [2654435769,1013904242,3668340011,2027808484,387276957,3041712726,1401181199,4055616968] [1701736193,1,0,0,0,0,4,0] 0=[2654435769,1013904242,3668340011,2027808484,387276957,3041712726,1401181199,4055616968]:=rfl;have a:=br (B:=[3980430277,2988442166,933546019,1057186265,1200835616,3973270807,237016264,3806448789]) a qkR;have a:=br (B:=[1925382448,1324251989,3071490419,2121818404,109243848,3923430610,2577147032,798989734]) a qkR;have a:=br (B:=[3815097495,443160162,1389273032,1329222203,1584356561,3319388475,2625395087,3741568924]) a qkR;have a:=br (B:=[2729394677,2770270902,3127521092,3040053551,1631721102,1804816456,2682985577,2444161711]) a qkR;have a:=br (B:=[2126554314,2316574742,292057726,689006253,1092707960,27882273,3591535293,4064346179]) a qkR;have a:=br (B:=[1375821446,1422481722,1252875489,3194197839,132688662,488737184,4140565321,3455271439]) a qkR;have a:=br (B:=[2600066958,4070807142,858297739,1178897875,1873335739,2900478886,445438034,761809263]) a qkR;have a:=br (B:=[3958000252,3012073144,2330793683,1632941252,1206516158,591391854,2172292574,4064058119]) a qkR;exact a
theorem LM:rounds [3958000252,3012073144,2330793683,1632941252,1206516158,591391854,2172292574,4064058119] [0,0,0,0,0,0,0,0] 8=[1881238288,1356977861,559022452,1282715062,1762532540,2780792063,3318677889,1174462149]:=by
 have a:rounds [3958000252,3012073144,2330793683,1632941252,1206516158,591391854,2172292574,4064058119] [0,0,0,0,0,0,0,0] 0=[3958000252,3012073144,2330793683,1632941252,1206516158,591391854,2172292574,4064058119]:=rfl;have a:=br (B:=[1094024837,1080213733,2980893253,3530974914,1321020881,701934541,4082503481,3557869066]) a qkR;have a:=br (B:=[123871840,3795728921,3912905894,1824834812,1914383918,4028691523,2037273916,513040704]) a qkR;have a:=br (B:=[3893448309,964368199,1252418721,2672145520,3277904445,2125593130,12442866,1980067445]) a qkR;have a:=br (B:=[1780977517,4275396744,2557990186,2311749974,2396142166,1317025869,1154800606,3046902354]) a qkR;have a:=br (B:=[1797559945,2637677969,2286763963,1865277547,543188955,1779694038,180711101,1319925111]) a qkR;have a:=br (B:=[3454127821,3422667468,2927105794,794956380,1856276795,3217820744,4236730751,1861804944]) a qkR;have a:=br (B:=[837762307,3639738025,2544261615,936244618,3968388971,2661610208,985989356,2006958556]) a qkR;have a:=br (B:=[1881238288,1356977861,559022452,1282715062,1762532540,2780792063,3318677889,1174462149]) a qkR;exact a
theorem LN:aw [1,111,110,101]=dh [1881238288,1356977861,559022452,1282715062,1762532540,2780792063,3318677889,1174462149]:=by
 rw [zc];unfold sumB;rw [show first=[2654435769,1013904242,3668340011,2027808484,387276957,3041712726,1401181199,4055616968] by kernel_rfl,show eD ([1,111,110,101,1]++(PI 19 0++[4,0,0,0,0,0,0,0]))=[1701736193,1,0,0,0,0,4,0] by kernel_rfl,LL,show eD (PI 32 0)=[0,0,0,0,0,0,0,0] by kernel_rfl,LM]
theorem LO:rounds [2654435769,1013904242,3668340011,2027808484,387276957,3041712726,1401181199,4055616968] [1870099457,1,0,0,0,0,4,0] 8=[3011094049,3597420444,1105524035,160581666,1961228068,4291646637,22160434,355843297]:=by
 have a:rounds [2654435769,1013904242,3668340011,2027808484,387276957,3041712726,1401181199,4055616968] [1870099457,1,0,0,0,0,4,0] 0=[2654435769,1013904242,3668340011,2027808484,387276957,3041712726,1401181199,4055616968]:=rfl;have a:=br (B:=[2854185924,2988442166,933546019,1057186265,1200835616,3973270807,237016264,3403522602]) a qkR;have a:=br (B:=[245301576,1324251989,3071490419,2121818404,109243848,3923430610,3207396319,3609658488]) a qkR;have a:=br (B:=[1592117130,443160162,1389273032,1329222203,1584356561,1148115432,409320439,3196577480]) a qkR;have a:=br (B:=[313499716,2770270902,3127521092,3040053551,1541464285,908470239,2609608830,4181967889]) a qkR;have a:=br (B:=[2127326872,2316574742,292057726,4137110450,1540753772,2683054869,3086033633,337852579]) a qkR;have a:=br (B:=[1400543302,1422481722,2901477368,402001572,3117828988,3258195159,1390822077,1391947312]) a qkR;have a:=br (B:=[3391166350,1795768067,59856048,4271811290,232794003,2564958795,1595302205,3205546527]) a qkR;have a:=br (B:=[3011094049,3597420444,1105524035,160581666,1961228068,4291646637,22160434,355843297]) a qkR;exact a
theorem LP:rounds [3011094049,3597420444,1105524035,160581666,1961228068,4291646637,22160434,355843297] [0,0,0,0,0,0,0,0] 8=[1010484000,2462508380,2626492989,2080907802,1489904221,3753029692,1468086690,1045319299]:=by
 have a:rounds [3011094049,3597420444,1105524035,160581666,1961228068,4291646637,22160434,355843297] [0,0,0,0,0,0,0,0] 0=[3011094049,3597420444,1105524035,160581666,1961228068,4291646637,22160434,355843297]:=rfl;have a:=br (B:=[1194052202,2483158488,1978602567,1966421619,2042286110,3702165952,2768971043,2997359944]) a qkR;have a:=br (B:=[2447562385,1930975299,761772995,947095003,4257832634,690286160,3489020593,1711519992]) a qkR;have a:=br (B:=[1638765621,2547817463,2765019640,1881024991,1734391560,4038575184,2417097421,1102959379]) a qkR;have a:=br (B:=[1085644012,3853959747,1797929824,1017687141,3510041656,1739039027,1260208119,1332069882]) a qkR;have a:=br (B:=[1910549901,895669514,2115617686,2676026009,159727814,2544245952,400855591,1552311057]) a qkR;have a:=br (B:=[1252827361,3835700717,160332778,2922821290,451516243,2427606712,2407384175,1175839139]) a qkR;have a:=br (B:=[872413246,1581800633,1894632802,1189439815,2491786437,2667494293,2526587919,1507853693]) a qkR;have a:=br (B:=[1010484000,2462508380,2626492989,2080907802,1489904221,3753029692,1468086690,1045319299]) a qkR;exact a
theorem LQ:aw [1,116,119,111]=dh [1010484000,2462508380,2626492989,2080907802,1489904221,3753029692,1468086690,1045319299]:=by
 rw [zc];unfold sumB;rw [show first=[2654435769,1013904242,3668340011,2027808484,387276957,3041712726,1401181199,4055616968] by kernel_rfl,show eD ([1,116,119,111,1]++(PI 19 0++[4,0,0,0,0,0,0,0]))=[1870099457,1,0,0,0,0,4,0] by kernel_rfl,LO,show eD (PI 32 0)=[0,0,0,0,0,0,0,0] by kernel_rfl,LP]
theorem Ly:aw [1,111,110,101]≠aw [1,116,119,111]:=by
 rw [LN,LQ];decide
end Go.Dol
namespace Go.Proofs.YtecpbcmpncgokaaGreat
def RetPutS2 (w:World) (gs a:Nat) (r:Except Int BA×Dk) (b:Ending) (w':World):Prop:=b= .returned (jt r.1)/\RSto w' gs a r.2/\w.grownBy w' (some a)
theorem RetPutS2.ok {w w' gs gr id D e} (a:RetPutS2 w gs gr (.ok id,D) e w'):e= .returned (.tuple #[.string id,i0])/\RSto w' gs gr D/\w.grownBy w' (some gr):=a
theorem RetPutS2.err {w w' gs gr k D e} (a:RetPutS2 w gs gr (.error k,D) e w'):e= .returned (.tuple #[eS,.int .i64 k])/\RSto w' gs gr D/\w.grownBy w' (some gr):=a
section
variable {w w':World} {gs gr:Nat} {D:Dk} {P:List Pk}
theorem Jb (h:RSto w gs gr D) (o:OkG kac kab D) (G:ai geS D.l=some P) (H:D.l.length+1<=kac) (A raw c) (i:Rd w w 1 A raw.length (bc raw)) (q:raw.length<=c) (s:c<=maxLen) (t:raw.length<=kab):
  Calls Tryz.prog 149 #[.pointer (some gs),.slice A raw c] w (RetPutS2 w gs gr (cz geS D P raw)):=by
 have I:OkW D:=o.mono (lR _) (by decide);obtain ⟨r,j⟩:=gH (cz geS D P raw);rw [<-j];have b:=iv A raw c w i q s t;go_in;go_wp2_with fail;cases d:aZ geS raw with
 | none=>
  rw [d] at b;have k:=qI b;have hr2:Hid (r=(.error 1,D)):=by
   unfold Hid;rw [j];exact qe _ _ _ _ (by unfold ah;rw [d];rfl)
  clear b d;refine k.mono ?_;rintro e J ⟨rfl,u⟩;have a:=u.alloc u.size (.cells zcells.toArray 40);go_wp2_with fail;go_ret2;rw [hr2];exact ⟨rfl,h.below a,ax a _⟩
 | some o0=>
 rw [d] at b;have k:=qI b;have v:ah geS raw=true:=by unfold ah;rw [d];rfl
 have hr2:=qI (j.out.trans (mG v));clear b d v;refine k.mono ?_;rintro e J ⟨K,L,M,N,O,Q,R,S,T,U,V,W,X,Y,Z,a0,b0,rfl,_,_,_,a,_,_,_⟩;clear b0;have a:=a.alloc a.size (.cells #[K,.slice L M N,.slice O Q R,S,.slice T U V,W,X,Y,Z,a0] 40);have c0:=h.below a;have y:=qI (oF A raw c _ ((i.below a).more a.size) qO);go_wp2_with fail;refine y.mono ?_;rintro e p0 ⟨rfl,z⟩;have B:=c0.below z;have d0:=a.next z;obtain ⟨id,g⟩: ∃id:BA,id=idO raw:=⟨_,rfl⟩;have e0:=qI g;have q0:id.size=32:=by rw [g];exact dO raw
 rw [<-g];clear g y;have f0:=qI (mD B o G id qO);go_wp2_with fail;refine f0.mono ?_;obtain ⟨g0,hq⟩:=gX (aP geS D P id);rw [<-hq];rw [<-e0,<-hq] at hr2;rintro e w4 ⟨C,hm⟩;have h4:=B.below C;have hb04:=d0.next C;have hr4:=(i.below hb04).more hb04.size;cases g0 with
 | ok r0=>
  exact z229
 | error h0=>
 obtain rfl:=hm;have j0:=fO hq.symm;have s0:=beq_eq_false_iff_ne.2 j0;clear hq;by_cases f:h0=2
 ·have hr3:Hid (r=(.error 2,D)):=by
   unfold Hid;rw [hr2];simp only;rw [if_pos f]
  subst f;go_wp2_with fail;go_ret2;rw [hr3];exact ⟨rfl,h4,ax hb04 _⟩
 have z2:=beq_eq_false_iff_ne.2 f;have t0:=h4.cell;have m:=De h4.dk I H A raw c hr4 q s t;obtain ⟨E,n⟩:=gX (putO geS D raw);have hr3:Hid (r=E):=by
  unfold Hid;rw [hr2,n];simp only;rw [if_neg f]
 rw [<-n] at m;clear hr2 n f;obtain ⟨k0,u0⟩:=E;have l0:=qI m;clear m;go_wp2_with fail;refine l0.mono ?_;rintro e v0 ⟨F,h5,hg5⟩;cases k0 with
 | ok m0=>
  obtain rfl:e= .returned (.tuple #[m0,i0]):=F;exact z212
 | error n0=>
 obtain rfl:e= .returned (.tuple #[eS,n0]):=F;exact z212
theorem Jc (t:RSto w gs gr D) (u:OkG kac kab D) (v:ai geS D.l=some P) (x:D.l.length+1<=kac) (k Ad d cd Ae en ce tr Ap pa cp ta na wh st te)
  (m: ∀f,Below w w f->Calls Tryz.prog 51 #[.agg #[.int .i64 k,.slice Ad d.length cd,.slice Ae en.length ce,.string tr,.slice Ap pa.length cp,.string ta,.string na,.string wh,.int .i64 st,.string te]] f (RetEnc f ⟨k,d,en,tr,pa,ta,na,wh,st,te⟩)):
  Calls Tryz.prog 79 #[.pointer (some gs),.agg #[k,.slice Ad d cd,.slice Ae en ce,tr,.slice Ap pa cp,ta,na,wh,st,te]] w (RetPutS2 w gs gr (hP geS D P ⟨k,d,en,tr,pa,ta,na,wh,st,te⟩)):=by
 obtain ⟨g,b⟩:=gH (hP geS D P ⟨k,d,en,tr,pa,ta,na,wh,st,te⟩);rw [<-b];have ha:=bAl w (.cells [.int .i64 k,.slice Ad d cd,.slice Ae en ce,.string tr,.slice Ap pa cp,.string ta,.string na,.string wh,.int .i64 st,.string te].toArray 40);have y:=o9 w 40 [k,.slice Ad d cd,.slice Ae en ce,tr,.slice Ap pa cp,ta,na,wh,st,te];have z:=qI (m _ ha);have n:=t.below ha;clear m;go_in;go_wp2_with ((refine wpList_load_row rfl 40 _ rfl w.heap.size rfl _ _ _ _ y Go.Proofs.Tryz.underlying40 rfl qkR ?_));refine z.mono ?_;rintro A H ⟨c,⟨a,l,B,C,h,rfl,o⟩ | ⟨a,rfl⟩⟩
 ·have p:=ha.next c;have I:l.length<=1048577:=by rw [h];exact pr a
  have E:=n.below c;have q:=dz o;have r:=qI (Jb E u v x B l C (d8 o) q.1 q.2 qO);have e:g=cz geS D P l:=by
   rw [b,h];exact if_pos a
  rw [<-e] at r;clear e a h b;go_wp2_with fail;refine r.mono ?_;intro A J s;obtain ⟨F,K⟩:=g;cases F with
  | ok G=>
   obtain ⟨rfl,i,j⟩:=RetPutS2.ok s;go_wp2_with fail;go_ret2;exact ⟨rfl,i,aq (ax p _) j⟩
  | error G=>
  obtain ⟨rfl,i,j⟩:=RetPutS2.err s;go_wp2_with fail;go_ret2;exact ⟨rfl,i,aq (ax p _) j⟩
 have e:Hid (g=(.error 1,D)):=b.out.trans (if_neg (by rw [a];decide));clear a b;go_wp2_with fail;go_ret2;rw [e];exact ⟨rfl,n.below c,ax (ha.next c) _⟩
end
