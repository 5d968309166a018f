/- The walks of the layer 'object', its eighth part: are two objects the same? Conditions: lengths below 2^47.  -/
import Derived.Test.YtecpbcmpncgokaaGreatObjA
import Derived.Deep.RegionHeld3
import Derived.Test.YtecpbcmpncgokaaGreatWordsA
import Derived.Test.YtecpbcmpncgokaaGreatShort
set_option maxRecDepth 100000
set_option maxHeartbeats 16000000
set_option linter.unusedVariables false
namespace Go.Proofs.YtecpbcmpncgokaaGreat
open Go.RowKit Go.Dol
def Z4Z (u:Bool) (p:Prop):Prop:=u=true↔p
theorem Z0y (u:Bool) {p:Prop} (h:p):u=false∨u=true∧p:=by cases u<;>simp [h]
theorem Z8P (p:Prop): ∃u:Bool,Z4Z u p:=by
 by_cases h:p
 ·exact ⟨true,by simp [Z4Z,h]⟩
 ·exact ⟨false,by simp [Z4Z,h]⟩
theorem Z3Q (x y:BA): ∃u:Bool,(x.toList==y.toList)=u∧(u=true↔x=y):=⟨_,rfl,fun h=>Z23 (beq_iff_eq.1 h),fun h=>Zaw h⟩
theorem ZdV (A:OA) (a:List Ent) (c:Nat) (A2:OA) (b:List Ent) (c2:Nat) (w:World) (B:Nat) (hr:Rd w B 3 A a.length (ec a)) (hr2:Rd w B 3 A2 b.length (ec b)) (ha:a.length≤140737488355328) (hb:b.length≤140737488355328) {u:Bool} (hv:Z4Z u (a=b)):
  Calls Tryz.prog 227 #[.slice A a.length c,.slice A2 b.length c2] w fun e w'=>e= .returned (.bool u)∧ ∃n,w'=w.drewN n:=
 (Z9o A a c A2 b c2 w B B hr hr2 ha hb).mono fun e w' ⟨v,n,h1,h2,h3⟩=>⟨by rw [h1,Bool.eq_iff_iff.2 (h2.trans (show u=true↔a=b from hv).symm)],n,h3⟩
theorem ZdW (A:OA) (a:List BA) (c:Nat) (A2:OA) (b:List BA) (c2:Nat) (w:World) (B:Nat) (hr:Rd w B 1 A a.length (pc a)) (hr2:Rd w B 1 A2 b.length (pc b)) (ha:a.length≤140737488355328) (hb:b.length≤140737488355328) {u:Bool} (hv:Z4Z u (a=b)):
  Calls Tryz.prog 228 #[.slice A a.length c,.slice A2 b.length c2] w fun e w'=>e= .returned (.bool u)∧ ∃n,w'=w.drewN n:=
 (Z9m A a c A2 b c2 w B B hr hr2 ha hb).mono fun e w' ⟨v,n,h1,h2,h3⟩=>⟨by rw [h1,Bool.eq_iff_iff.2 (h2.trans (show u=true↔a=b from hv).symm)],n,h3⟩
theorem Z3h (k:Int) (Ad:OA) (d:LU) (cd:Nat) (Ae:OA) (en:List Ent) (ce:Nat) (tr:BA) (Ap:OA) (pa:List BA) (cp:Nat) (ta na wh:BA) (st:Int) (te:BA) (k2:Int) (Ad2:OA) (d2:LU) (cd2:Nat) (Ae2:OA) (en2:List Ent) (ce2:Nat) (tr2:BA) (Ap2:OA) (pa2:List BA) (cp2:Nat) (ta2 na2 wh2:BA) (st2:Int) (te2:BA) (w:World) (hd:Rd w w.heap.size 1 Ad d.length (bc d)) (he:Rd w w.heap.size 3 Ae en.length (ec en)) (hp:Rd w w.heap.size 1 Ap pa.length (pc pa)) (hel:en.length≤140737488355328) (hpl:pa.length≤140737488355328) (hd2:Rd w w.heap.size 1 Ad2 d2.length (bc d2)) (he2:Rd w w.heap.size 3 Ae2 en2.length (ec en2)) (hp2:Rd w w.heap.size 1 Ap2 pa2.length (pc pa2)) (hel2:en2.length≤140737488355328) (hpl2:pa2.length≤140737488355328):
  Calls Tryz.prog 158 #[.agg #[.int .i64 k,.slice Ad d.length cd,.slice Ae en.length ce,.string tr,.slice Ap pa.length cp,.string ta,.string na,.string wh,.int .i64 st,.string te],.agg #[.int .i64 k2,.slice Ad2 d2.length cd2,.slice Ae2 en2.length ce2,.string tr2,.slice Ap2 pa2.length cp2,.string ta2,.string na2,.string wh2,.int .i64 st2,.string te2]] w (ZfZ (k=k2∧d=d2∧en=en2∧tr=tr2∧pa=pa2∧ta=ta2∧na=na2∧wh=wh2∧st=st2∧te=te2) w):=by
 have hb:Below w.heap.size w ((w.alloc (.cells #[.int .i64 k,.slice Ad d.length cd,.slice Ae en.length ce,.string tr,.slice Ap pa.length cp,.string ta,.string na,.string wh,.int .i64 st,.string te] 40)).alloc (.cells #[.int .i64 k2,.slice Ad2 d2.length cd2,.slice Ae2 en2.length ce2,.string tr2,.slice Ap2 pa2.length cp2,.string ta2,.string na2,.string wh2,.int .i64 st2,.string te2] 40)):=((bR _ _).alloc (lR _) _).alloc (by simp) _;have hv1:(convert 36 9 (.slice Ad d.length cd)).run Tryz.prog ((w.alloc (.cells #[.int .i64 k,.slice Ad d.length cd,.slice Ae en.length ce,.string tr,.slice Ap pa.length cp,.string ta,.string na,.string wh,.int .i64 st,.string te] 40)).alloc (.cells #[.int .i64 k2,.slice Ad2 d2.length cd2,.slice Ae2 en2.length ce2,.string tr2,.slice Ap2 pa2.length cp2,.string ta2,.string na2,.string wh2,.int .i64 st2,.string te2] 40))= .ok (.string ⟨d.toArray⟩) ((w.alloc (.cells #[.int .i64 k,.slice Ad d.length cd,.slice Ae en.length ce,.string tr,.slice Ap pa.length cp,.string ta,.string na,.string wh,.int .i64 st,.string te] 40)).alloc (.cells #[.int .i64 k2,.slice Ad2 d2.length cd2,.slice Ae2 en2.length ce2,.string tr2,.slice Ap2 pa2.length cp2,.string ta2,.string na2,.string wh2,.int .i64 st2,.string te2] 40)):=Z0L (hd.alive hb);have hv2:(convert 36 9 (.slice Ad2 d2.length cd2)).run Tryz.prog ((w.alloc (.cells #[.int .i64 k,.slice Ad d.length cd,.slice Ae en.length ce,.string tr,.slice Ap pa.length cp,.string ta,.string na,.string wh,.int .i64 st,.string te] 40)).alloc (.cells #[.int .i64 k2,.slice Ad2 d2.length cd2,.slice Ae2 en2.length ce2,.string tr2,.slice Ap2 pa2.length cp2,.string ta2,.string na2,.string wh2,.int .i64 st2,.string te2] 40))= .ok (.string ⟨d2.toArray⟩) ((w.alloc (.cells #[.int .i64 k,.slice Ad d.length cd,.slice Ae en.length ce,.string tr,.slice Ap pa.length cp,.string ta,.string na,.string wh,.int .i64 st,.string te] 40)).alloc (.cells #[.int .i64 k2,.slice Ad2 d2.length cd2,.slice Ae2 en2.length ce2,.string tr2,.slice Ap2 pa2.length cp2,.string ta2,.string na2,.string wh2,.int .i64 st2,.string te2] 40)):=Z0L (hd2.alive hb);have re:=he.below hb;have re2:=he2.below hb;have rp:=hp.below hb;have rp2:=hp2.below hb;obtain ⟨u0,g0,i0⟩: ∃u,(k==k2)=u∧(u=true↔k=k2):=⟨_,rfl,beq_iff_eq⟩;obtain ⟨u1,g1,i1⟩: ∃u,(d==d2)=u∧(u=true↔d=d2):=⟨_,rfl,beq_iff_eq⟩;obtain ⟨u2,HE⟩:=Z8P (en=en2);obtain ⟨u3,g3,i3⟩:=Z3Q tr tr2;obtain ⟨u4,HS⟩:=Z8P (pa=pa2);obtain ⟨u5,g5,i5⟩:=Z3Q ta ta2;obtain ⟨u6,g6,i6⟩:=Z3Q na na2;obtain ⟨u7,g7,i7⟩:=Z3Q wh wh2;obtain ⟨u8,g8,i8⟩: ∃u,(st==st2)=u∧(u=true↔st=st2):=⟨_,rfl,beq_iff_eq⟩;obtain ⟨u9,g9,i9⟩:=Z3Q te te2;have HP:Z4Z (u0&&(u1&&(u2&&(u3&&(u4&&(u5&&(u6&&(u7&&(u8&&u9))))))))) (k=k2∧d=d2∧en=en2∧tr=tr2∧pa=pa2∧ta=ta2∧na=na2∧wh=wh2∧st=st2∧te=te2):=by
  unfold Z4Z;rw [←i0,←i1,←(show u2=true↔en=en2 from HE),←i3,←(show u4=true↔pa=pa2 from HS),←i5,←i6,←i7,←i8,←i9];simp only [Bool.and_eq_true]
 clear hd hd2 he he2 hp hp2 i0 i1 i3 i5 i6 i7 i8 i9;obtain rfl | ⟨rfl,rfl | ⟨rfl,rfl | ⟨rfl,rfl | ⟨rfl,rfl | ⟨rfl,rfl | ⟨rfl,rfl | ⟨rfl,rfl | ⟨rfl,rfl | ⟨rfl,rfl | ⟨rfl,_⟩⟩⟩⟩⟩⟩⟩⟩⟩⟩:=Z0y u0 (Z0y u1 (Z0y u2 (Z0y u3 (Z0y u4 (Z0y u5 (Z0y u6 (Z0y u7 (Z0y u8 (Z0y u9 trivial)))))))))
 all_goals
  try (have:=u1;clear this g1)
  try (have:=u3;clear this g3)
  try (have:=u5;clear this g5)
  try (have:=u6;clear this g6)
  try (have:=u7;clear this g7)
  try (have:=u8;clear this g8)
  try (have:=u9;clear this g9)
  go_in
  go_wp2_with (first
   | (go_at_call 227;(with_reducible refine (ZdV Ae en ce Ae2 en2 ce2 _ w.heap.size re re2 hel hel2 HE).mono ?_);rintro e w3 ⟨rfl,n3,rfl⟩)
   | (go_at_call 228;have rp3:=rp.drewN n3;have rp32:=rp2.drewN n3;(with_reducible refine (ZdW Ap pa cp Ap2 pa2 cp2 _ w.heap.size rp3 rp32 hpl hpl2 HS).mono ?_);rintro e w4 ⟨rfl,n4,rfl⟩))
  go_ret;exact ⟨_,rfl,HP,by first | exact hb | exact hb.drewN' _ | exact (hb.drewN' _).drewN' _⟩
theorem Z3i (w:World):(binOp .eql 151 .nilIface .nilIface).run Tryz.prog w= .ok (.bool true) w:=by kernel_rfl
theorem Z1T (T:TypeId) (v:Value) (w:World):(binOp .eql 151 (.iface T v) .nilIface).run Tryz.prog w= .ok (.bool false) w:=by kernel_rfl
theorem Zax (xs : Array Value) (w : World) : (method 461 215 (.agg xs) "dolmen/object.right").run Tryz.prog w = .ok (329, .agg xs) w := by kernel_rfl
theorem Zay (xs : Array Value) (w : World) : (method 461 217 (.agg xs) "dolmen/object.right").run Tryz.prog w = .ok (332, .agg xs) w := by kernel_rfl
theorem Zaz (xs : Array Value) (w : World) : (method 461 219 (.agg xs) "dolmen/object.right").run Tryz.prog w = .ok (337, .agg xs) w := by kernel_rfl
theorem ZaA (xs : Array Value) (w : World) : (method 461 221 (.agg xs) "dolmen/object.right").run Tryz.prog w = .ok (340, .agg xs) w := by kernel_rfl
def errC (b:Bool):Int:=if b then 0 else 1
theorem Z4p {a b:Bool} (h:a=true↔b=true):a=b:=Bool.eq_iff_iff.2 h
theorem sz0 (s:BA):(s.size=0)↔(⟨#[]⟩=s):=⟨fun h=>(Zz h).symm,fun h=>by subst h;rfl⟩
theorem ln0 {α:Type} (l:List α):(l.length=0)↔([]=l):=⟨fun h=>(nZ h).symm,fun h=>by subst h;rfl⟩
theorem st0 (k:Int):(k=0)↔(0=k):=⟨Eq.symm,Eq.symm⟩
section
variable (d:LU) (en:List Ent) (tr:BA) (pa:List BA) (ta na wh:BA) (st:Int) (te:BA)
theorem ZbM (h:decide (d.length≤1048576)=true):Zb geS ⟨1,d,en,tr,pa,ta,na,wh,st,te⟩=true↔((1:Int)=1∧d=d∧[]=en∧⟨#[]⟩=tr∧[]=pa∧⟨#[]⟩=ta∧⟨#[]⟩=na∧⟨#[]⟩=wh∧0=st∧⟨#[]⟩=te):=by
 unfold Zb Z0Z ZU Z1Q Z1Y;simp only [if_true,h,Bool.true_and,Bool.and_eq_true,decide_eq_true_eq,sz0,ln0,st0 st,true_and,and_assoc];exact ⟨fun ⟨a,b,c,d,e,f,g,h⟩=>⟨a,b,c,d,e,f,h,g⟩,fun ⟨a,b,c,d,e,f,g,h⟩=>⟨a,b,c,d,e,f,h,g⟩⟩
theorem ZbN (h:Z14 geS en=true):Zb geS ⟨2,d,en,tr,pa,ta,na,wh,st,te⟩=true↔((2:Int)=2∧[]=d∧en=en∧⟨#[]⟩=tr∧[]=pa∧⟨#[]⟩=ta∧⟨#[]⟩=na∧⟨#[]⟩=wh∧0=st∧⟨#[]⟩=te):=by
 unfold Zb Z0Y ZU Z1Q Z1Y;simp only [if_true,if_neg (show ¬(2:Int)=1 by decide),h,Bool.true_and,Bool.and_eq_true,decide_eq_true_eq,sz0,ln0,st0 st,true_and,and_assoc];exact ⟨fun ⟨a,b,c,d,e,f,g,h⟩=>⟨a,b,c,d,e,f,h,g⟩,fun ⟨a,b,c,d,e,f,g,h⟩=>⟨a,b,c,d,e,f,h,g⟩⟩
theorem ZbO (h:(decide (tr.size=32)&&Z1d pa&&Zt wh st te)=true):Zb geS ⟨3,d,en,tr,pa,ta,na,wh,st,te⟩=true↔((3:Int)=3∧[]=d∧[]=en∧tr=tr∧pa=pa∧⟨#[]⟩=ta∧⟨#[]⟩=na∧wh=wh∧st=st∧te=te):=by
 unfold Zb Z0Y Z0Z Z1Q;simp only [if_true,if_neg (show ¬(3:Int)=1 by decide),if_neg (show ¬(3:Int)=2 by decide),h,Bool.true_and,Bool.and_eq_true,decide_eq_true_eq,sz0,ln0,true_and,and_true,and_assoc]
theorem ZbP (h:(decide (ta.size=32)&&decide (1≤na.size)&&decide (na.size≤200)&&Zt wh st te)=true):Zb geS ⟨4,d,en,tr,pa,ta,na,wh,st,te⟩=true↔((4:Int)=4∧[]=d∧[]=en∧⟨#[]⟩=tr∧[]=pa∧ta=ta∧na=na∧wh=wh∧st=st∧te=te):=by
 unfold Zb Z0Y Z0Z ZU;simp only [if_true,if_neg (show ¬(4:Int)=1 by decide),if_neg (show ¬(4:Int)=2 by decide),if_neg (show ¬(4:Int)=3 by decide),h,Bool.true_and,Bool.and_eq_true,decide_eq_true_eq,sz0,ln0,true_and,and_true,and_assoc]
end
theorem Z8Q (Ad:OA) (d:LU) (cd:Nat) (v:Bool) (w:World) (h:Hid (decide (d.length≤1048576)=v)):Calls Tryz.prog 329 #[.agg #[.slice Ad d.length cd]] w fun e w'=>e= .returned (.bool v)∧Below w.heap.size w w':=
 (Z6E Ad d.length cd w).mono fun e w' ⟨h1,h2⟩=>⟨by rw [h1,h.out],h2⟩
theorem Z8R (Ae:OA) (en:List Ent) (ce:Nat) (v:Bool) (w:World) (hr:Rd w w.heap.size 3 Ae en.length (ec en)) (hl:en.length≤140737488355328) (h:Hid (Z14 geS en=v)):Calls Tryz.prog 332 #[.agg #[.slice Ae en.length ce]] w fun e w'=>e= .returned (.bool v)∧Below w.heap.size w w':=
 (Z6F Ae en ce w hr hl).mono fun e w' ⟨h1,h2⟩=>⟨by rw [h1,h.out],h2⟩
theorem Z8S (tr:BA) (Ap:OA) (pa:List BA) (cp:Nat) (wh:BA) (st:Int) (te:BA) (v:Bool) (w:World) (hr:Rd w w.heap.size 1 Ap pa.length (pc pa)) (hl:pa.length≤140737488355328) (hsz:Hid (∀p∈pa,p.size≤maxLen)) (h:Hid ((decide (tr.size=32)&&Z1d pa&&Zt wh st te)=v)):Calls Tryz.prog 337 #[.agg #[.string tr,.slice Ap pa.length cp,.string wh,.int .i64 st,.string te]] w fun e w'=>e= .returned (.bool v)∧Below w.heap.size w w':=
 (Z5o tr Ap pa cp wh st te w hr hl hsz).mono fun e w' ⟨h1,h2⟩=>⟨by rw [h1,h.out],h2⟩
theorem Z8T (ta na wh:BA) (st:Int) (te:BA) (v:Bool) (w:World) (h:Hid ((decide (ta.size=32)&&decide (1≤na.size)&&decide (na.size≤200)&&Zt wh st te)=v)):Calls Tryz.prog 340 #[.agg #[.string ta,.string na,.string wh,.int .i64 st,.string te]] w fun e w'=>e= .returned (.bool v)∧Below w.heap.size w w':=
 (Z7p ta na wh st te w).mono fun e w' ⟨h1,h2⟩=>⟨by rw [h1,h.out],h2⟩
theorem Z9q (Ad:OA) (d:LU) (cd:Nat) (Ae:OA) (en:List Ent) (ce:Nat) (tr:BA) (Ap:OA) (pa:List BA) (cp:Nat) (ta na wh:BA) (st:Int) (te:BA) (w:World) (hd:Rd w w.heap.size 1 Ad d.length (bc d)) (he:Rd w w.heap.size 3 Ae en.length (ec en)) (hp:Rd w w.heap.size 1 Ap pa.length (pc pa)) (hel:en.length≤140737488355328) (hpl:pa.length≤140737488355328) (HV:Hid (decide (d.length≤1048576)=false)):
  Calls Tryz.prog 94 #[.agg #[.int .i64 1,.slice Ad d.length cd,.slice Ae en.length ce,.string tr,.slice Ap pa.length cp,.string ta,.string na,.string wh,.int .i64 st,.string te]] w fun e w'=>e= .returned (.int .i64 1)∧Below w.heap.size w w':=by
 have h1:=Z3i;have h2:=Z1T;have h3:=Zax;have hb0:Below w.heap.size w (w.alloc (.cells #[.int .i64 1,.slice Ad d.length cd,.slice Ae en.length ce,.string tr,.slice Ap pa.length cp,.string ta,.string na,.string wh,.int .i64 st,.string te] 40)):=(bR _ _).alloc (lR _) _;have hB:=Blk.new w 40 [.int .i64 1,.slice Ad d.length cd,.slice Ae en.length ce,.string tr,.slice Ap pa.length cp,.string ta,.string na,.string wh,.int .i64 st,.string te];go_in;go_wp2_with ((go_at_call 95;refine (Z5P Ad d.length cd Ae en.length ce tr Ap pa.length cp ta na wh st te _).mono ?_;rintro e w1 ⟨rfl,hb1⟩));have hB1:=hB.below hb1 hB.lt;have hBd:=hB1.drew;have hbw:=hb0.next hb1;have hre:Rd w1.drew w1.drew.heap.size 3 Ae en.length (ec en):=((he.below hbw).more hbw.size).drew;have hrp:Rd w1.drew w1.drew.heap.size 1 Ap pa.length (pc pa):=((hp.below hbw).more hbw.size).drew
 first | (go_region_with ((first
  | (go_at_call 329; (with_reducible refine (Z8Q Ad d cd _ _ HV).mono ?_); rintro e w2 ⟨rfl, hb2⟩)))) | fail "with"
 all_goals go_wp2_with fail
 all_goals go_ret
 all_goals exact ⟨rfl,(hb0.next hb1).next ((bR _ _).drew.trans hb2)⟩
theorem Z9r (Ad:OA) (d:LU) (cd:Nat) (Ae:OA) (en:List Ent) (ce:Nat) (tr:BA) (Ap:OA) (pa:List BA) (cp:Nat) (ta na wh:BA) (st:Int) (te:BA) (w:World) (hd:Rd w w.heap.size 1 Ad d.length (bc d)) (he:Rd w w.heap.size 3 Ae en.length (ec en)) (hp:Rd w w.heap.size 1 Ap pa.length (pc pa)) (hel:en.length≤140737488355328) (hpl:pa.length≤140737488355328) (HV:Hid (decide (d.length≤1048576)=true)):
  Calls Tryz.prog 94 #[.agg #[.int .i64 1,.slice Ad d.length cd,.slice Ae en.length ce,.string tr,.slice Ap pa.length cp,.string ta,.string na,.string wh,.int .i64 st,.string te]] w fun e w'=>e= .returned (.int .i64 (errC (Zb geS ⟨1,d,en,tr,pa,ta,na,wh,st,te⟩)))∧Below w.heap.size w w':=by
 have h1:=Z3i;have h2:=Z1T;have h3:=Zax;have hb0:Below w.heap.size w (w.alloc (.cells #[.int .i64 1,.slice Ad d.length cd,.slice Ae en.length ce,.string tr,.slice Ap pa.length cp,.string ta,.string na,.string wh,.int .i64 st,.string te] 40)):=(bR _ _).alloc (lR _) _;have hB:=Blk.new w 40 [.int .i64 1,.slice Ad d.length cd,.slice Ae en.length ce,.string tr,.slice Ap pa.length cp,.string ta,.string na,.string wh,.int .i64 st,.string te];go_in;go_wp2_with ((go_at_call 95;refine (Z5P Ad d.length cd Ae en.length ce tr Ap pa.length cp ta na wh st te _).mono ?_;rintro e w1 ⟨rfl,hb1⟩));have hB1:=hB.below hb1 hB.lt;have hBd:=hB1.drew;have hbw:=hb0.next hb1;have hre:Rd w1.drew w1.drew.heap.size 3 Ae en.length (ec en):=((he.below hbw).more hbw.size).drew;have hrp:Rd w1.drew w1.drew.heap.size 1 Ap pa.length (pc pa):=((hp.below hbw).more hbw.size).drew;have hrd:Rd w1.drew w1.drew.heap.size 1 Ad d.length (bc d):=((hd.below hbw).more hbw.size).drew
 go_region_held3 (fun w'=>w'.cell? ⟨w.heap.size,0,none⟩=some (.int .i64 1)∧w'.cell? ⟨w.heap.size,1,none⟩=some (.slice Ad d.length cd)∧w'.cell? ⟨w.heap.size,2,none⟩=some (.slice Ae en.length ce)∧w'.cell? ⟨w.heap.size,3,none⟩=some (.string tr)∧w'.cell? ⟨w.heap.size,4,none⟩=some (.slice Ap pa.length cp)∧w'.cell? ⟨w.heap.size,5,none⟩=some (.string ta)∧w'.cell? ⟨w.heap.size,6,none⟩=some (.string na)∧w'.cell? ⟨w.heap.size,7,none⟩=some (.string wh)∧w'.cell? ⟨w.heap.size,8,none⟩=some (.int .i64 st)∧w'.cell? ⟨w.heap.size,9,none⟩=some (.string te)) (first | exact Z2 hBd | exact Z2 hB2 | exact Z2 hB3 | exact Z2 hB4 | go_keep) ((first
  | (go_at_call 329;(with_reducible refine (Z8Q Ad d cd _ _ HV).mono ?_);rintro e w2 ⟨rfl,hb2⟩;have hB2:=hBd.below hb2 hBd.lt)
  | (go_at_call 159;(with_reducible refine (Z6o Ad d.length cd Ae en.length ce tr Ap pa.length cp ta na wh st te _).mono ?_);rintro e w3 ⟨rfl,hb3⟩;have hB3:=hB2.below hb3 hB2.lt;have hb23:=hb2.next hb3;have re3:=(hre.below hb23).more hb23.size;have rp3:=(hrp.below hb23).more hb23.size;have rd3:=(hrd.below hb23).more hb23.size)
  | (go_at_call 158;(have hs:=Z3h 1 Ad d cd none [] 0 ⟨#[]⟩ none [] 0 ⟨#[]⟩ ⟨#[]⟩ ⟨#[]⟩ 0 ⟨#[]⟩ 1 Ad d cd Ae en ce tr Ap pa cp ta na wh st te w3 rd3 Rd.nil Rd.nil (by simp) (by simp) rd3 re3 rp3 hel hpl);(try simp only [List.length_nil] at hs);(with_reducible refine hs.mono ?_);rintro e w4 ⟨v,rfl,hv,hb4⟩;have h5:=ZbM d en tr pa ta na wh st te HV.out;simp only [eq_self] at h5;have HF:Hid (Zb geS ⟨1,d,en,tr,pa,ta,na,wh,st,te⟩=v):=qI (Z4p (h5.trans hv.symm));clear h5;clear hv;have hB4:=hB3.below hb4 hB3.lt)))
 have hbe:Below w.heap.size w w4:=hbw.trans ((bR _ _).drew.trans (((hb23.next hb4).mono hbw.size)))
 cases v with
 | true=>
  go_wp2_with fail;go_ret;rw [HF.out];exact ⟨rfl,hbe⟩
 | false=>
  go_wp2_with fail;go_ret;rw [HF.out];exact ⟨rfl,hbe⟩
theorem Z9s (Ad:OA) (d:LU) (cd:Nat) (Ae:OA) (en:List Ent) (ce:Nat) (tr:BA) (Ap:OA) (pa:List BA) (cp:Nat) (ta na wh:BA) (st:Int) (te:BA) (w:World) (hd:Rd w w.heap.size 1 Ad d.length (bc d)) (he:Rd w w.heap.size 3 Ae en.length (ec en)) (hp:Rd w w.heap.size 1 Ap pa.length (pc pa)) (hel:en.length≤140737488355328) (hpl:pa.length≤140737488355328) (HV:Hid (Z14 geS en=false)):
  Calls Tryz.prog 94 #[.agg #[.int .i64 2,.slice Ad d.length cd,.slice Ae en.length ce,.string tr,.slice Ap pa.length cp,.string ta,.string na,.string wh,.int .i64 st,.string te]] w fun e w'=>e= .returned (.int .i64 1)∧Below w.heap.size w w':=by
 have h1:=Z3i;have h2:=Z1T;have h3:=Zay;have hb0:Below w.heap.size w (w.alloc (.cells #[.int .i64 2,.slice Ad d.length cd,.slice Ae en.length ce,.string tr,.slice Ap pa.length cp,.string ta,.string na,.string wh,.int .i64 st,.string te] 40)):=(bR _ _).alloc (lR _) _;have hB:=Blk.new w 40 [.int .i64 2,.slice Ad d.length cd,.slice Ae en.length ce,.string tr,.slice Ap pa.length cp,.string ta,.string na,.string wh,.int .i64 st,.string te];go_in;go_wp2_with ((go_at_call 95;refine (Z5Q Ad d.length cd Ae en.length ce tr Ap pa.length cp ta na wh st te _).mono ?_;rintro e w1 ⟨rfl,hb1⟩));have hB1:=hB.below hb1 hB.lt;have hBd:=hB1.drew;have hbw:=hb0.next hb1;have hre:Rd w1.drew w1.drew.heap.size 3 Ae en.length (ec en):=((he.below hbw).more hbw.size).drew;have hrp:Rd w1.drew w1.drew.heap.size 1 Ap pa.length (pc pa):=((hp.below hbw).more hbw.size).drew
 first | (go_region_with ((first
  | (go_at_call 332; (with_reducible refine (Z8R Ae en ce _ _ hre hel HV).mono ?_); rintro e w2 ⟨rfl, hb2⟩)))) | fail "with"
 all_goals go_wp2_with fail
 all_goals go_ret
 all_goals exact ⟨rfl,(hb0.next hb1).next ((bR _ _).drew.trans hb2)⟩
theorem Z9t (Ad:OA) (d:LU) (cd:Nat) (Ae:OA) (en:List Ent) (ce:Nat) (tr:BA) (Ap:OA) (pa:List BA) (cp:Nat) (ta na wh:BA) (st:Int) (te:BA) (w:World) (hd:Rd w w.heap.size 1 Ad d.length (bc d)) (he:Rd w w.heap.size 3 Ae en.length (ec en)) (hp:Rd w w.heap.size 1 Ap pa.length (pc pa)) (hel:en.length≤140737488355328) (hpl:pa.length≤140737488355328) (HV:Hid (Z14 geS en=true)):
  Calls Tryz.prog 94 #[.agg #[.int .i64 2,.slice Ad d.length cd,.slice Ae en.length ce,.string tr,.slice Ap pa.length cp,.string ta,.string na,.string wh,.int .i64 st,.string te]] w fun e w'=>e= .returned (.int .i64 (errC (Zb geS ⟨2,d,en,tr,pa,ta,na,wh,st,te⟩)))∧Below w.heap.size w w':=by
 have h1:=Z3i;have h2:=Z1T;have h3:=Zay;have hb0:Below w.heap.size w (w.alloc (.cells #[.int .i64 2,.slice Ad d.length cd,.slice Ae en.length ce,.string tr,.slice Ap pa.length cp,.string ta,.string na,.string wh,.int .i64 st,.string te] 40)):=(bR _ _).alloc (lR _) _;have hB:=Blk.new w 40 [.int .i64 2,.slice Ad d.length cd,.slice Ae en.length ce,.string tr,.slice Ap pa.length cp,.string ta,.string na,.string wh,.int .i64 st,.string te];go_in;go_wp2_with ((go_at_call 95;refine (Z5Q Ad d.length cd Ae en.length ce tr Ap pa.length cp ta na wh st te _).mono ?_;rintro e w1 ⟨rfl,hb1⟩));have hB1:=hB.below hb1 hB.lt;have hBd:=hB1.drew;have hbw:=hb0.next hb1;have hre:Rd w1.drew w1.drew.heap.size 3 Ae en.length (ec en):=((he.below hbw).more hbw.size).drew;have hrp:Rd w1.drew w1.drew.heap.size 1 Ap pa.length (pc pa):=((hp.below hbw).more hbw.size).drew;have hrd:Rd w1.drew w1.drew.heap.size 1 Ad d.length (bc d):=((hd.below hbw).more hbw.size).drew
 go_region_held3 (fun w'=>w'.cell? ⟨w.heap.size,0,none⟩=some (.int .i64 2)∧w'.cell? ⟨w.heap.size,1,none⟩=some (.slice Ad d.length cd)∧w'.cell? ⟨w.heap.size,2,none⟩=some (.slice Ae en.length ce)∧w'.cell? ⟨w.heap.size,3,none⟩=some (.string tr)∧w'.cell? ⟨w.heap.size,4,none⟩=some (.slice Ap pa.length cp)∧w'.cell? ⟨w.heap.size,5,none⟩=some (.string ta)∧w'.cell? ⟨w.heap.size,6,none⟩=some (.string na)∧w'.cell? ⟨w.heap.size,7,none⟩=some (.string wh)∧w'.cell? ⟨w.heap.size,8,none⟩=some (.int .i64 st)∧w'.cell? ⟨w.heap.size,9,none⟩=some (.string te)) (first | exact Z2 hBd | exact Z2 hB2 | exact Z2 hB3 | exact Z2 hB4 | go_keep) ((first
  | (go_at_call 332;(with_reducible refine (Z8R Ae en ce _ _ hre hel HV).mono ?_);rintro e w2 ⟨rfl,hb2⟩;have hB2:=hBd.below hb2 hBd.lt)
  | (go_at_call 159;(with_reducible refine (Z6p Ad d.length cd Ae en.length ce tr Ap pa.length cp ta na wh st te _).mono ?_);rintro e w3 ⟨rfl,hb3⟩;have hB3:=hB2.below hb3 hB2.lt;have hb23:=hb2.next hb3;have re3:=(hre.below hb23).more hb23.size;have rp3:=(hrp.below hb23).more hb23.size;have rd3:=(hrd.below hb23).more hb23.size)
  | (go_at_call 158;(have hs:=Z3h 2 none [] 0 Ae en ce ⟨#[]⟩ none [] 0 ⟨#[]⟩ ⟨#[]⟩ ⟨#[]⟩ 0 ⟨#[]⟩ 2 Ad d cd Ae en ce tr Ap pa cp ta na wh st te w3 Rd.nil re3 Rd.nil hel (by simp) rd3 re3 rp3 hel hpl);(try simp only [List.length_nil] at hs);(with_reducible refine hs.mono ?_);rintro e w4 ⟨v,rfl,hv,hb4⟩;have h5:=ZbN d en tr pa ta na wh st te HV.out;simp only [eq_self] at h5;have HF:Hid (Zb geS ⟨2,d,en,tr,pa,ta,na,wh,st,te⟩=v):=qI (Z4p (h5.trans hv.symm));clear h5;clear hv;have hB4:=hB3.below hb4 hB3.lt)))
 have hbe:Below w.heap.size w w4:=hbw.trans ((bR _ _).drew.trans (((hb23.next hb4).mono hbw.size)))
 cases v with
 | true=>
  go_wp2_with fail;go_ret;rw [HF.out];exact ⟨rfl,hbe⟩
 | false=>
  go_wp2_with fail;go_ret;rw [HF.out];exact ⟨rfl,hbe⟩
theorem Z9u (Ad:OA) (d:LU) (cd:Nat) (Ae:OA) (en:List Ent) (ce:Nat) (tr:BA) (Ap:OA) (pa:List BA) (cp:Nat) (ta na wh:BA) (st:Int) (te:BA) (w:World) (hd:Rd w w.heap.size 1 Ad d.length (bc d)) (he:Rd w w.heap.size 3 Ae en.length (ec en)) (hp:Rd w w.heap.size 1 Ap pa.length (pc pa)) (hel:en.length≤140737488355328) (hpl:pa.length≤140737488355328) (hsz:Hid (∀p∈pa,p.size≤maxLen)) (HV:Hid ((decide (tr.size=32)&&Z1d pa&&Zt wh st te)=false)):
  Calls Tryz.prog 94 #[.agg #[.int .i64 3,.slice Ad d.length cd,.slice Ae en.length ce,.string tr,.slice Ap pa.length cp,.string ta,.string na,.string wh,.int .i64 st,.string te]] w fun e w'=>e= .returned (.int .i64 1)∧Below w.heap.size w w':=by
 have h1:=Z3i;have h2:=Z1T;have h3:=Zaz;have hb0:Below w.heap.size w (w.alloc (.cells #[.int .i64 3,.slice Ad d.length cd,.slice Ae en.length ce,.string tr,.slice Ap pa.length cp,.string ta,.string na,.string wh,.int .i64 st,.string te] 40)):=(bR _ _).alloc (lR _) _;have hB:=Blk.new w 40 [.int .i64 3,.slice Ad d.length cd,.slice Ae en.length ce,.string tr,.slice Ap pa.length cp,.string ta,.string na,.string wh,.int .i64 st,.string te];go_in;go_wp2_with ((go_at_call 95;refine (Z5R Ad d.length cd Ae en.length ce tr Ap pa.length cp ta na wh st te _).mono ?_;rintro e w1 ⟨rfl,hb1⟩));have hB1:=hB.below hb1 hB.lt;have hBd:=hB1.drew;have hbw:=hb0.next hb1;have hre:Rd w1.drew w1.drew.heap.size 3 Ae en.length (ec en):=((he.below hbw).more hbw.size).drew;have hrp:Rd w1.drew w1.drew.heap.size 1 Ap pa.length (pc pa):=((hp.below hbw).more hbw.size).drew
 first | (go_region_with ((first
  | (go_at_call 337; (with_reducible refine (Z8S tr Ap pa cp wh st te _ _ hrp hpl hsz HV).mono ?_); rintro e w2 ⟨rfl, hb2⟩)))) | fail "with"
 all_goals go_wp2_with fail
 all_goals go_ret
 all_goals exact ⟨rfl,(hb0.next hb1).next ((bR _ _).drew.trans hb2)⟩
theorem Z9v (Ad:OA) (d:LU) (cd:Nat) (Ae:OA) (en:List Ent) (ce:Nat) (tr:BA) (Ap:OA) (pa:List BA) (cp:Nat) (ta na wh:BA) (st:Int) (te:BA) (w:World) (hd:Rd w w.heap.size 1 Ad d.length (bc d)) (he:Rd w w.heap.size 3 Ae en.length (ec en)) (hp:Rd w w.heap.size 1 Ap pa.length (pc pa)) (hel:en.length≤140737488355328) (hpl:pa.length≤140737488355328) (hsz:Hid (∀p∈pa,p.size≤maxLen)) (HV:Hid ((decide (tr.size=32)&&Z1d pa&&Zt wh st te)=true)):
  Calls Tryz.prog 94 #[.agg #[.int .i64 3,.slice Ad d.length cd,.slice Ae en.length ce,.string tr,.slice Ap pa.length cp,.string ta,.string na,.string wh,.int .i64 st,.string te]] w fun e w'=>e= .returned (.int .i64 (errC (Zb geS ⟨3,d,en,tr,pa,ta,na,wh,st,te⟩)))∧Below w.heap.size w w':=by
 have h1:=Z3i;have h2:=Z1T;have h3:=Zaz;have hb0:Below w.heap.size w (w.alloc (.cells #[.int .i64 3,.slice Ad d.length cd,.slice Ae en.length ce,.string tr,.slice Ap pa.length cp,.string ta,.string na,.string wh,.int .i64 st,.string te] 40)):=(bR _ _).alloc (lR _) _;have hB:=Blk.new w 40 [.int .i64 3,.slice Ad d.length cd,.slice Ae en.length ce,.string tr,.slice Ap pa.length cp,.string ta,.string na,.string wh,.int .i64 st,.string te];go_in;go_wp2_with ((go_at_call 95;refine (Z5R Ad d.length cd Ae en.length ce tr Ap pa.length cp ta na wh st te _).mono ?_;rintro e w1 ⟨rfl,hb1⟩));have hB1:=hB.below hb1 hB.lt;have hBd:=hB1.drew;have hbw:=hb0.next hb1;have hre:Rd w1.drew w1.drew.heap.size 3 Ae en.length (ec en):=((he.below hbw).more hbw.size).drew;have hrp:Rd w1.drew w1.drew.heap.size 1 Ap pa.length (pc pa):=((hp.below hbw).more hbw.size).drew;have hrd:Rd w1.drew w1.drew.heap.size 1 Ad d.length (bc d):=((hd.below hbw).more hbw.size).drew
 go_region_held3 (fun w'=>w'.cell? ⟨w.heap.size,0,none⟩=some (.int .i64 3)∧w'.cell? ⟨w.heap.size,1,none⟩=some (.slice Ad d.length cd)∧w'.cell? ⟨w.heap.size,2,none⟩=some (.slice Ae en.length ce)∧w'.cell? ⟨w.heap.size,3,none⟩=some (.string tr)∧w'.cell? ⟨w.heap.size,4,none⟩=some (.slice Ap pa.length cp)∧w'.cell? ⟨w.heap.size,5,none⟩=some (.string ta)∧w'.cell? ⟨w.heap.size,6,none⟩=some (.string na)∧w'.cell? ⟨w.heap.size,7,none⟩=some (.string wh)∧w'.cell? ⟨w.heap.size,8,none⟩=some (.int .i64 st)∧w'.cell? ⟨w.heap.size,9,none⟩=some (.string te)) (first | exact Z2 hBd | exact Z2 hB2 | exact Z2 hB3 | exact Z2 hB4 | go_keep) ((first
  | (go_at_call 337;(with_reducible refine (Z8S tr Ap pa cp wh st te _ _ hrp hpl hsz HV).mono ?_);rintro e w2 ⟨rfl,hb2⟩;have hB2:=hBd.below hb2 hBd.lt)
  | (go_at_call 159;(with_reducible refine (Z6q Ad d.length cd Ae en.length ce tr Ap pa.length cp ta na wh st te _).mono ?_);rintro e w3 ⟨rfl,hb3⟩;have hB3:=hB2.below hb3 hB2.lt;have hb23:=hb2.next hb3;have re3:=(hre.below hb23).more hb23.size;have rp3:=(hrp.below hb23).more hb23.size;have rd3:=(hrd.below hb23).more hb23.size)
  | (go_at_call 158;(have hs:=Z3h 3 none [] 0 none [] 0 tr Ap pa cp ⟨#[]⟩ ⟨#[]⟩ wh st te 3 Ad d cd Ae en ce tr Ap pa cp ta na wh st te w3 Rd.nil Rd.nil rp3 (by simp) hpl rd3 re3 rp3 hel hpl);(try simp only [List.length_nil] at hs);(with_reducible refine hs.mono ?_);rintro e w4 ⟨v,rfl,hv,hb4⟩;have h5:=ZbO d en tr pa ta na wh st te HV.out;simp only [eq_self] at h5;have HF:Hid (Zb geS ⟨3,d,en,tr,pa,ta,na,wh,st,te⟩=v):=qI (Z4p (h5.trans hv.symm));clear h5;clear hv;have hB4:=hB3.below hb4 hB3.lt)))
 have hbe:Below w.heap.size w w4:=hbw.trans ((bR _ _).drew.trans (((hb23.next hb4).mono hbw.size)))
 cases v with
 | true=>
  go_wp2_with fail;go_ret;rw [HF.out];exact ⟨rfl,hbe⟩
 | false=>
  go_wp2_with fail;go_ret;rw [HF.out];exact ⟨rfl,hbe⟩
theorem Z9w (Ad:OA) (d:LU) (cd:Nat) (Ae:OA) (en:List Ent) (ce:Nat) (tr:BA) (Ap:OA) (pa:List BA) (cp:Nat) (ta na wh:BA) (st:Int) (te:BA) (w:World) (hd:Rd w w.heap.size 1 Ad d.length (bc d)) (he:Rd w w.heap.size 3 Ae en.length (ec en)) (hp:Rd w w.heap.size 1 Ap pa.length (pc pa)) (hel:en.length≤140737488355328) (hpl:pa.length≤140737488355328) (HV:Hid ((decide (ta.size=32)&&decide (1≤na.size)&&decide (na.size≤200)&&Zt wh st te)=false)):
  Calls Tryz.prog 94 #[.agg #[.int .i64 4,.slice Ad d.length cd,.slice Ae en.length ce,.string tr,.slice Ap pa.length cp,.string ta,.string na,.string wh,.int .i64 st,.string te]] w fun e w'=>e= .returned (.int .i64 1)∧Below w.heap.size w w':=by
 have h1:=Z3i;have h2:=Z1T;have h3:=ZaA;have hb0:Below w.heap.size w (w.alloc (.cells #[.int .i64 4,.slice Ad d.length cd,.slice Ae en.length ce,.string tr,.slice Ap pa.length cp,.string ta,.string na,.string wh,.int .i64 st,.string te] 40)):=(bR _ _).alloc (lR _) _;have hB:=Blk.new w 40 [.int .i64 4,.slice Ad d.length cd,.slice Ae en.length ce,.string tr,.slice Ap pa.length cp,.string ta,.string na,.string wh,.int .i64 st,.string te];go_in;go_wp2_with ((go_at_call 95;refine (Z5S Ad d.length cd Ae en.length ce tr Ap pa.length cp ta na wh st te _).mono ?_;rintro e w1 ⟨rfl,hb1⟩));have hB1:=hB.below hb1 hB.lt;have hBd:=hB1.drew;have hbw:=hb0.next hb1;have hre:Rd w1.drew w1.drew.heap.size 3 Ae en.length (ec en):=((he.below hbw).more hbw.size).drew;have hrp:Rd w1.drew w1.drew.heap.size 1 Ap pa.length (pc pa):=((hp.below hbw).more hbw.size).drew
 first | (go_region_with ((first
  | (go_at_call 340; (with_reducible refine (Z8T ta na wh st te _ _ HV).mono ?_); rintro e w2 ⟨rfl, hb2⟩)))) | fail "with"
 all_goals go_wp2_with fail
 all_goals go_ret
 all_goals exact ⟨rfl,(hb0.next hb1).next ((bR _ _).drew.trans hb2)⟩
theorem Z9x (Ad:OA) (d:LU) (cd:Nat) (Ae:OA) (en:List Ent) (ce:Nat) (tr:BA) (Ap:OA) (pa:List BA) (cp:Nat) (ta na wh:BA) (st:Int) (te:BA) (w:World) (hd:Rd w w.heap.size 1 Ad d.length (bc d)) (he:Rd w w.heap.size 3 Ae en.length (ec en)) (hp:Rd w w.heap.size 1 Ap pa.length (pc pa)) (hel:en.length≤140737488355328) (hpl:pa.length≤140737488355328) (HV:Hid ((decide (ta.size=32)&&decide (1≤na.size)&&decide (na.size≤200)&&Zt wh st te)=true)):
  Calls Tryz.prog 94 #[.agg #[.int .i64 4,.slice Ad d.length cd,.slice Ae en.length ce,.string tr,.slice Ap pa.length cp,.string ta,.string na,.string wh,.int .i64 st,.string te]] w fun e w'=>e= .returned (.int .i64 (errC (Zb geS ⟨4,d,en,tr,pa,ta,na,wh,st,te⟩)))∧Below w.heap.size w w':=by
 have h1:=Z3i;have h2:=Z1T;have h3:=ZaA;have hb0:Below w.heap.size w (w.alloc (.cells #[.int .i64 4,.slice Ad d.length cd,.slice Ae en.length ce,.string tr,.slice Ap pa.length cp,.string ta,.string na,.string wh,.int .i64 st,.string te] 40)):=(bR _ _).alloc (lR _) _;have hB:=Blk.new w 40 [.int .i64 4,.slice Ad d.length cd,.slice Ae en.length ce,.string tr,.slice Ap pa.length cp,.string ta,.string na,.string wh,.int .i64 st,.string te];go_in;go_wp2_with ((go_at_call 95;refine (Z5S Ad d.length cd Ae en.length ce tr Ap pa.length cp ta na wh st te _).mono ?_;rintro e w1 ⟨rfl,hb1⟩));have hB1:=hB.below hb1 hB.lt;have hBd:=hB1.drew;have hbw:=hb0.next hb1;have hre:Rd w1.drew w1.drew.heap.size 3 Ae en.length (ec en):=((he.below hbw).more hbw.size).drew;have hrp:Rd w1.drew w1.drew.heap.size 1 Ap pa.length (pc pa):=((hp.below hbw).more hbw.size).drew;have hrd:Rd w1.drew w1.drew.heap.size 1 Ad d.length (bc d):=((hd.below hbw).more hbw.size).drew
 go_region_held3 (fun w'=>w'.cell? ⟨w.heap.size,0,none⟩=some (.int .i64 4)∧w'.cell? ⟨w.heap.size,1,none⟩=some (.slice Ad d.length cd)∧w'.cell? ⟨w.heap.size,2,none⟩=some (.slice Ae en.length ce)∧w'.cell? ⟨w.heap.size,3,none⟩=some (.string tr)∧w'.cell? ⟨w.heap.size,4,none⟩=some (.slice Ap pa.length cp)∧w'.cell? ⟨w.heap.size,5,none⟩=some (.string ta)∧w'.cell? ⟨w.heap.size,6,none⟩=some (.string na)∧w'.cell? ⟨w.heap.size,7,none⟩=some (.string wh)∧w'.cell? ⟨w.heap.size,8,none⟩=some (.int .i64 st)∧w'.cell? ⟨w.heap.size,9,none⟩=some (.string te)) (first | exact Z2 hBd | exact Z2 hB2 | exact Z2 hB3 | exact Z2 hB4 | go_keep) ((first
  | (go_at_call 340;(with_reducible refine (Z8T ta na wh st te _ _ HV).mono ?_);rintro e w2 ⟨rfl,hb2⟩;have hB2:=hBd.below hb2 hBd.lt)
  | (go_at_call 159;(with_reducible refine (Z6r Ad d.length cd Ae en.length ce tr Ap pa.length cp ta na wh st te _).mono ?_);rintro e w3 ⟨rfl,hb3⟩;have hB3:=hB2.below hb3 hB2.lt;have hb23:=hb2.next hb3;have re3:=(hre.below hb23).more hb23.size;have rp3:=(hrp.below hb23).more hb23.size;have rd3:=(hrd.below hb23).more hb23.size)
  | (go_at_call 158;(have hs:=Z3h 4 none [] 0 none [] 0 ⟨#[]⟩ none [] 0 ta na wh st te 4 Ad d cd Ae en ce tr Ap pa cp ta na wh st te w3 Rd.nil Rd.nil Rd.nil (by simp) (by simp) rd3 re3 rp3 hel hpl);(try simp only [List.length_nil] at hs);(with_reducible refine hs.mono ?_);rintro e w4 ⟨v,rfl,hv,hb4⟩;have h5:=ZbP d en tr pa ta na wh st te HV.out;simp only [eq_self] at h5;have HF:Hid (Zb geS ⟨4,d,en,tr,pa,ta,na,wh,st,te⟩=v):=qI (Z4p (h5.trans hv.symm));clear h5;clear hv;have hB4:=hB3.below hb4 hB3.lt)))
 have hbe:Below w.heap.size w w4:=hbw.trans ((bR _ _).drew.trans (((hb23.next hb4).mono hbw.size)))
 cases v with
 | true=>
  go_wp2_with fail;go_ret;rw [HF.out];exact ⟨rfl,hbe⟩
 | false=>
  go_wp2_with fail;go_ret;rw [HF.out];exact ⟨rfl,hbe⟩
theorem Z9y (k:Int) (Ad:OA) (d:LU) (cd:Nat) (Ae:OA) (en:List Ent) (ce:Nat) (tr:BA) (Ap:OA) (pa:List BA) (cp:Nat) (ta na wh:BA) (st:Int) (te:BA) (w:World) (hd:Rd w w.heap.size 1 Ad d.length (bc d)) (he:Rd w w.heap.size 3 Ae en.length (ec en)) (hp:Rd w w.heap.size 1 Ap pa.length (pc pa)) (hel:en.length≤140737488355328) (hpl:pa.length≤140737488355328) (n1:k≠1) (n2:k≠2) (n3:k≠3) (n4:k≠4):
  Calls Tryz.prog 94 #[.agg #[.int .i64 k,.slice Ad d.length cd,.slice Ae en.length ce,.string tr,.slice Ap pa.length cp,.string ta,.string na,.string wh,.int .i64 st,.string te]] w fun e w'=>e= .returned (.int .i64 1)∧Below w.heap.size w w':=by
 have h1:=Z3i;have hb0:Below w.heap.size w (w.alloc (.cells #[.int .i64 k,.slice Ad d.length cd,.slice Ae en.length ce,.string tr,.slice Ap pa.length cp,.string ta,.string na,.string wh,.int .i64 st,.string te] 40)):=(bR _ _).alloc (lR _) _;have hB:=Blk.new w 40 [.int .i64 k,.slice Ad d.length cd,.slice Ae en.length ce,.string tr,.slice Ap pa.length cp,.string ta,.string na,.string wh,.int .i64 st,.string te];go_in;go_wp2_with ((go_at_call 95;refine (ZcZ Ad d.length cd Ae en.length ce tr Ap pa.length cp ta na wh st te _ k n1 n2 n3 n4).mono ?_;rintro e w1 ⟨rfl,hb1⟩));have hB1:=hB.below hb1 hB.lt;have hbw:=hb0.next hb1
 first | (go_region_with ((fail))) | fail "with"
 all_goals go_wp2_with fail
 all_goals go_ret
 all_goals exact ⟨rfl,hbw.drew⟩
theorem Z1U (k:Int) (Ad:OA) (d:LU) (cd:Nat) (Ae:OA) (en:List Ent) (ce:Nat) (tr:BA) (Ap:OA) (pa:List BA) (cp:Nat) (ta na wh:BA) (st:Int) (te:BA) (w:World) (hd:Rd w w.heap.size 1 Ad d.length (bc d)) (he:Rd w w.heap.size 3 Ae en.length (ec en)) (hp:Rd w w.heap.size 1 Ap pa.length (pc pa)) (hel:en.length≤140737488355328) (hpl:pa.length≤140737488355328) (hsz:Hid (∀p∈pa,p.size≤maxLen)):
  Calls Tryz.prog 94 #[.agg #[.int .i64 k,.slice Ad d.length cd,.slice Ae en.length ce,.string tr,.slice Ap pa.length cp,.string ta,.string na,.string wh,.int .i64 st,.string te]] w fun e w'=>e= .returned (.int .i64 (errC (Zb geS ⟨k,d,en,tr,pa,ta,na,wh,st,te⟩)))∧Below w.heap.size w w':=by
 by_cases n1:k=1
 ·subst n1
  cases hv:decide (d.length≤1048576) with
  | true=>exact Z9r Ad d cd Ae en ce tr Ap pa cp ta na wh st te w hd he hp hel hpl (qI hv)
  | false=>exact (Z9q Ad d cd Ae en ce tr Ap pa cp ta na wh st te w hd he hp hel hpl (qI hv)).mono fun e w' h=>⟨by rw [h.1];unfold Zb;rw [if_pos (by rfl),hv];rfl,h.2⟩
 by_cases n2:k=2
 ·subst n2
  cases hv:Z14 geS en with
  | true=>exact Z9t Ad d cd Ae en ce tr Ap pa cp ta na wh st te w hd he hp hel hpl (qI hv)
  | false=>exact (Z9s Ad d cd Ae en ce tr Ap pa cp ta na wh st te w hd he hp hel hpl (qI hv)).mono fun e w' h=>⟨by rw [h.1];unfold Zb;rw [if_neg (show ¬(2:Int)=1 by decide),if_pos (by rfl),hv];rfl,h.2⟩
 by_cases n3:k=3
 ·subst n3
  cases hv:(decide (tr.size=32)&&Z1d pa&&Zt wh st te) with
  | true=>exact Z9v Ad d cd Ae en ce tr Ap pa cp ta na wh st te w hd he hp hel hpl hsz (qI hv)
  | false=>exact (Z9u Ad d cd Ae en ce tr Ap pa cp ta na wh st te w hd he hp hel hpl hsz (qI hv)).mono fun e w' h=>⟨by rw [h.1];unfold Zb;rw [if_neg (show ¬(3:Int)=1 by decide),if_neg (show ¬(3:Int)=2 by decide),if_pos (by rfl),hv];rfl,h.2⟩
 by_cases n4:k=4
 ·subst n4
  cases hv:(decide (ta.size=32)&&decide (1≤na.size)&&decide (na.size≤200)&&Zt wh st te) with
  | true=>exact Z9x Ad d cd Ae en ce tr Ap pa cp ta na wh st te w hd he hp hel hpl (qI hv)
  | false=>exact (Z9w Ad d cd Ae en ce tr Ap pa cp ta na wh st te w hd he hp hel hpl (qI hv)).mono fun e w' h=>⟨by rw [h.1];unfold Zb;rw [if_neg (show ¬(4:Int)=1 by decide),if_neg (show ¬(4:Int)=2 by decide),if_neg (show ¬(4:Int)=3 by decide),if_pos (by rfl),hv];rfl,h.2⟩
 exact (Z9y k Ad d cd Ae en ce tr Ap pa cp ta na wh st te w hd he hp hel hpl n1 n2 n3 n4).mono fun e w' h=>⟨by rw [h.1];unfold Zb;rw [if_neg n1,if_neg n2,if_neg n3,if_neg n4];rfl,h.2⟩
theorem Zg0 (xs : Array Value) (w : World) : (method 461 215 (.agg xs) "dolmen/object.lay").run Tryz.prog w = .ok (327, .agg xs) w := by kernel_rfl
theorem Zg1 (xs : Array Value) (w : World) : (method 461 217 (.agg xs) "dolmen/object.lay").run Tryz.prog w = .ok (330, .agg xs) w := by kernel_rfl
theorem Zg2 (xs : Array Value) (w : World) : (method 461 219 (.agg xs) "dolmen/object.lay").run Tryz.prog w = .ok (335, .agg xs) w := by kernel_rfl
theorem Zg3 (xs : Array Value) (w : World) : (method 461 221 (.agg xs) "dolmen/object.lay").run Tryz.prog w = .ok (338, .agg xs) w := by kernel_rfl
def Z2M (w:World) (o:Go.Dol.Obj) (e:Ending) (w':World):Prop:=
 Below w.heap.size w w'∧((Zb geS o=true∧ ∃(l:LU) (A:OA) (c:Nat),Hid (l=encO o)∧e= .returned (.tuple #[.slice A l.length c,.int .i64 0])∧w'.ownsRow w.heap.size 5 1 (.slice A l.length c) l.length (bc l))∨
  (Zb geS o=false∧e= .returned (.tuple #[.slice none 0 0,.int .i64 1])))
theorem Z6S {α:Type} (f:α→LU) (b:Nat): ∀(l:List α),(∀x∈l,(f x).length≤b)→(l.flatMap f).length≤l.length*b
 | [],_=>by simp
 | x::l,h=>by
  have h1:=Z6S f b l fun y hy=>h y (List.mem_cons_of_mem _ hy);have h2:=h x (List.mem_cons_self ..);rw [List.flatMap_cons,List.length_append,List.length_cons,Nat.add_mul];omega
theorem Z50 {l:List Ent} (h:Z14 geS l=true):(l.flatMap entB).length≤4299000000:=by
 have h1:=Z6S entB 1048700 l fun e he=>by
  have h2:=Zco (Z0o h).1 e he;have h3:=ZQ (s:=e.name) (by omega);have h4:=Zg e.id;unfold entB;rw [List.length_append,List.length_cons,h4];omega
 have h2:=(Z0o h).2;have h3:l.length*1048700≤4096*1048700:=Nat.mul_le_mul_right _ h2;omega
theorem Z3j {l:List BA} (h:Z1d l=true):(Z0b l).length≤128:=by
 have h1:=Z6S (fun p:BA=>p.data.toList) 32 l fun p hp=>by
  have h2:=Zcp (Z1e h).1 p hp;have h4:=Zg p;omega
 have h2:=(Z1e h).2;unfold Z0b;omega
theorem Z25 {o:Go.Dol.Obj} (hk:o.kind=1) (h:Zb geS o=true):o.data.length≤1048576:=by
 unfold Zb at h;rw [if_pos hk,Bool.and_eq_true] at h;exact of_decide_eq_true h.1
theorem Z0P {o:Go.Dol.Obj} (hk:o.kind=2) (h:Zb geS o=true):Z14 geS o.ents=true:=by
 unfold Zb at h;rw [if_neg (by omega),if_pos hk,Bool.and_eq_true] at h;exact h.1
theorem Z26 {o:Go.Dol.Obj} (hk:o.kind=3) (h:Zb geS o=true):o.tree.size=32∧Z1d o.pars=true∧Zt o.who o.stamp o.text=true:=by
 unfold Zb at h;rw [if_neg (by omega),if_neg (by omega),if_pos hk] at h;simp only [Bool.and_eq_true,decide_eq_true_eq] at h;exact ⟨h.1.1.1,h.1.1.2,h.1.2⟩
theorem Z27 {o:Go.Dol.Obj} (hk:o.kind=4) (h:Zb geS o=true):o.target.size=32∧o.name.size≤200∧Zt o.who o.stamp o.text=true:=by
 unfold Zb at h;rw [if_neg (by omega),if_neg (by omega),if_neg (by omega),if_pos hk] at h;simp only [Bool.and_eq_true,decide_eq_true_eq] at h;exact ⟨h.1.1.1.1,h.1.1.2,h.1.2⟩
theorem Z3k {o:Go.Dol.Obj} (h:Zb geS o=true):o.kind=1∨o.kind=2∨o.kind=3∨o.kind=4:=by
 unfold Zb at h
 by_cases n1:o.kind=1
 ·exact .inl n1
 by_cases n2:o.kind=2
 ·exact .inr (.inl n2)
 by_cases n3:o.kind=3
 ·exact .inr (.inr (.inl n3))
 by_cases n4:o.kind=4
 ·exact .inr (.inr (.inr n4))
 rw [if_neg n1,if_neg n2,if_neg n3,if_neg n4] at h;cases h
theorem ZaB (Ad:OA) (d:LU) (cd:Nat) (Ae:OA) (en:List Ent) (ce:Nat) (tr:BA) (Ap:OA) (pa:List BA) (cp:Nat) (ta na wh:BA) (st:Int) (te:BA) (base:Nat) (A:OA) (u:World) (hb:base≤u.heap.size) (hown:u.ownsRow base 5 1 (.slice A 1 1) 1 (bc [1])) (hd:Rd u base 1 Ad d.length (bc d)) (HC:Hid (Zb geS ⟨1,d,en,tr,pa,ta,na,wh,st,te⟩=true)):
  Calls Tryz.prog 327 #[.agg #[.slice Ad d.length cd],.slice A 1 1] u (RetO base u (encO ⟨1,d,en,tr,pa,ta,na,wh,st,te⟩)):=by
 have h1:=Z25 rfl HC.out;exact Z87 base Ad d cd A [1] 1 u hown (hd.more hb) (by show 1+d.length≤_;have h2:d.length≤1048576:=h1;omega) hb
theorem ZaC (Ad:OA) (d:LU) (cd:Nat) (Ae:OA) (en:List Ent) (ce:Nat) (tr:BA) (Ap:OA) (pa:List BA) (cp:Nat) (ta na wh:BA) (st:Int) (te:BA) (base:Nat) (A:OA) (u:World) (hb:base≤u.heap.size) (hown:u.ownsRow base 5 1 (.slice A 1 1) 1 (bc [2])) (he:Rd u base 3 Ae en.length (ec en)) (hel:en.length≤140737488355328) (HC:Hid (Zb geS ⟨2,d,en,tr,pa,ta,na,wh,st,te⟩=true)):
  Calls Tryz.prog 330 #[.agg #[.slice Ae en.length ce],.slice A 1 1] u (RetO base u (encO ⟨2,d,en,tr,pa,ta,na,wh,st,te⟩)):=by
 have h1:=Z50 (Z0P rfl HC.out);exact Z88 base Ae en ce A [2] 1 u (Rd.of_own hown) he hel (by show 1+1000+_≤_;have h2:(en.flatMap entB).length≤4299000000:=h1;omega) hb
theorem ZaD (Ad:OA) (d:LU) (cd:Nat) (Ae:OA) (en:List Ent) (ce:Nat) (tr:BA) (Ap:OA) (pa:List BA) (cp:Nat) (ta na wh:BA) (st:Int) (te:BA) (base:Nat) (A:OA) (u:World) (hb:base≤u.heap.size) (hown:u.ownsRow base 5 1 (.slice A 1 1) 1 (bc [3])) (hp:Rd u base 1 Ap pa.length (pc pa)) (hpl:pa.length≤140737488355328) (HC:Hid (Zb geS ⟨3,d,en,tr,pa,ta,na,wh,st,te⟩=true)):
  Calls Tryz.prog 335 #[.agg #[.string tr,.slice Ap pa.length cp,.string wh,.int .i64 st,.string te],.slice A 1 1] u (RetO base u (encO ⟨3,d,en,tr,pa,ta,na,wh,st,te⟩)):=by
 obtain ⟨h1,h2,h3⟩:=Z26 rfl HC.out;have h4:=Z3j h2;have h5:=Z1D h3;exact Z6G base tr Ap pa cp wh st te A [3] 1 u hown hp hpl (by show 1+tr.size+(Z0b pa).length+3000+wh.size+te.size≤_;have h6:tr.size=32:=h1;have h7:(Z0b pa).length≤128:=h4;have h8:wh.size≤1000:=h5.1;have h9:te.size≤1000:=h5.2.1;omega) hb
theorem ZaE (Ad:OA) (d:LU) (cd:Nat) (Ae:OA) (en:List Ent) (ce:Nat) (tr:BA) (Ap:OA) (pa:List BA) (cp:Nat) (ta na wh:BA) (st:Int) (te:BA) (base:Nat) (A:OA) (u:World) (hb:base≤u.heap.size) (hown:u.ownsRow base 5 1 (.slice A 1 1) 1 (bc [4])) (HC:Hid (Zb geS ⟨4,d,en,tr,pa,ta,na,wh,st,te⟩=true)):
  Calls Tryz.prog 338 #[.agg #[.string ta,.string na,.string wh,.int .i64 st,.string te],.slice A 1 1] u (RetO base u (encO ⟨4,d,en,tr,pa,ta,na,wh,st,te⟩)):=by
 obtain ⟨h1,h2,h3⟩:=Z27 rfl HC.out;have h5:=Z1D h3;exact Z9p base ta na wh st te A [4] 1 u hown (by show 1+ta.size+na.size+2000+wh.size+te.size≤_;have h6:ta.size=32:=h1;have h7:na.size≤200:=h2;have h8:wh.size≤1000:=h5.1;have h9:te.size≤1000:=h5.2.1;omega) hb
theorem Z5q (k:Int) (Ad:OA) (d:LU) (cd:Nat) (Ae:OA) (en:List Ent) (ce:Nat) (tr:BA) (Ap:OA) (pa:List BA) (cp:Nat) (ta na wh:BA) (st:Int) (te:BA) (w:World) (hd:Rd w w.heap.size 1 Ad d.length (bc d)) (he:Rd w w.heap.size 3 Ae en.length (ec en)) (hp:Rd w w.heap.size 1 Ap pa.length (pc pa)) (hel:en.length≤140737488355328) (hpl:pa.length≤140737488355328) (hsz:Hid (∀p∈pa,p.size≤maxLen)) (HC:Hid (Zb geS ⟨k,d,en,tr,pa,ta,na,wh,st,te⟩=false)):
  Calls Tryz.prog 37 #[.agg #[.int .i64 k,.slice Ad d.length cd,.slice Ae en.length ce,.string tr,.slice Ap pa.length cp,.string ta,.string na,.string wh,.int .i64 st,.string te]] w fun e w'=>e= .returned (.tuple #[.slice none 0 0,.int .i64 1])∧Below w.heap.size w w':=by
 have hb0:Below w.heap.size w (w.alloc (.cells #[.int .i64 k,.slice Ad d.length cd,.slice Ae en.length ce,.string tr,.slice Ap pa.length cp,.string ta,.string na,.string wh,.int .i64 st,.string te] 40)):=(bR _ _).alloc (lR _) _;have hB:=Blk.new w 40 [.int .i64 k,.slice Ad d.length cd,.slice Ae en.length ce,.string tr,.slice Ap pa.length cp,.string ta,.string na,.string wh,.int .i64 st,.string te];obtain ⟨c0,c1,c2,c3,c4,c5,c6,c7,c8,c9⟩:=Z2 hB;have hd0:=hd.alive hb0;have he0:=he.alive hb0;have hp0:=hp.alive hb0;have hEC:Hid (errC (Zb geS ⟨k,d,en,tr,pa,ta,na,wh,st,te⟩)=1):=qI (by rw [HC.out];rfl);go_in;go_wp2_with (go_at_call 94;(with_reducible refine (Z1U k Ad d cd Ae en ce tr Ap pa cp ta na wh st te _ hd0 he0 hp0 hel hpl hsz).mono ?_);rintro e w1 ⟨rfl,hb1⟩;rw [hEC.out]);go_ret2;exact ⟨rfl,hb0.next hb1⟩
theorem Z89 (Ad:OA) (d:LU) (cd:Nat) (Ae:OA) (en:List Ent) (ce:Nat) (tr:BA) (Ap:OA) (pa:List BA) (cp:Nat) (ta na wh:BA) (st:Int) (te:BA) (w:World) (hd:Rd w w.heap.size 1 Ad d.length (bc d)) (he:Rd w w.heap.size 3 Ae en.length (ec en)) (hp:Rd w w.heap.size 1 Ap pa.length (pc pa)) (hel:en.length≤140737488355328) (hpl:pa.length≤140737488355328) (hsz:Hid (∀p∈pa,p.size≤maxLen)) (HC:Hid (Zb geS ⟨1,d,en,tr,pa,ta,na,wh,st,te⟩=true)):
  Calls Tryz.prog 37 #[.agg #[.int .i64 1,.slice Ad d.length cd,.slice Ae en.length ce,.string tr,.slice Ap pa.length cp,.string ta,.string na,.string wh,.int .i64 st,.string te]] w (Z2M w ⟨1,d,en,tr,pa,ta,na,wh,st,te⟩):=by
 have h3:=Zg0;have hb0:Below w.heap.size w (w.alloc (.cells #[.int .i64 1,.slice Ad d.length cd,.slice Ae en.length ce,.string tr,.slice Ap pa.length cp,.string ta,.string na,.string wh,.int .i64 st,.string te] 40)):=(bR _ _).alloc (lR _) _;have hB:=Blk.new w 40 [.int .i64 1,.slice Ad d.length cd,.slice Ae en.length ce,.string tr,.slice Ap pa.length cp,.string ta,.string na,.string wh,.int .i64 st,.string te];obtain ⟨c0,c1,c2,c3,c4,c5,c6,c7,c8,c9⟩:=Z2 hB;have hd0:=hd.alive hb0;have he0:=he.alive hb0;have hp0:=hp.alive hb0;have hEC:Hid (errC (Zb geS ⟨1,d,en,tr,pa,ta,na,wh,st,te⟩)=0):=qI (by rw [HC.out];rfl);go_in;go_wp2_with (go_at_call 94;(with_reducible refine (Z1U 1 Ad d cd Ae en ce tr Ap pa cp ta na wh st te _ hd0 he0 hp0 hel hpl hsz).mono ?_);rintro e w1 ⟨rfl,hb1⟩;rw [hEC.out]);have hB1:=hB.below hb1 hB.lt;have hbw:=hb0.next hb1;have hBd:=hB1.drew;have hbd:Below w.heap.size w w1.drew:=hbw.drew;have hd2:=hd.alive hbd;have he2:=he.alive hbd;have hp2:=hp.alive hbd;have hlt:=hBd.lt;have hwr:IntKind.u8.wrap 1=1:=by rfl
 have hAl:Below w1.drew.heap.size w1.drew (w1.drew.alloc (.cells #[.int .u8 1] 5)):=(bR _ _).alloc (lR _) _
 go_region_held3 (fun w'=>w'.cell? ⟨w.heap.size,0,none⟩=some (.int .i64 1)∧w'.cell? ⟨w.heap.size,1,none⟩=some (.slice Ad d.length cd)∧w'.cell? ⟨w.heap.size,2,none⟩=some (.slice Ae en.length ce)∧w'.cell? ⟨w.heap.size,3,none⟩=some (.string tr)∧w'.cell? ⟨w.heap.size,4,none⟩=some (.slice Ap pa.length cp)∧w'.cell? ⟨w.heap.size,5,none⟩=some (.string ta)∧w'.cell? ⟨w.heap.size,6,none⟩=some (.string na)∧w'.cell? ⟨w.heap.size,7,none⟩=some (.string wh)∧w'.cell? ⟨w.heap.size,8,none⟩=some (.int .i64 st)∧w'.cell? ⟨w.heap.size,9,none⟩=some (.string te)) (first | exact Z2 hBd | exact Z2 hB3 | exact Z2 hB4 | exact Z2 (hBd.alloc _) | exact Z2 (hB3.alloc _) | go_keep) ((first
  | (go_at_call 95;(with_reducible refine (Z5P Ad d.length cd Ae en.length ce tr Ap pa.length cp ta na wh st te _).mono ?_);rintro e w3 ⟨rfl,hb3⟩;
        have hx3:Below w1.drew.heap.size w1.drew w3:=(by first | exact hb3 | exact hAl.next hb3);
        have hB3:Blk w3 w.heap.size 40 [.int .i64 1,.slice Ad d.length cd,.slice Ae en.length ce,.string tr,.slice Ap pa.length cp,.string ta,.string na,.string wh,.int .i64 st,.string te]:=hBd.below hx3 hlt)
  | (go_at_call 327;have hu:Below w1.drew.heap.size w1.drew (w3.alloc (.cells #[.int .u8 1] 5)):=hx3.alloc hx3.size _;
        have ho:(w3.alloc (.cells #[.int .u8 1] 5)).ownsRow w1.drew.heap.size 5 1 (.slice (some ⟨w3.heap.size,0,none⟩) 1 1) 1 (bc [1]):=World.ownsRow_lit w3 #[.int .u8 1] 1 hx3.size (by decide) rfl;
        (with_reducible refine (ZaB Ad d cd Ae en ce tr Ap pa cp ta na wh st te w1.drew.heap.size _ _ hu.size ho (hd2.below hu) HC).mono ?_);rintro e w4 ⟨l,A,c,el,rfl,hol,hb4,i1,i2⟩;
        have hx4:Below w1.drew.heap.size w1.drew w4:=hu.trans hb4;have hB4:Blk w4 w.heap.size 40 [.int .i64 1,.slice Ad d.length cd,.slice Ae en.length ce,.string tr,.slice Ap pa.length cp,.string ta,.string na,.string wh,.int .i64 st,.string te]:=hBd.below hx4 hlt)
  | (go_at_call 327;
        have ho:w3.ownsRow w1.drew.heap.size 5 1 (.slice (some ⟨w1.heap.size,0,none⟩) 1 1) 1 (bc [1]):=Zh (World.ownsRow_lit w1.drew #[.int .u8 1] 1 (lR _) (by decide) rfl) hb3;
        (with_reducible refine (ZaB Ad d cd Ae en ce tr Ap pa cp ta na wh st te w1.drew.heap.size _ _ hx3.size ho (hd2.below hx3) HC).mono ?_);rintro e w4 ⟨l,A,c,el,rfl,hol,hb4,i1,i2⟩;
        have hx4:Below w1.drew.heap.size w1.drew w4:=hx3.trans hb4;have hB4:Blk w4 w.heap.size 40 [.int .i64 1,.slice Ad d.length cd,.slice Ae en.length ce,.string tr,.slice Ap pa.length cp,.string ta,.string na,.string wh,.int .i64 st,.string te]:=hBd.below hx4 hlt)))
 all_goals have hbe:Below w.heap.size w w4:=hbd.trans (hx4.mono hbd.size)
 all_goals go_wp2_with fail
 all_goals go_ret2
 all_goals exact ⟨hbe,.inl ⟨HC.out,l,A,c,el,rfl,hol.base hbd.size⟩⟩
theorem Z8a (Ad:OA) (d:LU) (cd:Nat) (Ae:OA) (en:List Ent) (ce:Nat) (tr:BA) (Ap:OA) (pa:List BA) (cp:Nat) (ta na wh:BA) (st:Int) (te:BA) (w:World) (hd:Rd w w.heap.size 1 Ad d.length (bc d)) (he:Rd w w.heap.size 3 Ae en.length (ec en)) (hp:Rd w w.heap.size 1 Ap pa.length (pc pa)) (hel:en.length≤140737488355328) (hpl:pa.length≤140737488355328) (hsz:Hid (∀p∈pa,p.size≤maxLen)) (HC:Hid (Zb geS ⟨2,d,en,tr,pa,ta,na,wh,st,te⟩=true)):
  Calls Tryz.prog 37 #[.agg #[.int .i64 2,.slice Ad d.length cd,.slice Ae en.length ce,.string tr,.slice Ap pa.length cp,.string ta,.string na,.string wh,.int .i64 st,.string te]] w (Z2M w ⟨2,d,en,tr,pa,ta,na,wh,st,te⟩):=by
 have h3:=Zg1;have hb0:Below w.heap.size w (w.alloc (.cells #[.int .i64 2,.slice Ad d.length cd,.slice Ae en.length ce,.string tr,.slice Ap pa.length cp,.string ta,.string na,.string wh,.int .i64 st,.string te] 40)):=(bR _ _).alloc (lR _) _;have hB:=Blk.new w 40 [.int .i64 2,.slice Ad d.length cd,.slice Ae en.length ce,.string tr,.slice Ap pa.length cp,.string ta,.string na,.string wh,.int .i64 st,.string te];obtain ⟨c0,c1,c2,c3,c4,c5,c6,c7,c8,c9⟩:=Z2 hB;have hd0:=hd.alive hb0;have he0:=he.alive hb0;have hp0:=hp.alive hb0;have hEC:Hid (errC (Zb geS ⟨2,d,en,tr,pa,ta,na,wh,st,te⟩)=0):=qI (by rw [HC.out];rfl);go_in;go_wp2_with (go_at_call 94;(with_reducible refine (Z1U 2 Ad d cd Ae en ce tr Ap pa cp ta na wh st te _ hd0 he0 hp0 hel hpl hsz).mono ?_);rintro e w1 ⟨rfl,hb1⟩;rw [hEC.out]);have hB1:=hB.below hb1 hB.lt;have hbw:=hb0.next hb1;have hBd:=hB1.drew;have hbd:Below w.heap.size w w1.drew:=hbw.drew;have hd2:=hd.alive hbd;have he2:=he.alive hbd;have hp2:=hp.alive hbd;have hlt:=hBd.lt;have hwr:IntKind.u8.wrap 2=2:=by rfl
 have hAl:Below w1.drew.heap.size w1.drew (w1.drew.alloc (.cells #[.int .u8 2] 5)):=(bR _ _).alloc (lR _) _
 go_region_held3 (fun w'=>w'.cell? ⟨w.heap.size,0,none⟩=some (.int .i64 2)∧w'.cell? ⟨w.heap.size,1,none⟩=some (.slice Ad d.length cd)∧w'.cell? ⟨w.heap.size,2,none⟩=some (.slice Ae en.length ce)∧w'.cell? ⟨w.heap.size,3,none⟩=some (.string tr)∧w'.cell? ⟨w.heap.size,4,none⟩=some (.slice Ap pa.length cp)∧w'.cell? ⟨w.heap.size,5,none⟩=some (.string ta)∧w'.cell? ⟨w.heap.size,6,none⟩=some (.string na)∧w'.cell? ⟨w.heap.size,7,none⟩=some (.string wh)∧w'.cell? ⟨w.heap.size,8,none⟩=some (.int .i64 st)∧w'.cell? ⟨w.heap.size,9,none⟩=some (.string te)) (first | exact Z2 hBd | exact Z2 hB3 | exact Z2 hB4 | exact Z2 (hBd.alloc _) | exact Z2 (hB3.alloc _) | go_keep) ((first
  | (go_at_call 95;(with_reducible refine (Z5Q Ad d.length cd Ae en.length ce tr Ap pa.length cp ta na wh st te _).mono ?_);rintro e w3 ⟨rfl,hb3⟩;
        have hx3:Below w1.drew.heap.size w1.drew w3:=(by first | exact hb3 | exact hAl.next hb3);
        have hB3:Blk w3 w.heap.size 40 [.int .i64 2,.slice Ad d.length cd,.slice Ae en.length ce,.string tr,.slice Ap pa.length cp,.string ta,.string na,.string wh,.int .i64 st,.string te]:=hBd.below hx3 hlt)
  | (go_at_call 330;have hu:Below w1.drew.heap.size w1.drew (w3.alloc (.cells #[.int .u8 2] 5)):=hx3.alloc hx3.size _;
        have ho:(w3.alloc (.cells #[.int .u8 2] 5)).ownsRow w1.drew.heap.size 5 1 (.slice (some ⟨w3.heap.size,0,none⟩) 1 1) 1 (bc [2]):=World.ownsRow_lit w3 #[.int .u8 2] 1 hx3.size (by decide) rfl;
        (with_reducible refine (ZaC Ad d cd Ae en ce tr Ap pa cp ta na wh st te w1.drew.heap.size _ _ hu.size ho (he2.below hu) hel HC).mono ?_);rintro e w4 ⟨l,A,c,el,rfl,hol,hb4,i1,i2⟩;
        have hx4:Below w1.drew.heap.size w1.drew w4:=hu.trans hb4;have hB4:Blk w4 w.heap.size 40 [.int .i64 2,.slice Ad d.length cd,.slice Ae en.length ce,.string tr,.slice Ap pa.length cp,.string ta,.string na,.string wh,.int .i64 st,.string te]:=hBd.below hx4 hlt)
  | (go_at_call 330;
        have ho:w3.ownsRow w1.drew.heap.size 5 1 (.slice (some ⟨w1.heap.size,0,none⟩) 1 1) 1 (bc [2]):=Zh (World.ownsRow_lit w1.drew #[.int .u8 2] 1 (lR _) (by decide) rfl) hb3;
        (with_reducible refine (ZaC Ad d cd Ae en ce tr Ap pa cp ta na wh st te w1.drew.heap.size _ _ hx3.size ho (he2.below hx3) hel HC).mono ?_);rintro e w4 ⟨l,A,c,el,rfl,hol,hb4,i1,i2⟩;
        have hx4:Below w1.drew.heap.size w1.drew w4:=hx3.trans hb4;have hB4:Blk w4 w.heap.size 40 [.int .i64 2,.slice Ad d.length cd,.slice Ae en.length ce,.string tr,.slice Ap pa.length cp,.string ta,.string na,.string wh,.int .i64 st,.string te]:=hBd.below hx4 hlt)))
 all_goals have hbe:Below w.heap.size w w4:=hbd.trans (hx4.mono hbd.size)
 all_goals go_wp2_with fail
 all_goals go_ret2
 all_goals exact ⟨hbe,.inl ⟨HC.out,l,A,c,el,rfl,hol.base hbd.size⟩⟩
theorem Z8b (Ad:OA) (d:LU) (cd:Nat) (Ae:OA) (en:List Ent) (ce:Nat) (tr:BA) (Ap:OA) (pa:List BA) (cp:Nat) (ta na wh:BA) (st:Int) (te:BA) (w:World) (hd:Rd w w.heap.size 1 Ad d.length (bc d)) (he:Rd w w.heap.size 3 Ae en.length (ec en)) (hp:Rd w w.heap.size 1 Ap pa.length (pc pa)) (hel:en.length≤140737488355328) (hpl:pa.length≤140737488355328) (hsz:Hid (∀p∈pa,p.size≤maxLen)) (HC:Hid (Zb geS ⟨3,d,en,tr,pa,ta,na,wh,st,te⟩=true)):
  Calls Tryz.prog 37 #[.agg #[.int .i64 3,.slice Ad d.length cd,.slice Ae en.length ce,.string tr,.slice Ap pa.length cp,.string ta,.string na,.string wh,.int .i64 st,.string te]] w (Z2M w ⟨3,d,en,tr,pa,ta,na,wh,st,te⟩):=by
 have h3:=Zg2;have hb0:Below w.heap.size w (w.alloc (.cells #[.int .i64 3,.slice Ad d.length cd,.slice Ae en.length ce,.string tr,.slice Ap pa.length cp,.string ta,.string na,.string wh,.int .i64 st,.string te] 40)):=(bR _ _).alloc (lR _) _;have hB:=Blk.new w 40 [.int .i64 3,.slice Ad d.length cd,.slice Ae en.length ce,.string tr,.slice Ap pa.length cp,.string ta,.string na,.string wh,.int .i64 st,.string te];obtain ⟨c0,c1,c2,c3,c4,c5,c6,c7,c8,c9⟩:=Z2 hB;have hd0:=hd.alive hb0;have he0:=he.alive hb0;have hp0:=hp.alive hb0;have hEC:Hid (errC (Zb geS ⟨3,d,en,tr,pa,ta,na,wh,st,te⟩)=0):=qI (by rw [HC.out];rfl);go_in;go_wp2_with (go_at_call 94;(with_reducible refine (Z1U 3 Ad d cd Ae en ce tr Ap pa cp ta na wh st te _ hd0 he0 hp0 hel hpl hsz).mono ?_);rintro e w1 ⟨rfl,hb1⟩;rw [hEC.out]);have hB1:=hB.below hb1 hB.lt;have hbw:=hb0.next hb1;have hBd:=hB1.drew;have hbd:Below w.heap.size w w1.drew:=hbw.drew;have hd2:=hd.alive hbd;have he2:=he.alive hbd;have hp2:=hp.alive hbd;have hlt:=hBd.lt;have hwr:IntKind.u8.wrap 3=3:=by rfl
 have hAl:Below w1.drew.heap.size w1.drew (w1.drew.alloc (.cells #[.int .u8 3] 5)):=(bR _ _).alloc (lR _) _
 go_region_held3 (fun w'=>w'.cell? ⟨w.heap.size,0,none⟩=some (.int .i64 3)∧w'.cell? ⟨w.heap.size,1,none⟩=some (.slice Ad d.length cd)∧w'.cell? ⟨w.heap.size,2,none⟩=some (.slice Ae en.length ce)∧w'.cell? ⟨w.heap.size,3,none⟩=some (.string tr)∧w'.cell? ⟨w.heap.size,4,none⟩=some (.slice Ap pa.length cp)∧w'.cell? ⟨w.heap.size,5,none⟩=some (.string ta)∧w'.cell? ⟨w.heap.size,6,none⟩=some (.string na)∧w'.cell? ⟨w.heap.size,7,none⟩=some (.string wh)∧w'.cell? ⟨w.heap.size,8,none⟩=some (.int .i64 st)∧w'.cell? ⟨w.heap.size,9,none⟩=some (.string te)) (first | exact Z2 hBd | exact Z2 hB3 | exact Z2 hB4 | exact Z2 (hBd.alloc _) | exact Z2 (hB3.alloc _) | go_keep) ((first
  | (go_at_call 95;(with_reducible refine (Z5R Ad d.length cd Ae en.length ce tr Ap pa.length cp ta na wh st te _).mono ?_);rintro e w3 ⟨rfl,hb3⟩;
        have hx3:Below w1.drew.heap.size w1.drew w3:=(by first | exact hb3 | exact hAl.next hb3);
        have hB3:Blk w3 w.heap.size 40 [.int .i64 3,.slice Ad d.length cd,.slice Ae en.length ce,.string tr,.slice Ap pa.length cp,.string ta,.string na,.string wh,.int .i64 st,.string te]:=hBd.below hx3 hlt)
  | (go_at_call 335;have hu:Below w1.drew.heap.size w1.drew (w3.alloc (.cells #[.int .u8 3] 5)):=hx3.alloc hx3.size _;
        have ho:(w3.alloc (.cells #[.int .u8 3] 5)).ownsRow w1.drew.heap.size 5 1 (.slice (some ⟨w3.heap.size,0,none⟩) 1 1) 1 (bc [3]):=World.ownsRow_lit w3 #[.int .u8 3] 1 hx3.size (by decide) rfl;
        (with_reducible refine (ZaD Ad d cd Ae en ce tr Ap pa cp ta na wh st te w1.drew.heap.size _ _ hu.size ho (hp2.below hu) hpl HC).mono ?_);rintro e w4 ⟨l,A,c,el,rfl,hol,hb4,i1,i2⟩;
        have hx4:Below w1.drew.heap.size w1.drew w4:=hu.trans hb4;have hB4:Blk w4 w.heap.size 40 [.int .i64 3,.slice Ad d.length cd,.slice Ae en.length ce,.string tr,.slice Ap pa.length cp,.string ta,.string na,.string wh,.int .i64 st,.string te]:=hBd.below hx4 hlt)
  | (go_at_call 335;
        have ho:w3.ownsRow w1.drew.heap.size 5 1 (.slice (some ⟨w1.heap.size,0,none⟩) 1 1) 1 (bc [3]):=Zh (World.ownsRow_lit w1.drew #[.int .u8 3] 1 (lR _) (by decide) rfl) hb3;
        (with_reducible refine (ZaD Ad d cd Ae en ce tr Ap pa cp ta na wh st te w1.drew.heap.size _ _ hx3.size ho (hp2.below hx3) hpl HC).mono ?_);rintro e w4 ⟨l,A,c,el,rfl,hol,hb4,i1,i2⟩;
        have hx4:Below w1.drew.heap.size w1.drew w4:=hx3.trans hb4;have hB4:Blk w4 w.heap.size 40 [.int .i64 3,.slice Ad d.length cd,.slice Ae en.length ce,.string tr,.slice Ap pa.length cp,.string ta,.string na,.string wh,.int .i64 st,.string te]:=hBd.below hx4 hlt)))
 all_goals have hbe:Below w.heap.size w w4:=hbd.trans (hx4.mono hbd.size)
 all_goals go_wp2_with fail
 all_goals go_ret2
 all_goals exact ⟨hbe,.inl ⟨HC.out,l,A,c,el,rfl,hol.base hbd.size⟩⟩
theorem Z8c (Ad:OA) (d:LU) (cd:Nat) (Ae:OA) (en:List Ent) (ce:Nat) (tr:BA) (Ap:OA) (pa:List BA) (cp:Nat) (ta na wh:BA) (st:Int) (te:BA) (w:World) (hd:Rd w w.heap.size 1 Ad d.length (bc d)) (he:Rd w w.heap.size 3 Ae en.length (ec en)) (hp:Rd w w.heap.size 1 Ap pa.length (pc pa)) (hel:en.length≤140737488355328) (hpl:pa.length≤140737488355328) (hsz:Hid (∀p∈pa,p.size≤maxLen)) (HC:Hid (Zb geS ⟨4,d,en,tr,pa,ta,na,wh,st,te⟩=true)):
  Calls Tryz.prog 37 #[.agg #[.int .i64 4,.slice Ad d.length cd,.slice Ae en.length ce,.string tr,.slice Ap pa.length cp,.string ta,.string na,.string wh,.int .i64 st,.string te]] w (Z2M w ⟨4,d,en,tr,pa,ta,na,wh,st,te⟩):=by
 have h3:=Zg3;have hb0:Below w.heap.size w (w.alloc (.cells #[.int .i64 4,.slice Ad d.length cd,.slice Ae en.length ce,.string tr,.slice Ap pa.length cp,.string ta,.string na,.string wh,.int .i64 st,.string te] 40)):=(bR _ _).alloc (lR _) _;have hB:=Blk.new w 40 [.int .i64 4,.slice Ad d.length cd,.slice Ae en.length ce,.string tr,.slice Ap pa.length cp,.string ta,.string na,.string wh,.int .i64 st,.string te];obtain ⟨c0,c1,c2,c3,c4,c5,c6,c7,c8,c9⟩:=Z2 hB;have hd0:=hd.alive hb0;have he0:=he.alive hb0;have hp0:=hp.alive hb0;have hEC:Hid (errC (Zb geS ⟨4,d,en,tr,pa,ta,na,wh,st,te⟩)=0):=qI (by rw [HC.out];rfl);go_in;go_wp2_with (go_at_call 94;(with_reducible refine (Z1U 4 Ad d cd Ae en ce tr Ap pa cp ta na wh st te _ hd0 he0 hp0 hel hpl hsz).mono ?_);rintro e w1 ⟨rfl,hb1⟩;rw [hEC.out]);have hB1:=hB.below hb1 hB.lt;have hbw:=hb0.next hb1;have hBd:=hB1.drew;have hbd:Below w.heap.size w w1.drew:=hbw.drew;have hd2:=hd.alive hbd;have he2:=he.alive hbd;have hp2:=hp.alive hbd;have hlt:=hBd.lt;have hwr:IntKind.u8.wrap 4=4:=by rfl
 have hAl:Below w1.drew.heap.size w1.drew (w1.drew.alloc (.cells #[.int .u8 4] 5)):=(bR _ _).alloc (lR _) _
 go_region_held3 (fun w'=>w'.cell? ⟨w.heap.size,0,none⟩=some (.int .i64 4)∧w'.cell? ⟨w.heap.size,1,none⟩=some (.slice Ad d.length cd)∧w'.cell? ⟨w.heap.size,2,none⟩=some (.slice Ae en.length ce)∧w'.cell? ⟨w.heap.size,3,none⟩=some (.string tr)∧w'.cell? ⟨w.heap.size,4,none⟩=some (.slice Ap pa.length cp)∧w'.cell? ⟨w.heap.size,5,none⟩=some (.string ta)∧w'.cell? ⟨w.heap.size,6,none⟩=some (.string na)∧w'.cell? ⟨w.heap.size,7,none⟩=some (.string wh)∧w'.cell? ⟨w.heap.size,8,none⟩=some (.int .i64 st)∧w'.cell? ⟨w.heap.size,9,none⟩=some (.string te)) (first | exact Z2 hBd | exact Z2 hB3 | exact Z2 hB4 | exact Z2 (hBd.alloc _) | exact Z2 (hB3.alloc _) | go_keep) ((first
  | (go_at_call 95;(with_reducible refine (Z5S Ad d.length cd Ae en.length ce tr Ap pa.length cp ta na wh st te _).mono ?_);rintro e w3 ⟨rfl,hb3⟩;
        have hx3:Below w1.drew.heap.size w1.drew w3:=(by first | exact hb3 | exact hAl.next hb3);
        have hB3:Blk w3 w.heap.size 40 [.int .i64 4,.slice Ad d.length cd,.slice Ae en.length ce,.string tr,.slice Ap pa.length cp,.string ta,.string na,.string wh,.int .i64 st,.string te]:=hBd.below hx3 hlt)
  | (go_at_call 338;have hu:Below w1.drew.heap.size w1.drew (w3.alloc (.cells #[.int .u8 4] 5)):=hx3.alloc hx3.size _;
        have ho:(w3.alloc (.cells #[.int .u8 4] 5)).ownsRow w1.drew.heap.size 5 1 (.slice (some ⟨w3.heap.size,0,none⟩) 1 1) 1 (bc [4]):=World.ownsRow_lit w3 #[.int .u8 4] 1 hx3.size (by decide) rfl;
        (with_reducible refine (ZaE Ad d cd Ae en ce tr Ap pa cp ta na wh st te w1.drew.heap.size _ _ hu.size ho HC).mono ?_);rintro e w4 ⟨l,A,c,el,rfl,hol,hb4,i1,i2⟩;
        have hx4:Below w1.drew.heap.size w1.drew w4:=hu.trans hb4;have hB4:Blk w4 w.heap.size 40 [.int .i64 4,.slice Ad d.length cd,.slice Ae en.length ce,.string tr,.slice Ap pa.length cp,.string ta,.string na,.string wh,.int .i64 st,.string te]:=hBd.below hx4 hlt)
  | (go_at_call 338;
        have ho:w3.ownsRow w1.drew.heap.size 5 1 (.slice (some ⟨w1.heap.size,0,none⟩) 1 1) 1 (bc [4]):=Zh (World.ownsRow_lit w1.drew #[.int .u8 4] 1 (lR _) (by decide) rfl) hb3;
        (with_reducible refine (ZaE Ad d cd Ae en ce tr Ap pa cp ta na wh st te w1.drew.heap.size _ _ hx3.size ho HC).mono ?_);rintro e w4 ⟨l,A,c,el,rfl,hol,hb4,i1,i2⟩;
        have hx4:Below w1.drew.heap.size w1.drew w4:=hx3.trans hb4;have hB4:Blk w4 w.heap.size 40 [.int .i64 4,.slice Ad d.length cd,.slice Ae en.length ce,.string tr,.slice Ap pa.length cp,.string ta,.string na,.string wh,.int .i64 st,.string te]:=hBd.below hx4 hlt)))
 all_goals have hbe:Below w.heap.size w w4:=hbd.trans (hx4.mono hbd.size)
 all_goals go_wp2_with fail
 all_goals go_ret2
 all_goals exact ⟨hbe,.inl ⟨HC.out,l,A,c,el,rfl,hol.base hbd.size⟩⟩
theorem Z28 (k:Int) (Ad:OA) (d:LU) (cd:Nat) (Ae:OA) (en:List Ent) (ce:Nat) (tr:BA) (Ap:OA) (pa:List BA) (cp:Nat) (ta na wh:BA) (st:Int) (te:BA) (w:World) (hd:Rd w w.heap.size 1 Ad d.length (bc d)) (he:Rd w w.heap.size 3 Ae en.length (ec en)) (hp:Rd w w.heap.size 1 Ap pa.length (pc pa)) (hel:en.length≤140737488355328) (hpl:pa.length≤140737488355328) (hsz:Hid (∀p∈pa,p.size≤maxLen)):
  Calls Tryz.prog 37 #[.agg #[.int .i64 k,.slice Ad d.length cd,.slice Ae en.length ce,.string tr,.slice Ap pa.length cp,.string ta,.string na,.string wh,.int .i64 st,.string te]] w (Z2M w ⟨k,d,en,tr,pa,ta,na,wh,st,te⟩):=by
 cases hc:Zb geS ⟨k,d,en,tr,pa,ta,na,wh,st,te⟩ with
 | false=>exact (Z5q k Ad d cd Ae en ce tr Ap pa cp ta na wh st te w hd he hp hel hpl hsz (qI hc)).mono fun e w' h=>⟨h.2,.inr ⟨hc,h.1⟩⟩
 | true=>
  obtain n1 | n1 | n1 | n1:=Z3k hc
  ·have n2:k=1:=n1
   subst n2;exact Z89 Ad d cd Ae en ce tr Ap pa cp ta na wh st te w hd he hp hel hpl hsz (qI hc)
  ·have n2:k=2:=n1
   subst n2;exact Z8a Ad d cd Ae en ce tr Ap pa cp ta na wh st te w hd he hp hel hpl hsz (qI hc)
  ·have n2:k=3:=n1
   subst n2;exact Z8b Ad d cd Ae en ce tr Ap pa cp ta na wh st te w hd he hp hel hpl hsz (qI hc)
  ·have n2:k=4:=n1
   subst n2;exact Z8c Ad d cd Ae en ce tr Ap pa cp ta na wh st te w hd he hp hel hpl hsz (qI hc)
theorem Z3l {o:Go.Dol.Obj} (h:Zt o.who o.stamp o.text=true):(Z6m o).length≤3000:=by
 obtain ⟨h1,h2,h3,h4⟩:=Z1D h;have e1:=ZQ (s:=o.who) (by omega);have e2:=ZQ (s:=o.text) (by omega);have e3:=Za 8 (Zk o.stamp) (by have:=Z0v o.stamp;unfold Ze at this;omega);unfold Z6m;simp only [List.length_append];omega
theorem Z4q {o:Go.Dol.Obj} (h:Zb geS o=true):(encO o).length≤5000000000:=by
 unfold encO;rw [List.length_cons];rcases Z3k h with e | e | e | e
 ·rw [if_pos e]
  have:=Z25 e h;omega
 ·rw [if_neg (by omega),if_pos e]
  have h1:=Z50 (Z0P e h);have h2:=(Z0o (Z0P e h)).2;have h3:=Za 8 o.ents.length (by omega);unfold Z4G;rw [List.length_append];omega
 ·rw [if_neg (by omega),if_neg (by omega),if_pos e]
  obtain ⟨h1,h2,h3⟩:=Z26 e h;have h4:=Z3j h2;have h5:=(Z1e h2).2;have h6:=Za 8 o.pars.length (by omega);have h7:=Z3l h3;have h8:=Zg o.tree;unfold Z0b at h4;unfold Z5i;simp only [List.length_append];omega
 ·rw [if_neg (by omega),if_neg (by omega),if_neg (by omega)]
  obtain ⟨h1,h2,h3⟩:=Z27 e h;have h7:=Z3l h3;have h8:=Zg o.target;have h9:=ZQ (s:=o.name) (by omega);simp only [List.length_append];omega
theorem ZaF (q:Addr) (k:Int) (w:World) (h1:k≠1) (h2:k≠2) (h3:k≠3) (h4:k≠4):
  Calls Tryz.prog 160 #[.pointer (some q),.int .i64 k] w fun e w'=>e= .returned .nilIface∧Below w.heap.size w w':=by
 have hb0:Below w.heap.size w (w.alloc (.cells #[.pointer (some q)] 222)):=(bR _ _).alloc (lR _) _;have d1:(k==1)=false:=beq_eq_false_iff_ne.2 h1;have d2:(k==2)=false:=beq_eq_false_iff_ne.2 h2;have d3:(k==3)=false:=beq_eq_false_iff_ne.2 h3;have d4:(k==4)=false:=beq_eq_false_iff_ne.2 h4;clear h1 h2 h3 h4;go_in;go_wp2_with fail;go_ret;exact ⟨rfl,hb0⟩
def zcells:List Value:=[.int .i64 0,.slice none 0 0,.slice none 0 0,.string ⟨#[]⟩,.slice none 0 0,.string ⟨#[]⟩,.string ⟨#[]⟩,.string ⟨#[]⟩,.int .i64 0,.string ⟨#[]⟩]
theorem Z8d (A:OA) (x:UInt8) (l:LU) (n c:Nat) (w:World) (hn:n=l.length+1) (hr:Rd w w.heap.size 1 A n (bc (x::l))) (hc:n≤c) (hcm:c≤maxLen) (h1:x≠1) (h2:x≠2) (h3:x≠3) (h4:x≠4):
  Calls Tryz.prog 96 #[.slice A n c] w fun e w'=>e= .returned (.tuple #[.agg #[.int .i64 0,.slice none 0 0,.slice none 0 0,.string ⟨#[]⟩,.slice none 0 0,.string ⟨#[]⟩,.string ⟨#[]⟩,.string ⟨#[]⟩,.int .i64 0,.string ⟨#[]⟩],.int .i64 2])∧Below w.heap.size w w':=by
 have d0:((n:Int)==0)=false:=beq_eq_false_iff_ne.2 (by omega);have hn0:(0:Int)<(n:Int):=by omega
 obtain ⟨m,A',c',em,jm,jm',⟨rm,km,km'⟩,_,_,_,sm⟩:=Z0V (k:=1) (l:=x::l) (c:=c) 1 rfl (by rw [List.length_cons,←hn];exact hr) (by simp) (by simp;omega) hcm;rw [List.length_cons,←hn] at sm;obtain ⟨g,off,rfl,hg,hcell⟩:=hr.at_ (by omega);have hb1:Below w.heap.size w (w.alloc (.cells #[.int .i64 0,.slice none 0 0,.slice none 0 0,.string ⟨#[]⟩,.slice none 0 0,.string ⟨#[]⟩,.string ⟨#[]⟩,.string ⟨#[]⟩,.int .i64 0,.string ⟨#[]⟩] 40)):=(bR _ _).alloc (lR _) _;have hb2:=hb1.alloc hb1.size (.cells #[.slice A' m.length c',.int .i64 0] 224);have hB1:=Blk.new w 40 zcells;have hB2:=hB1.alloc (.cells #[.slice A' m.length c',.int .i64 0] 224);have hR2:=Blk.new (w.alloc (.cells #[.int .i64 0,.slice none 0 0,.slice none 0 0,.string ⟨#[]⟩,.slice none 0 0,.string ⟨#[]⟩,.string ⟨#[]⟩,.string ⟨#[]⟩,.int .i64 0,.string ⟨#[]⟩] 40)) 224 [.slice A' m.length c',.int .i64 0];have hx0:((w.alloc (.cells #[.int .i64 0,.slice none 0 0,.slice none 0 0,.string ⟨#[]⟩,.slice none 0 0,.string ⟨#[]⟩,.string ⟨#[]⟩,.string ⟨#[]⟩,.int .i64 0,.string ⟨#[]⟩] 40)).alloc (.cells #[.slice A' m.length c',.int .i64 0] 224)).cell? ⟨g,off,none⟩=some (.int .u8 x.toNat):=by
  have:=hcell 0 (.int .u8 x.toNat) rfl;rw [←this];exact hb2.cell (p:=⟨g,off,none⟩) hg
 have k1:((x.toNat:Nat):Int)≠1:=fun e=>h1 (UInt8.toNat_inj.1 (by rw [show (1:UInt8).toNat=1 from rfl];omega));have k2:((x.toNat:Nat):Int)≠2:=fun e=>h2 (UInt8.toNat_inj.1 (by rw [show (2:UInt8).toNat=2 from rfl];omega));have k3:((x.toNat:Nat):Int)≠3:=fun e=>h3 (UInt8.toNat_inj.1 (by rw [show (3:UInt8).toNat=3 from rfl];omega));have k4:((x.toNat:Nat):Int)≠4:=fun e=>h4 (UInt8.toNat_inj.1 (by rw [show (4:UInt8).toNat=4 from rfl];omega));have hxl:x.toNat<256:=x.toNat_lt;have hwx:IntKind.i64.wrap (x.toNat:Int)=(x.toNat:Int):=qJ _ (by omega);clear hr hcell h1 h2 h3 h4 jm jm' rm km km';have HN:=qI hn;clear hn;have K1:=qI k1;have K2:=qI k2;have K3:=qI k3;have K4:=qI k4;clear k1 k2 k3 k4;go_in;go_wp2_with ((go_at_call 160;refine (ZaF _ _ _ K1.out K2.out K3.out K4.out).mono ?_;rintro e w3 ⟨rfl,hb3⟩));refine (Zav w3).mono ?_;rintro e w4 ⟨rfl,hb4⟩;have hb34:=hb3.next hb4;have hR4:=hR2.below hb34 hR2.lt;have hB4:=hB2.below hb34 hB2.lt;have hO:=Blk.new w4 40 zcells;obtain ⟨z0,z1,z2,z3,z4,z5,z6,z7,z8,z9⟩:=Z2 hO;have hzc:Hid (Zb geS ⟨0,[],[],⟨#[]⟩,[],⟨#[]⟩,⟨#[]⟩,⟨#[]⟩,0,⟨#[]⟩⟩=false):=rfl;have hE:=Z5q 0 none [] 0 none [] 0 ⟨#[]⟩ none [] 0 ⟨#[]⟩ ⟨#[]⟩ ⟨#[]⟩ 0 ⟨#[]⟩ (w4.alloc (.cells zcells.toArray 40)) Rd.nil Rd.nil Rd.nil (by simp) (by simp) (by unfold Hid;simp) hzc;go_wp2_with fail;refine hE.mono ?_;rintro e w5 ⟨rfl,hb5⟩;have hb45:Below w4.heap.size w4 w5:=((bR _ _).alloc (lR _) _).next hb5;have hR5:=hR4.below hb45 hR4.lt;have hB5:=hB4.below hb45 hB4.lt;have e1:w5.cell? ⟨w.heap.size+1,1,none⟩=some (.int .i64 0):=by
  have:=hR5.cell 1;simpa using this
 clear hE;go_wp2_with ((refine Z3 (by rfl) _ (.tmp 2) (.tmp 43) rfl w.heap.size zcells rfl rfl 40 zcells hB5 (by kernel_rfl) rfl (by decide) ?_;intro w6 hB6 hg6));have hbe:Below w.heap.size w w5:=hb2.trans ((hb34.mono hb2.size).trans (hb45.mono (lT hb2.size hb34.size)));have hl:=Go.run_loadVar_row (P:=Tryz.prog) w6 w.heap.size 40 40 zcells.toArray (0,0) _ hB6 Tryz.underlying40 rfl (by kernel_rfl);refine bodyPost_ret (v:=.tuple #[.agg zcells.toArray,.int .i64 2]) ?_ rfl ⟨rfl,hbe.grown hg6 hbe.size (fun k hk=>by cases hk;exact lR _)⟩;simp [results,Tryz.results96,asAddr,hl]
end Go.Proofs.YtecpbcmpncgokaaGreat
