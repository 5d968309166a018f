/- Walks and laws. Conditions: as stated. -/
import Derived.Test.YtecpbcmpncgokaaGreatObjA
set_option maxRecDepth 99999
set_option maxHeartbeats 25600000
set_option linter.all false
open Go.Proofs.Tryz renaming prog->an
open Go.RowKit Go.Dol
namespace Go.Proofs.YtecpbcmpncgokaaGreat
def gT (u:Bool) (p:Prop):Prop:=u=true↔p
theorem fk (u) {p:Prop} (a:p):u=false\/u=true/\p:=by cases u<;>simp [a]
theorem ux (p:Prop): ∃u:Bool,gT u p:=by
 by_cases a:p
 ·exact ⟨true,by simp [gT,a]⟩
 exact ⟨false,by simp [gT,a]⟩
theorem jJ (x y:BA): ∃u:Bool,(x.toList==y.toList)=u/\(u=true↔x=y):=⟨_,rfl,fun a=>fh (beq_iff_eq.1 a),fun a=>uw a⟩
theorem Ed (A a c A2 b c2 w B) (e:Rd w B 3 A a.length (ec a)) (f:Rd w B 3 A2 b.length (ec b)) (ha:a.length<=kaa) (g:b.length<=kaa) {u} (h:gT u (a=b)):
  Calls an 227 #[.slice A a c,.slice A2 b c2] w fun d w'=>d= .returned (.bool u)/\ ∃n,w'=w.drewN n:=
 (Dw A a c A2 b c2 w B B e f ha g).mono fun d w' ⟨l,n,i,j,k⟩=>⟨by rw [i,Pm.2 (j.trans (show u=true↔a=b from h).symm)],n,k⟩
theorem Ee (A a c A2 b c2 w B) (e:Rd w B 1 A a.length (pc a)) (f:Rd w B 1 A2 b.length (pc b)) (ha:a.length<=kaa) (g:b.length<=kaa) {u} (h:gT u (a=b)):
  Calls an 228 #[.slice A a c,.slice A2 b c2] w fun d w'=>d= .returned (.bool u)/\ ∃n,w'=w.drewN n:=
 (Dt A a c A2 b c2 w B B e f ha g).mono fun d w' ⟨l,n,i,j,k⟩=>⟨by rw [i,Pm.2 (j.trans (show u=true↔a=b from h).symm)],n,k⟩
theorem lE (k Ad d cd Ae en ce tr Ap pa cp ta na wh st te k2 Ad2 d2 cd2 Ae2 en2 ce2 tr2 Ap2 pa2 cp2 ta2 na2 wh2 st2 te2 w) (n:Rd w w.heap.size 1 Ad d.length (bc d)) (o:Rd w w.heap.size 3 Ae en.length (ec en)) (p:Rd w w.heap.size 1 Ap pa.length (pc pa)) (F:en.length<=kaa) (G:pa.length<=kaa) (q:Rd w w.heap.size 1 Ad2 d2.length (bc d2)) (r:Rd w w.heap.size 3 Ae2 en2.length (ec en2)) (s:Rd w w.heap.size 1 Ap2 pa2.length (pc pa2)) (H:en2.length<=kaa) (I:pa2.length<=kaa):
  Calls an 158 #[.agg #[.int .i64 k,.slice Ad d cd,.slice Ae en ce,.string tr,.slice Ap pa cp,.string ta,.string na,.string wh,.int .i64 st,.string te],.agg #[.int .i64 k2,.slice Ad2 d2 cd2,.slice Ae2 en2 ce2,.string tr2,.slice Ap2 pa2 cp2,.string ta2,.string na2,.string wh2,.int .i64 st2,.string te2]] w (uv (k=k2/\d=d2/\en=en2/\tr=tr2/\pa=pa2/\ta=ta2/\na=na2/\wh=wh2/\st=st2/\te=te2) w):=by
 have a:Below w w ((w.alloc (.cells #[k,.slice Ad d cd,.slice Ae en ce,tr,.slice Ap pa cp,ta,na,wh,st,te] 40)).alloc (.cells #[k2,.slice Ad2 d2 cd2,.slice Ae2 en2 ce2,tr2,.slice Ap2 pa2 cp2,ta2,na2,wh2,st2,te2] 40)):=((bR _ _).alloc (lR _) _).alloc (by simp) _;have Y:(convert 36 9 (.slice Ad d cd)).run an ((w.alloc (.cells #[k,.slice Ad d cd,.slice Ae en ce,tr,.slice Ap pa cp,ta,na,wh,st,te] 40)).alloc (.cells #[k2,.slice Ad2 d2 cd2,.slice Ae2 en2 ce2,tr2,.slice Ap2 pa2 cp2,ta2,na2,wh2,st2,te2] 40))= .ok (.string ⟨d.toArray⟩) ((w.alloc (.cells #[k,.slice Ad d cd,.slice Ae en ce,tr,.slice Ap pa cp,ta,na,wh,st,te] 40)).alloc (.cells #[k2,.slice Ad2 d2 cd2,.slice Ae2 en2 ce2,tr2,.slice Ap2 pa2 cp2,ta2,na2,wh2,st2,te2] 40)):=bA (n.alive a);have Z:(convert 36 9 (.slice Ad2 d2 cd2)).run an ((w.alloc (.cells #[k,.slice Ad d cd,.slice Ae en ce,tr,.slice Ap pa cp,ta,na,wh,st,te] 40)).alloc (.cells #[k2,.slice Ad2 d2 cd2,.slice Ae2 en2 ce2,tr2,.slice Ap2 pa2 cp2,ta2,na2,wh2,st2,te2] 40))= .ok (.string ⟨d2.toArray⟩) ((w.alloc (.cells #[k,.slice Ad d cd,.slice Ae en ce,tr,.slice Ap pa cp,ta,na,wh,st,te] 40)).alloc (.cells #[k2,.slice Ad2 d2 cd2,.slice Ae2 en2 ce2,tr2,.slice Ap2 pa2 cp2,ta2,na2,wh2,st2,te2] 40)):=bA (q.alive a);have J:=o.below a;have K:=r.below a;have L:=p.below a;have M:=s.below a;obtain ⟨t,a0,i0⟩: ∃b,(k==k2)=b/\(b=true↔k=k2):=⟨_,rfl,beq_iff_eq⟩;obtain ⟨c,N,u⟩: ∃b,(d==d2)=b/\(b=true↔d=d2):=⟨_,rfl,beq_iff_eq⟩;obtain ⟨e,v⟩:=ux (en=en2);obtain ⟨f,O,x⟩:=jJ tr tr2;obtain ⟨g,y⟩:=ux (pa=pa2);obtain ⟨h,P,z⟩:=jJ ta ta2;obtain ⟨i,Q,A⟩:=jJ na na2;obtain ⟨j,R,B⟩:=jJ wh wh2;obtain ⟨l,S,C⟩: ∃b,(st==st2)=b/\(b=true↔st=st2):=⟨_,rfl,beq_iff_eq⟩;obtain ⟨m,T,D⟩:=jJ te te2;have U:gT (t&&(c&&(e&&(f&&(g&&(h&&(i&&(j&&(l&&m))))))))) (k=k2/\d=d2/\en=en2/\tr=tr2/\pa=pa2/\ta=ta2/\na=na2/\wh=wh2/\st=st2/\te=te2):=by
  unfold gT;rw [<-i0,<-u,<-(show e=true↔en=en2 from v),<-x,<-(show g=true↔pa=pa2 from y),<-z,<-A,<-B,<-C,<-D];simp only [m8]
 clear n q o r p s i0 u x z A B C D;obtain rfl | ⟨rfl,rfl | ⟨rfl,rfl | ⟨rfl,rfl | ⟨rfl,rfl | ⟨rfl,rfl | ⟨rfl,rfl | ⟨rfl,rfl | ⟨rfl,rfl | ⟨rfl,rfl | ⟨rfl,_⟩⟩⟩⟩⟩⟩⟩⟩⟩⟩:=fk t (fk c (fk e (fk f (fk g (fk h (fk i (fk j (fk l (fk m trivial)))))))))
 all_goals
  try (have:=c;clear this N)
  try (have:=f;clear this O)
  try (have:=h;clear this P)
  try (have:=i;clear this Q)
  try (have:=j;clear this R)
  try (have:=l;clear this S)
  try (have:=m;clear this T)
  go_in;go_wp2_with (first
   | (go_at_call 227;(with_reducible refine (Ed Ae en ce Ae2 en2 ce2 _ w J K F H v).mono ?_);rintro V b0 ⟨rfl,E,rfl⟩)
   | (go_at_call 228;have W:=L.drewN E;have X:=M.drewN E;(with_reducible refine (Ee Ap pa cp Ap2 pa2 cp2 _ w W X G I y).mono ?_);rintro V c0 ⟨rfl,d0,rfl⟩))
  go_ret;exact ⟨_,rfl,U,by first | exact a | exact a.drewN' _ | exact (a.drewN' _).drewN' _⟩
theorem Ef (w):(binOp .eql 151 .nilIface .nilIface).run an w= .ok (.bool true) w:=qkR
theorem Eg (T v w):(binOp .eql 151 (.iface T v) .nilIface).run an w= .ok (.bool false) w:=qkR
theorem Eh (xs w) : (method 461 215 (.agg xs) "dolmen/object.right").run an w = .ok (329, .agg xs) w := by kernel_rfl
theorem Ei (xs w) : (method 461 217 (.agg xs) "dolmen/object.right").run an w = .ok (332, .agg xs) w := by kernel_rfl
theorem Ej (xs w) : (method 461 219 (.agg xs) "dolmen/object.right").run an w = .ok (337, .agg xs) w := by kernel_rfl
theorem Ek (xs w) : (method 461 221 (.agg xs) "dolmen/object.right").run an w = .ok (340, .agg xs) w := by kernel_rfl
def gU (b:Bool):Int:=if b then 0 else 1
theorem El {a b} (c:a=true↔b=true):a=b:=Pm.2 c
theorem sz0 (s:BA):(s.size=0)↔(⟨#[]⟩=s):=⟨fun a=>(cV a).symm,fun a=>by subst a;rfl⟩
theorem ln0 {b:Type} (l:List b):(l.length=0)↔([]=l):=⟨fun a=>(nZ a).symm,fun a=>by subst a;rfl⟩
theorem st0 (k:Int):(k=0)↔(0=k):=⟨Eq.symm,Eq.symm⟩
section
variable (d:LU) (en:List Ent) (tr:BA) (pa:List BA) (ta na wh:BA) (st:Int) (te:BA)
theorem Em (h:decide (d.length<=kad)=true):ay geS ⟨1,d,en,tr,pa,ta,na,wh,st,te⟩=true↔((1:Int)=1/\d=d/\[]=en/\⟨#[]⟩=tr/\[]=pa/\⟨#[]⟩=ta/\⟨#[]⟩=na/\⟨#[]⟩=wh/\0=st/\⟨#[]⟩=te):=by
 unfold ay dr dp de ex;simp only [if_true,h,Bool.true_and,m8,decide_eq_true_eq,sz0,ln0,st0 st,true_and,and_assoc];exact z166
theorem En (h:cT geS en=true):ay geS ⟨2,d,en,tr,pa,ta,na,wh,st,te⟩=true↔((2:Int)=2/\[]=d/\en=en/\⟨#[]⟩=tr/\[]=pa/\⟨#[]⟩=ta/\⟨#[]⟩=na/\⟨#[]⟩=wh/\0=st/\⟨#[]⟩=te):=by
 unfold ay dq dp de ex;simp only [if_true,if_neg (show ¬(2:Int)=1 by decide),h,Bool.true_and,m8,decide_eq_true_eq,sz0,ln0,st0 st,true_and,and_assoc];exact z166
theorem Eo (a:(decide (tr.size=32)&&cU pa&&aG wh st te)=true):ay geS ⟨3,d,en,tr,pa,ta,na,wh,st,te⟩=true↔((3:Int)=3/\[]=d/\[]=en/\tr=tr/\pa=pa/\⟨#[]⟩=ta/\⟨#[]⟩=na/\wh=wh/\st=st/\te=te):=by
 unfold ay dq dr de;simp only [if_true,if_neg (show ¬(3:Int)=1 by decide),if_neg (show ¬(3:Int)=2 by decide),a,Bool.true_and,m8,decide_eq_true_eq,sz0,ln0,true_and,and_true,and_assoc]
theorem Ep (a:(decide (ta.size=32)&&decide (1<=na.size)&&decide (na.size<=200)&&aG wh st te)=true):ay geS ⟨4,d,en,tr,pa,ta,na,wh,st,te⟩=true↔((4:Int)=4/\[]=d/\[]=en/\⟨#[]⟩=tr/\[]=pa/\ta=ta/\na=na/\wh=wh/\st=st/\te=te):=by
 unfold ay dq dr dp;simp only [if_true,if_neg (show ¬(4:Int)=1 by decide),if_neg (show ¬(4:Int)=2 by decide),if_neg (show ¬(4:Int)=3 by decide),a,Bool.true_and,m8,decide_eq_true_eq,sz0,ln0,true_and,and_true,and_assoc]
end
theorem Er (Ad) (d:LU) (cd v w) (b:Hid (decide (d.length<=kad)=v)):Calls an 329 #[.agg #[.slice Ad d cd]] w fun a w'=>a= .returned (.bool v)/\Below w.heap.size w w':=
 (Dx Ad d cd w).mono fun a w' ⟨c,e⟩=>⟨by rw [c,b],e⟩
theorem Es (Ae en ce v w) (b:Rd w w.heap.size 3 Ae en.length (ec en)) (c:en.length<=kaa) (d:Hid (cT geS en=v)):Calls an 332 #[.agg #[.slice Ae en.length ce]] w fun a w'=>a= .returned (.bool v)/\Below w.heap.size w w':=
 (Dz Ae en ce w b c).mono fun a w' ⟨e,f⟩=>⟨by rw [e,d],f⟩
theorem Et (tr Ap pa cp wh st te v w) (b:Rd w w.heap.size 1 Ap pa.length (pc pa)) (c:pa.length<=kaa) (d:Hid (∀p∈pa,p.size<=maxLen)) (e:Hid ((decide (tr.size=32)&&cU pa&&aG wh st te)=v)):Calls an 337 #[.agg #[.string tr,.slice Ap pa.length cp,.string wh,.int .i64 st,.string te]] w fun a w'=>a= .returned (.bool v)/\Below w.heap.size w w':=
 (DE tr Ap pa cp wh st te w b c d).mono fun a w' ⟨f,g⟩=>⟨by rw [f,e],g⟩
theorem Eu (ta na wh st te v w) (b:Hid ((decide (ta.size=32)&&decide (1<=na.size)&&decide (na.size<=200)&&aG wh st te)=v)):Calls an 340 #[.agg #[.string ta,.string na,.string wh,.int .i64 st,.string te]] w fun a w'=>a= .returned (.bool v)/\Below w.heap.size w w':=
 (DC ta na wh st te w).mono fun a w' ⟨c,d⟩=>⟨by rw [c,b],d⟩
theorem lF (k Ad d cd Ae en ce tr Ap pa cp ta na wh st te w) (H:Rd w w.heap.size 1 Ad d.length (bc d)) (I:Rd w w.heap.size 3 Ae en.length (ec en)) (J:Rd w w.heap.size 1 Ap pa.length (pc pa)) (U:en.length≤kaa) (W:pa.length≤kaa) {T f V C} {M:Value} {i:Array Value}
  (m: ∀b,Calls an 95 #[.agg #[.int .i64 k,.slice Ad d cd,.slice Ae en ce,.string tr,.slice Ap pa cp,.string ta,.string na,.string wh,.int .i64 st,.string te]] b fun c w'=>c= .returned (.iface T (.agg i))∧Below b.heap.size b w')
  (X: ∀a b,(callFunc f a).run an b= .ok (.enter f a) b)
  (Y : ∀ b, (method 461 T (.agg i) "dolmen/object.right").run an b = .ok (f, .agg i) b)
  (n: ∀b,Rd b b.heap.size 1 Ad d (bc d)→Rd b b.heap.size 3 Ae en (ec en)→Rd b b.heap.size 1 Ap pa (pc pa)→Calls an f #[.agg i] b fun c w'=>c= .returned (.bool V)∧Below b.heap.size b w')
  (t: ∀b,Calls an 159 #[.iface T (.agg i)] b fun c w'=>c= .returned M∧Below b.heap.size b w')
  (u: ∀b,Rd b b.heap.size 1 Ad d (bc d)→Rd b b.heap.size 3 Ae en (ec en)→Rd b b.heap.size 1 Ap pa (pc pa)→Calls an 158 #[M,.agg #[.int .i64 k,.slice Ad d cd,.slice Ae en ce,.string tr,.slice Ap pa cp,.string ta,.string na,.string wh,.int .i64 st,.string te]] b (uv C b))
  (o:V=true→(ay geS ⟨k,d,en,tr,pa,ta,na,wh,st,te⟩=true↔C)) (hN:V=false→ay geS ⟨k,d,en,tr,pa,ta,na,wh,st,te⟩=false):
  Calls an 94 #[.agg #[k,.slice Ad d cd,.slice Ae en ce,tr,.slice Ap pa cp,ta,na,wh,st,te]] w fun c w'=>c= .returned (.int .i64 (gU (ay geS ⟨k,d,en,tr,pa,ta,na,wh,st,te⟩)))∧Below w w w':=by
 have Z:=Eg;have v:=bAl w (.cells #[k,.slice Ad d cd,.slice Ae en ce,tr,.slice Ap pa cp,ta,na,wh,st,te] 40);have x:=o9 w 40 [k,.slice Ad d cd,.slice Ae en ce,tr,.slice Ap pa cp,ta,na,wh,st,te];go_in;go_wp2_with ((go_at_call 95;refine (m _).mono ?_;rintro c h ⟨rfl,p⟩));have K:=x.below p x.lt;have q:=K.drew;have e:=v.next p;have y:Rd h.drew h.drew.heap.size 3 Ae en (ec en):=((I.below e).more e.size).drew;have z:Rd h.drew h.drew.heap.size 1 Ap pa (pc pa):=((J.below e).more e.size).drew;have A:Rd h.drew h.drew.heap.size 1 Ad d (bc d):=((H.below e).more e.size).drew;have B:=qI (n _ A y z);cases V with
 | false=>
  have j:=qI (hN rfl);clear hN o n u m t
  first | (go_region_with (((with_reducible refine B.out.mono ?_); rintro c L ⟨rfl, l⟩))) | fail "with"
  all_goals go_wp2_with fail
  all_goals go_ret
  all_goals rw [j]
  all_goals exact ⟨rfl,(v.next p).next ((bR _ _).drew.trans l)⟩
 | true=>
 have N:=qI (o rfl);clear hN o n m;go_region_held3 (fun w'=>w'.cell? w=some (.int .i64 k)∧w'.cell? ⟨w.heap.size,1,none⟩=some (.slice Ad d cd)∧w'.cell? ⟨w.heap.size,2,none⟩=some (.slice Ae en ce)∧w'.cell? ⟨w.heap.size,3,none⟩=some (.string tr)∧w'.cell? ⟨w.heap.size,4,none⟩=some (.slice Ap pa cp)∧w'.cell? ⟨w.heap.size,5,none⟩=some (.string ta)∧w'.cell? ⟨w.heap.size,6,none⟩=some (.string na)∧w'.cell? ⟨w.heap.size,7,none⟩=some (.string wh)∧w'.cell? ⟨w.heap.size,8,none⟩=some (.int .i64 st)∧w'.cell? ⟨w.heap.size,9,none⟩=some (.string te)) (first | exact bg q | exact bg r | exact bg s | exact bg O | go_keep) ((first
  | ((with_reducible refine B.out.mono ?_);rintro c L ⟨rfl,l⟩;have r:=q.below l q.lt)
  | (go_at_call 159;(with_reducible refine (t _).mono ?_);rintro c a0 ⟨rfl,D⟩;have s:=r.below D r.lt;have g:=l.next D;have P:=(y.below g).more g.size;have Q:=(z.below g).more g.size;have R:=(A.below g).more g.size)
  | (go_at_call 158;(with_reducible refine (u _ R P Q).mono ?_);rintro c b0 ⟨S,rfl,E,F⟩;have j:=qI (El (N.out.trans E.symm));clear E;have O:=s.below F s.lt)))
 have G:=e.trans ((bR _ _).drew.trans (((g.next F).mono e.size)));cases S with
 | true=>
  go_wp2_with fail;go_ret;rw [j];exact ⟨rfl,G⟩
 | false=>
 go_wp2_with fail;go_ret;rw [j];exact ⟨rfl,G⟩
theorem Ev (k Ad d cd Ae en ce tr Ap pa cp ta na wh st te w) (j:Rd w w.heap.size 1 Ad d.length (bc d)) (l:Rd w w.heap.size 3 Ae en.length (ec en)) (m:Rd w w.heap.size 1 Ap pa.length (pc pa)) (n:en.length≤kaa) (o:pa.length≤kaa) (b:k≠1) (c:k≠2) (e:k≠3) (f:k≠4):
  Calls an 94 #[.agg #[.int .i64 k,.slice Ad d cd,.slice Ae en ce,.string tr,.slice Ap pa cp,.string ta,.string na,.string wh,.int .i64 st,.string te]] w fun a w'=>a= .returned (.int .i64 1)∧Below w w w':=by
 have p:=Ef;have g:=bAl w (.cells #[k,.slice Ad d cd,.slice Ae en ce,tr,.slice Ap pa cp,ta,na,wh,st,te] 40);go_in;go_wp2_with ((go_at_call 95;refine (DM Ad d cd Ae en ce tr Ap pa cp ta na wh st te _ k b c e f).mono ?_;rintro a q ⟨rfl,h⟩));have i:=g.next h
 first | (go_region_with ((fail))) | fail "with"
 all_goals go_wp2_with fail
 all_goals go_ret
 all_goals exact ⟨rfl,i.drew⟩
theorem uy (k Ad d cd Ae en ce tr Ap pa cp ta na wh st te w) (i:Rd w w.heap.size 1 Ad d.length (bc d)) (j:Rd w w.heap.size 3 Ae en.length (ec en)) (l:Rd w w.heap.size 1 Ap pa.length (pc pa)) (b:en.length<=kaa) (c:pa.length<=kaa) (s:Hid (∀p∈pa,p.size<=maxLen)):
  Calls an 94 #[.agg #[.int .i64 k,.slice Ad d cd,.slice Ae en ce,.string tr,.slice Ap pa cp,.string ta,.string na,.string wh,.int .i64 st,.string te]] w fun r w'=>r= .returned (.int .i64 (gU (ay geS ⟨k,d,en,tr,pa,ta,na,wh,st,te⟩)))/\Below w w w':=by
 by_cases m:k=1
 ·subst m;exact lF 1 Ad d cd Ae en ce tr Ap pa cp ta na wh st te w i j l b c (um Ad d cd Ae en ce tr Ap pa cp ta na wh st te) (enters_of Tryz.func329 qkR rfl) (Eh _) (fun a _ _ _=>Er Ad d cd _ a rfl) (ur Ad d cd Ae en ce tr Ap pa cp ta na wh st te) (fun a h e f=>lE 1 Ad d cd none [] 0 eS none [] 0 eS eS eS 0 eS 1 Ad d cd Ae en ce tr Ap pa cp ta na wh st te a h L8 L8 (by simp) (by simp) h e f b c) (Em d en tr pa ta na wh st te) fun g=>by unfold ay;rw [if_pos (by rfl),g];rfl
 by_cases n:k=2
 ·subst n;exact lF 2 Ad d cd Ae en ce tr Ap pa cp ta na wh st te w i j l b c (un Ad d cd Ae en ce tr Ap pa cp ta na wh st te) (enters_of Tryz.func332 qkR rfl) (Ei _) (fun a _ e _=>Es Ae en ce _ a e b rfl) (us Ad d cd Ae en ce tr Ap pa cp ta na wh st te) (fun a h e f=>lE 2 none [] 0 Ae en ce eS none [] 0 eS eS eS 0 eS 2 Ad d cd Ae en ce tr Ap pa cp ta na wh st te a L8 e L8 b (by simp) h e f b c) (En d en tr pa ta na wh st te) fun g=>by unfold ay;rw [if_neg (show ¬(2:Int)=1 by decide),if_pos (by rfl),g];rfl
 by_cases o:k=3
 ·subst o;exact lF 3 Ad d cd Ae en ce tr Ap pa cp ta na wh st te w i j l b c (uo Ad d cd Ae en ce tr Ap pa cp ta na wh st te) (enters_of Tryz.func337 qkR rfl) (Ej _) (fun a _ _ f=>Et tr Ap pa cp wh st te _ a f c s rfl) (ut Ad d cd Ae en ce tr Ap pa cp ta na wh st te) (fun a h e f=>lE 3 none [] 0 none [] 0 tr Ap pa cp eS eS wh st te 3 Ad d cd Ae en ce tr Ap pa cp ta na wh st te a L8 L8 f (by simp) c h e f b c) (Eo d en tr pa ta na wh st te) fun g=>by unfold ay;rw [if_neg (show ¬(3:Int)=1 by decide),if_neg (show ¬(3:Int)=2 by decide),if_pos (by rfl),g];rfl
 by_cases q:k=4
 ·subst q;exact lF 4 Ad d cd Ae en ce tr Ap pa cp ta na wh st te w i j l b c (uq Ad d cd Ae en ce tr Ap pa cp ta na wh st te) (enters_of Tryz.func340 qkR rfl) (Ek _) (fun a _ _ _=>Eu ta na wh st te _ a rfl) (uu Ad d cd Ae en ce tr Ap pa cp ta na wh st te) (fun a h e f=>lE 4 none [] 0 none [] 0 eS none [] 0 ta na wh st te 4 Ad d cd Ae en ce tr Ap pa cp ta na wh st te a L8 L8 L8 (by simp) (by simp) h e f b c) (Ep d en tr pa ta na wh st te) fun g=>by unfold ay;rw [if_neg (show ¬(4:Int)=1 by decide),if_neg (show ¬(4:Int)=2 by decide),if_neg (show ¬(4:Int)=3 by decide),if_pos (by rfl),g];rfl
 exact (Ev k Ad d cd Ae en ce tr Ap pa cp ta na wh st te w i j l b c m n o q).mono fun r w' g=>⟨by rw [g.1];unfold ay;rw [if_neg m,if_neg n,if_neg o,if_neg q];rfl,g.2⟩
theorem Ew (xs w) : (method 461 215 (.agg xs) "dolmen/object.lay").run an w = .ok (327, .agg xs) w := by kernel_rfl
theorem Ex (xs w) : (method 461 217 (.agg xs) "dolmen/object.lay").run an w = .ok (330, .agg xs) w := by kernel_rfl
theorem Ey (xs w) : (method 461 219 (.agg xs) "dolmen/object.lay").run an w = .ok (335, .agg xs) w := by kernel_rfl
theorem Ez (xs w) : (method 461 221 (.agg xs) "dolmen/object.lay").run an w = .ok (338, .agg xs) w := by kernel_rfl
def RetEnc (w:World) (a:Go.Dol.Obj) (b:Ending) (w':World):Prop:=
 Below w w w'/\((ay geS a=true/\ ∃(l:LU) (c:OA) (d:Nat),Hid (l=ct a)/\b= .returned (.tuple #[.slice c l d,i0])/\w'.ownsRow w 5 1 (.slice c l d) l (bc l))\/
  (ay geS a=false/\b= .returned (.tuple #[eL,.int .i64 1])))
theorem lG {a:Type} (f:a->LU) (b): ∀(l:List a),(∀x∈l,(f x).length<=b)->(l.flatMap f).length<=l*b
 | [],_=>by simp
 | x::l,c=>by
  have g:=lG f b l fun d e=>c d (k8 _ e);have h:=c x (j8 ..);rw [List.flatMap_cons,b7,List.length_cons,Pc];omega
theorem oP {l} (b:cT geS l=true):(l.flatMap aY).length<=4299000000:=by
 have f:=lG aY 1048700 l fun a c=>by
  have d:=tV (gm b).1 a c;have g:=dX (s:=a.name) qO;have e:=aC a.id;unfold aY;rw [b7,List.length_cons,e];omega
 have d:=(gm b).2;omega
theorem lH {l} (b:cU l=true):(bG l).length<=128:=by
 have e:=lG (fun a:BA=>a.data.toList) 32 l fun a c=>by
  have d:=tX (iA b).1 a c;have f:=aC a;omega
 have d:=(iA b).2;unfold bG;omega
theorem lI {o} (b:o.kind=1) (a:ay geS o=true):o.data.length<=1048576:=by
 unfold ay at a;rw [if_pos b,m8] at a;exact of_decide_eq_true a.1
theorem iD {o} (b:o.kind=2) (a:ay geS o=true):cT geS o.ents=true:=by
 unfold ay at a;rw [if_neg qO,if_pos b,m8] at a;exact a.1
theorem lJ {o} (b:o.kind=3) (a:ay geS o=true):o.tree.size=32/\cU o.pars=true/\aG o.who o.stamp o.text=true:=by
 unfold ay at a;rw [if_neg qO,if_neg qO,if_pos b] at a;simp only [m8,decide_eq_true_eq] at a;exact ⟨a.1.1.1,a.1.1.2,a.1.2⟩
theorem oQ {o} (b:o.kind=4) (a:ay geS o=true):o.target.size=32/\o.name.size<=200/\aG o.who o.stamp o.text=true:=by
 unfold ay at a;rw [if_neg qO,if_neg qO,if_neg qO,if_pos b] at a;simp only [m8,decide_eq_true_eq] at a;exact ⟨a.1.1.1.1,a.1.1.2,a.1.2⟩
theorem jK {o} (a:ay geS o=true):o.kind=1\/o.kind=2\/o.kind=3\/o.kind=4:=by
 unfold ay at a;by_cases b:o.kind=1
 ·exact .inl b
 by_cases c:o.kind=2
 ·exact .inr (.inl c)
 by_cases d:o.kind=3
 ·exact .inr (.inr (.inl d))
 by_cases e:o.kind=4
 ·exact .inr (.inr (.inr e))
 rw [if_neg b,if_neg c,if_neg d,if_neg e] at a;cases a
theorem EA (Ad) (d:LU) (cd) (g:OA) (en) (h:Nat) (tr) (i:OA) (pa) (j:Nat) (ta na wh st te base A u) (a:base<=u.heap.size) (b:u.ownsRow base 5 1 (.slice A 1 1) 1 (bc [1])) (c:Rd u base 1 Ad d.length (bc d)) (e:Hid (ay geS ⟨1,d,en,tr,pa,ta,na,wh,st,te⟩=true)):
  Calls an 327 #[.agg #[.slice Ad d cd],.slice A 1 1] u (fj base u (ct ⟨1,d,en,tr,pa,ta,na,wh,st,te⟩)):=by
 have f:=lI rfl e.out;exact DF base Ad d cd A [1] 1 u b (c.more a) (by show 1+d.length<=_;have k:d.length<=kad:=f;omega) a
theorem EB (h:OA) (d:LU) (i:Nat) (Ae en ce tr) (j:OA) (pa) (k:Nat) (ta na wh st te base A u) (a:base<=u.heap.size) (b:u.ownsRow base 5 1 (.slice A 1 1) 1 (bc [2])) (c:Rd u base 3 Ae en.length (ec en)) (e:en.length<=kaa) (f:Hid (ay geS ⟨2,d,en,tr,pa,ta,na,wh,st,te⟩=true)):
  Calls an 330 #[.agg #[.slice Ae en ce],.slice A 1 1] u (fj base u (ct ⟨2,d,en,tr,pa,ta,na,wh,st,te⟩)):=by
 have g:=oP (iD rfl f.out);exact DL base Ae en ce A [2] 1 u (d8 b) c e (by show 1+1000+_<=_;have l:(en.flatMap aY).length<=4299000000:=g;omega) a
theorem EC (l:OA) (d:LU) (m:Nat) (n:OA) (en) (o:Nat) (tr Ap pa cp ta na wh st te base A u) (b:base<=u.heap.size) (c:u.ownsRow base 5 1 (.slice A 1 1) 1 (bc [3])) (e:Rd u base 1 Ap pa.length (pc pa)) (f:pa.length<=kaa) (g:Hid (ay geS ⟨3,d,en,tr,pa,ta,na,wh,st,te⟩=true)):
  Calls an 335 #[.agg #[.string tr,.slice Ap pa cp,.string wh,.int .i64 st,.string te],.slice A 1 1] u (fj base u (ct ⟨3,d,en,tr,pa,ta,na,wh,st,te⟩)):=by
 obtain ⟨h,i,j⟩:=lJ rfl g.out;have k:=lH i;have a:=iy j;exact DJ base tr Ap pa cp wh st te A [3] 1 u c e f (by show 1+tr.size+(bG pa).length+3000+wh.size+te.size<=_;have p:tr.size=32:=h;have q:(bG pa).length<=128:=k;have r:wh.size<=1000:=a.1;have s:te.size<=1000:=a.2.1;omega) b
theorem ED (i:OA) (d:LU) (j:Nat) (k:OA) (en) (l:Nat) (tr) (m:OA) (pa) (n:Nat) (ta na wh st te base A u) (b:base<=u.heap.size) (c:u.ownsRow base 5 1 (.slice A 1 1) 1 (bc [4])) (e:Hid (ay geS ⟨4,d,en,tr,pa,ta,na,wh,st,te⟩=true)):
  Calls an 338 #[.agg #[.string ta,.string na,.string wh,.int .i64 st,.string te],.slice A 1 1] u (fj base u (ct ⟨4,d,en,tr,pa,ta,na,wh,st,te⟩)):=by
 obtain ⟨f,g,h⟩:=oQ rfl e.out;have a:=iy h;exact DG base ta na wh st te A [4] 1 u c (by show 1+ta.size+na.size+2000+wh.size+te.size<=_;have o:ta.size=32:=f;have p:na.size<=200:=g;have q:wh.size<=1000:=a.1;have r:te.size<=1000:=a.2.1;omega) b
theorem EE (k Ad d cd Ae en ce tr Ap pa cp ta na wh st te w) (c:Rd w w.heap.size 1 Ad d.length (bc d)) (e:Rd w w.heap.size 3 Ae en.length (ec en)) (f:Rd w w.heap.size 1 Ap pa.length (pc pa)) (g:en.length<=kaa) (h:pa.length<=kaa) (i:Hid (∀p∈pa,p.size<=maxLen)) (j:Hid (ay geS ⟨k,d,en,tr,pa,ta,na,wh,st,te⟩=false)):
  Calls an 37 #[.agg #[.int .i64 k,.slice Ad d cd,.slice Ae en ce,.string tr,.slice Ap pa cp,.string ta,.string na,.string wh,.int .i64 st,.string te]] w fun b w'=>b= .returned (.tuple #[eL,.int .i64 1])/\Below w w w':=by
 have a:=bAl w (.cells #[k,.slice Ad d cd,.slice Ae en ce,tr,.slice Ap pa cp,ta,na,wh,st,te] 40);have l:=o9 w 40 [k,.slice Ad d cd,.slice Ae en ce,tr,.slice Ap pa cp,ta,na,wh,st,te];obtain ⟨s,t,u,v,x,y,z,A,B,C⟩:=bg l;have m:=c.alive a;have n:=e.alive a;have o:=f.alive a;have q:Hid (gU (ay geS ⟨k,d,en,tr,pa,ta,na,wh,st,te⟩)=1):=qI (by rw [j.out];rfl);go_in;go_wp2_with (go_at_call 94;(with_reducible refine (uy k Ad d cd Ae en ce tr Ap pa cp ta na wh st te _ m n o g h i).mono ?_);rintro b D ⟨rfl,r⟩;rw [q.out]);go_ret2;exact ⟨rfl,a.next r⟩
theorem lK (k Ad d cd Ae en ce tr Ap pa cp ta na wh st te w) (q:Rd w w.heap.size 1 Ad d.length (bc d)) (r:Rd w w.heap.size 3 Ae en.length (ec en)) (s:Rd w w.heap.size 1 Ap pa.length (pc pa)) (G:en.length≤kaa) (H:pa.length≤kaa) (I:Hid (∀p∈pa,p.size≤maxLen)) {T f} {i:Array Value} (Z:IntKind.u8.wrap k=k)
  (J: ∀c,Calls an 95 #[.agg #[.int .i64 k,.slice Ad d cd,.slice Ae en ce,.string tr,.slice Ap pa cp,.string ta,.string na,.string wh,.int .i64 st,.string te]] c fun j w'=>j= .returned (.iface T (.agg i))∧Below c.heap.size c w')
  (a0: ∀a c,(callFunc f a).run an c= .ok (.enter f a) c)
  (b0 : ∀ c, (method 461 T (.agg i) "dolmen/object.lay").run an c = .ok (f, .agg i) c)
  (K: ∀base A u,base≤u.heap.size→u.ownsRow base 5 1 (.slice A 1 1) 1 [.int .u8 k]→Rd u base 1 Ad d (bc d)→Rd u base 3 Ae en (ec en)→Rd u base 1 Ap pa (pc pa)→Calls an f #[.agg i,.slice A 1 1] u (fj base u (ct ⟨k,d,en,tr,pa,ta,na,wh,st,te⟩)))
  (t:Hid (ay geS ⟨k,d,en,tr,pa,ta,na,wh,st,te⟩=true)):
  Calls an 37 #[.agg #[.int .i64 k,.slice Ad d cd,.slice Ae en ce,.string tr,.slice Ap pa cp,.string ta,.string na,.string wh,.int .i64 st,.string te]] w (RetEnc w ⟨k,d,en,tr,pa,ta,na,wh,st,te⟩):=by
 have l:=bAl w (.cells #[k,.slice Ad d cd,.slice Ae en ce,tr,.slice Ap pa cp,ta,na,wh,st,te] 40);have m:=o9 w 40 [k,.slice Ad d cd,.slice Ae en ce,tr,.slice Ap pa cp,ta,na,wh,st,te];obtain ⟨c0,d0,e0,f0,g0,h0,i0,j0,k0,l0⟩:=bg m;have L:=q.alive l;have M:=r.alive l;have N:=s.alive l;have O:Hid (gU (ay geS ⟨k,d,en,tr,pa,ta,na,wh,st,te⟩)=0):=qI (by rw [t.out];rfl);go_in;go_wp2_with (go_at_call 94;(with_reducible refine (uy k Ad d cd Ae en ce tr Ap pa cp ta na wh st te _ L M N G H I).mono ?_);rintro j e ⟨rfl,v⟩;rw [O.out]);have P:=m.below v m.lt;have Q:=l.next v;have h:=P.drew;have g:=Q.drew;have x:=q.alive g;have y:=r.alive g;have z:=s.alive g;have B:=h.lt;have R:=bAl e.drew (.cells #[.int .u8 k] 5);go_region_held3 (fun w'=>w'.cell? w=some (.int .i64 k)∧w'.cell? ⟨w.heap.size,1,none⟩=some (.slice Ad d cd)∧w'.cell? ⟨w.heap.size,2,none⟩=some (.slice Ae en ce)∧w'.cell? ⟨w.heap.size,3,none⟩=some (.string tr)∧w'.cell? ⟨w.heap.size,4,none⟩=some (.slice Ap pa cp)∧w'.cell? ⟨w.heap.size,5,none⟩=some (.string ta)∧w'.cell? ⟨w.heap.size,6,none⟩=some (.string na)∧w'.cell? ⟨w.heap.size,7,none⟩=some (.string wh)∧w'.cell? ⟨w.heap.size,8,none⟩=some (.int .i64 st)∧w'.cell? ⟨w.heap.size,9,none⟩=some (.string te)) (first | exact bg h | exact bg C | exact bg S | exact bg (h.alloc _) | exact bg (C.alloc _) | go_keep) ((first
  | (go_at_call 95;(with_reducible refine (J _).mono ?_);rintro j n ⟨rfl,o⟩;
        have b:Below e.drew.heap.size e.drew n:=(by first | exact o | exact R.next o);
        have C:Blk n w 40 [k,.slice Ad d cd,.slice Ae en ce,tr,.slice Ap pa cp,ta,na,wh,st,te]:=h.below b B)
  | ((with_reducible refine (K e.drew.heap.size _ _ ?_ ?_ ?_ ?_ ?_).mono ?_);
        (first
     | exact (b.alloc b.size _).size
     | exact b.size);
        (first
     | exact N6 n #[.int .u8 k] 1 b.size (by decide) rfl
     | exact az (N6 e.drew #[.int .u8 k] 1 (lR _) (by decide) rfl) o);
        (first
     | exact x.below (b.alloc b.size _)
     | exact x.below b);
        (first
     | exact y.below (b.alloc b.size _)
     | exact y.below b);
        (first
     | exact z.below (b.alloc b.size _)
     | exact z.below b);
        rintro j D ⟨U,A,V,W,rfl,X,E,m0,n0⟩;have F:Below e.drew.heap.size e.drew D:=(by first | exact (b.alloc b.size _).trans E | exact b.trans E);
        have S:Blk D w 40 [k,.slice Ad d cd,.slice Ae en ce,tr,.slice Ap pa cp,ta,na,wh,st,te]:=h.below F B)))
 all_goals have Y:=g.trans (F.mono g.size)
 all_goals go_wp2_with fail
 all_goals go_ret2
 all_goals exact ⟨Y,.inl ⟨t.out,U,A,V,W,rfl,X.base g.size⟩⟩
theorem oR (k Ad d cd Ae en ce tr Ap pa cp ta na wh st te w) (m:Rd w w.heap.size 1 Ad d.length (bc d)) (n:Rd w w.heap.size 3 Ae en.length (ec en)) (o:Rd w w.heap.size 1 Ap pa.length (pc pa)) (j:en.length<=kaa) (l:pa.length<=kaa) (q:Hid (∀p∈pa,p.size<=maxLen)):
  Calls an 37 #[.agg #[.int .i64 k,.slice Ad d cd,.slice Ae en ce,.string tr,.slice Ap pa cp,.string ta,.string na,.string wh,.int .i64 st,.string te]] w (RetEnc w ⟨k,d,en,tr,pa,ta,na,wh,st,te⟩):=by
 cases a:ay geS ⟨k,d,en,tr,pa,ta,na,wh,st,te⟩ with
 | false=>exact (EE k Ad d cd Ae en ce tr Ap pa cp ta na wh st te w m n o j l q (qI a)).mono fun u v b=>⟨b.2,.inr ⟨a,b.1⟩⟩
 | true=>
 obtain c | c | c | c:=jK a
 ·have e:k=1:=c;subst e;exact lK 1 Ad d cd Ae en ce tr Ap pa cp ta na wh st te w m n o j l q rfl (um Ad d cd Ae en ce tr Ap pa cp ta na wh st te) (enters_of Tryz.func327 qkR rfl) (Ew _) (fun f g h b i r _ _=>EA Ad d cd Ae en ce tr Ap pa cp ta na wh st te f g h b i r (qI a)) (qI a)
 ·have e:k=2:=c;subst e;exact lK 2 Ad d cd Ae en ce tr Ap pa cp ta na wh st te w m n o j l q rfl (un Ad d cd Ae en ce tr Ap pa cp ta na wh st te) (enters_of Tryz.func330 qkR rfl) (Ex _) (fun f g h b i _ s _=>EB Ad d cd Ae en ce tr Ap pa cp ta na wh st te f g h b i s j (qI a)) (qI a)
 ·have e:k=3:=c;subst e;exact lK 3 Ad d cd Ae en ce tr Ap pa cp ta na wh st te w m n o j l q rfl (uo Ad d cd Ae en ce tr Ap pa cp ta na wh st te) (enters_of Tryz.func335 qkR rfl) (Ey _) (fun f g h b i _ _ t=>EC Ad d cd Ae en ce tr Ap pa cp ta na wh st te f g h b i t l (qI a)) (qI a)
 have e:k=4:=c;subst e;exact lK 4 Ad d cd Ae en ce tr Ap pa cp ta na wh st te w m n o j l q rfl (uq Ad d cd Ae en ce tr Ap pa cp ta na wh st te) (enters_of Tryz.func338 qkR rfl) (Ez _) (fun f g h b i _ _ _=>ED Ad d cd Ae en ce tr Ap pa cp ta na wh st te f g h b i (qI a)) (qI a)
theorem uz {o} (a:aG o.who o.stamp o.text=true):(gk o).length<=3000:=by
 obtain ⟨b,c,d,e⟩:=iy a;have f:=dX (s:=o.who) qO;have g:=dX (s:=o.text) qO;have h:=aJ 8 (aj o.stamp) (by have:=eE o.stamp;unfold av at this;omega);unfold gk;simp only [b7];omega
theorem EF {o} (h:ay geS o=true):(ct o).length<=5000000000:=by
 unfold ct;rw [List.length_cons];rcases jK h with e | e | e | e
 ·rw [if_pos e];have:=lI e h;omega
 ·rw [if_neg qO,if_pos e];have h1:=oP (iD e h);have h2:=(gm (iD e h)).2;have h3:=aJ 8 o.ents qO;unfold fg;rw [b7];omega
 ·rw [if_neg qO,if_neg qO,if_pos e];obtain ⟨h1,h2,h3⟩:=lJ e h;have h4:=lH h2;have a:=(iA h2).2;have b:=aJ 8 o.pars qO;exact z280
 exact z253
theorem EG (q k w) (a:k≠1) (b:k≠2) (c:k≠3) (d:k≠4):
  Calls an 160 #[.pointer (some q),.int .i64 k] w fun e w'=>e= .returned .nilIface/\Below w.heap.size w w':=by
 have f:=bAl w (.cells #[.pointer (some q)] 222);have g:=beq_eq_false_iff_ne.2 a;have h:=beq_eq_false_iff_ne.2 b;have i:=beq_eq_false_iff_ne.2 c;have j:=beq_eq_false_iff_ne.2 d;clear a b c d;go_in;go_wp2_with fail;go_ret;exact ⟨rfl,f⟩
def zcells:List Value:=[.int .i64 0,.slice none 0 0,.slice none 0 0,.string eS,.slice none 0 0,.string eS,.string eS,.string eS,.int .i64 0,.string eS]
def JT (n:Nat) (w:World) (i:Value) (wr:World):Prop:=∃ a b:Nat,i= .int .i64 a/\a<=n/\Hid (wr=w.drewN b)
theorem JU (k Ad d cd Ae en ce tr Ap pa cp ta na wh st te Ad2 cd2 Ae2 ce2 Ap2 cp2 w) (H:Rd w w.heap.size 1 Ad d.length (bc d)) (I:Rd w w.heap.size 3 Ae en.length (ec en)) (J:Rd w w.heap.size 1 Ap pa.length (pc pa)) (E0:en.length<=kaa) (K:pa.length<=kaa) (L:Rd w w.heap.size 1 Ad2 d.length (bc d)) (M:Rd w w.heap.size 3 Ae2 en.length (ec en)) (N:Rd w w.heap.size 1 Ap2 pa.length (pc pa)):
  Calls an 63 #[.agg #[.int .i64 k,.slice Ad d cd,.slice Ae en ce,.string tr,.slice Ap pa cp,.string ta,.string na,.string wh,.int .i64 st,.string te],.agg #[.int .i64 k,.slice Ad2 d cd2,.slice Ae2 en ce2,.string tr,.slice Ap2 pa cp2,.string ta,.string na,.string wh,.int .i64 st,.string te]] w fun i w'=>i= .returned true/\Below w w w':=by
 obtain ⟨b,j⟩:=gX (w.alloc (.cells #[k,.slice Ad d cd,.slice Ae en ce,tr,.slice Ap pa cp,ta,na,wh,st,te] 40));have O:Blk b w 40 (dP k (.slice Ad d cd) (.slice Ae en ce) tr (.slice Ap pa cp) ta na wh st te):=by
  rw [j];exact o9 w 40 _
 have P:b.heap.size=w+1:=by rw [j];simp
 have x:Below w w b:=by rw [j];exact (bR _ _).alloc (lR _) _
 have y:=O.alloc (.cells #[k,.slice Ad2 d cd2,.slice Ae2 en ce2,tr,.slice Ap2 pa cp2,ta,na,wh,st,te] 40);have o:Blk (b.alloc (.cells #[k,.slice Ad2 d cd2,.slice Ae2 en ce2,tr,.slice Ap2 pa cp2,ta,na,wh,st,te] 40)) b 40 (dP k (.slice Ad2 d cd2) (.slice Ae2 en ce2) tr (.slice Ap2 pa cp2) ta na wh st te):=o9 b 40 _;have c:Below w w (b.alloc (.cells #[k,.slice Ad2 d cd2,.slice Ae2 en ce2,tr,.slice Ap2 pa cp2,ta,na,wh,st,te] 40)):=x.alloc x.size _;obtain ⟨e,z⟩:=gX (b.alloc (.cells #[k,.slice Ad2 d cd2,.slice Ae2 en ce2,tr,.slice Ap2 pa cp2,ta,na,wh,st,te] 40));rw [<-z] at y o c;rw [P] at o;have Q:=H.below c;have R:=L.below c;have S:=I.below c;have T:=M.below c;have U:=J.below c;have V:=N.below c;have W: ∀f:World,Rd f w 1 Ap pa (pc pa)->Rd f w 1 Ap2 pa (pc pa)->Calls an 20 #[.slice Ap pa cp,.slice Ap2 pa cp2] f fun i w'=>i= .returned true/\ ∃A,w'=f.drewN A:=fun f l B=>
  (jG Ap pa cp Ap2 pa cp2 f _ _ l B K K).mono fun i w' ⟨F0,A,l,B,h0⟩=>⟨by rw [l,B.2 rfl],A,h0⟩
 have X:=qI W;clear W H L I M J N O x;go_in;go_upto_region 1 with fail;rw [<-j,<-z];clear j z P;obtain ⟨q,r,m,i0,j0,k0,l0,m0,n0,o0⟩:=bg y;obtain ⟨s,t,n,p0,q0,r0,s0,t0,u0,v0⟩:=bg o;have w0:(convert 36 9 (.slice Ad d cd)).run an e= .ok (.string ⟨d.toArray⟩) e:=bA Q;have x0:(convert 36 9 (.slice Ad2 d cd2)).run an e= .ok (.string ⟨d.toArray⟩) e:=bA R;simp only [List.append];go_wp2_with (first | (go_at_call 20;(with_reducible refine (X.out e U V).mono ?_);rintro i G0 ⟨rfl,y0,rfl⟩));have Y:=m;have z2:=n;clear q r m i0 j0 k0 l0 m0 n0 o0 s t n p0 q0 r0 s0 t0 u0 v0 w0 x0 X U V Q R y o;go_loopw [5] (fun C wr=>JT en e C wr) (fun C _=>en-(intOf C).toNat)
 case atStart=>exact ⟨0,y0,rfl,zL,rfl⟩
 case round=>
  obtain ⟨a,D,rfl,H0,g⟩:=hrel;have I0:wr.cell? ⟨w,2,none⟩=some (.slice Ae en ce):=by rw [g];exact Y
  have J0:wr.cell? ⟨w+1,2,none⟩=some (.slice Ae2 en ce2):=by rw [g];exact z2
  have z0:Rd wr w 3 Ae en (ec en):=by rw [g];exact S.drewN D
  have A0:Rd wr w 3 Ae2 en (ec en):=by rw [g];exact T.drewN D
  have K0:=qiJ (a+1);clear Y z2 S T;by_cases l:a<en
  ·have B0:=dtX ((a:Int)<en);have C0:=ltI a en.length;have L0:=zeI a;obtain ⟨Z,a0,rfl,M0,u⟩:=z0.at_ qO;obtain ⟨b0,c0,rfl,N0,v⟩:=A0.at_ qO;obtain ⟨E,F,G⟩:=eR l;have q:=u _ _ E;have r:wr.cell? ⟨Z,a0+a*3+1,none⟩=_:=u _ _ F;have m:wr.cell? ⟨Z,a0+a*3+2,none⟩=_:=u _ _ G;have s:=v _ _ E;have t:wr.cell? ⟨b0,c0+a*3+1,none⟩=_:=v _ _ F;have n:wr.cell? ⟨b0,c0+a*3+2,none⟩=_:=v _ _ G;obtain ⟨D0,d0⟩:=gX (en[a]);rw [<-d0] at q r m s t n;obtain ⟨e0,f0,g0⟩:=D0;simp only at q r m s t n;clear d0 u v E F G;have O0: ∀w:World,(binOp .neq 177 (.agg #[e0,f0,g0]) (.agg #[e0,f0,g0])).run an w= .ok (.bool false) w:=fun w=>by rw [oN];simp
   go_wp2_with fail;go_quiet (fail);go_wp2_with fail;exact ⟨⟨a+1,D+nq,by go_num,qO,by unfold Hid;rw [g,o8]⟩,by simp [intOf];omega⟩
  have B0:=dfX ((a:Int)<en);have C0: ¬(a:Int)<en:=qO;go_wp2_with fail;go_ret;exact ⟨rfl,by rw [g];exact c.drewN' _⟩
