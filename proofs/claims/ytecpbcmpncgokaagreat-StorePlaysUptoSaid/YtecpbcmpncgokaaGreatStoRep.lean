/- Walks and laws. Conditions: as stated. -/
import Derived.Test.YtecpbcmpncgokaaGreatSto6
import Derived.Test.YtecpbcmpncgokaaGreatPckBuild
set_option maxRecDepth 99999
set_option maxHeartbeats 25600000
set_option linter.all false
open Go.Proofs.Tryz renaming prog->an
open Prod renaming fst->PM
open Go.RowKit Go.Dol
namespace Go.Dol
theorem Lj {l x} (b:l.Nodup) (a:cK l x=false):(l++[x]).Nodup:=by
 refine E9.2 ⟨b,w8 ..,fun e ha f c d=> ?_⟩;obtain rfl:=i7.1 c;rw [jH.2 (d▸ha)] at a;cases a
theorem Lk {l:List BA} {k x} (b:l[k]?=some x) (c:cK (l.take k) x=true): ¬l.Nodup:=fun a=>by
 have d:=jH.1 c;have e:=r8 k l;rw [<-e] at a;refine (E9.1 a).2.2 x d x ?_ rfl;rw [hU b];exact j8 ..
section
variable {ge:BA->BA->Bool} {D:Dk} {P:List Pk} {ids:List BA} {id:BA} {r:List BA}
theorem Ll (a: ¬ids.Nodup):bF ge D P ids= .error 1:=if_pos a
theorem xy:bJ ge D P []= .ok []:=rfl
theorem xv {k} (a:aP ge D P id= .error k):bJ ge D P (id::r)= .error k:=by
 rw [bJ,a]
theorem ql (e:cQ P): ∀{ids:List BA} {d:List (LU)},bJ ge D P ids= .ok d-> ∀l∈d,l.length<=2097152
 | [],d,a,l,c=>by
  rw [bJ] at a;injection a with a;rw [<-a] at c;cases c
 | id::r,d,a,l,c=>by
  rw [bJ] at a;split at a
  ·cases a
  rename_i b f;split at a
  ·cases a
  rename_i h g;injection a with a;rw [<-a] at c;rcases i8.1 c with rfl | c
  ·exact qd e f
  exact ql e g l c
theorem iM {rs b} (a:bl ge rs=some b):32<=b.length:=by
 unfold bl at a;split at a
 ·injection a with a;rw [<-a,b7,ew];omega
 cases a
def gw (a:List (LU)):Except Int (List (LU))->Except Int (List (LU))
 | .error k=> .error k
 | .ok b=> .ok (a++b)
theorem xw {b} (bs) (a:aP ge D P id= .ok b):gw bs (bJ ge D P (id::r))=gw (bs++[b]) (bJ ge D P r):=by
 rw [bJ,a];simp only;cases bJ ge D P r<;>simp [gw]
def hX (ge:BA->BA->Bool) (ids:List BA):Except Int (List (LU))->Except Int (Option (BA×LU))
 | .error k=> .error k
 | .ok a=>match bl ge a with
  | none=> .error 1
  | some b=>if ids=[] then .ok none else .ok (some (ap b,b))
theorem yE (a:ids.Nodup):bF ge D P ids=hX ge ids (bJ ge D P ids):=by
 unfold bF;rw [if_neg (not_not_intro a)];rfl
end
def gA (ge:BA->BA->Bool) (D:Dk) (P:List Pk):List Pk:=(ai ge D.l).getD P
abbrev Bq:=Except Int (Option (BA×LU))
def mJ (D:Dk) (q:Bq):Int×Int:=match q with
 | .error b=>(0,b)
 | .ok none=>(0,0)
 | .ok (some (a,c))=>if (aa D.l a).isSome=true then (0,0) else (16+(a.size+1)+c,0)
theorem xz (ge D P ids):gy ge D P ids=mJ D (bF ge D P ids):=rfl
def cP (ge:BA->BA->Bool) (D:Dk) (P:List Pk) (q:Bq):(Int×Dk)×List Pk:=match q with
 | .error a=>((a,D),P)
 | .ok none=>(bm ge D eS,gA ge (bm ge D eS).2 P)
 | .ok (some (n,b))=>if (aa D.l n).isSome=true then (bm ge D n,gA ge (bm ge D n).2 P) else
  if (ao D n b).1≠0 then (ao D n b,P) else (bm ge (ao D n b).2 n,gA ge (bm ge (ao D n b).2 n).2 P)
theorem yG {ge D P}: ∀{ids:List BA} {k:Int},bJ ge D P ids= .error k->k≠0
 | [],k,a=>by cases a
 | id::r,k,a=>by
  rw [bJ] at a;split at a
  ·rename_i c b;injection a with a;rw [<-a];exact fO b
  split at a
  ·rename_i c b;injection a with a;rw [<-a];exact yG b
  cases a
theorem OkG.rems {L B}: ∀{l:List BA} {D:Dk},OkG L B D->OkG L B (bW D l).2
 | [],_,a=>a
 | n::r,D,a=>by
  by_cases b:(aB D n).1=0
  ·rw [kg b];exact OkG.rems (a.rem n)
  rw [qn b];exact a.rem n
theorem OkG.drops {L B}: ∀{l:List BA} {D:Dk},OkG L B D->OkG L B (cB D l).2
 | [],_,a=>a
 | n::r,D,a=>by
  by_cases b:(dropO D n).1=0
  ·rw [mK b];exact OkG.drops (a.dropd n)
  rw [qp b];exact a.dropd n
theorem OkG.clear {L B D} (a:OkG L B D) (ge but):OkG L B (bm ge D but).2:=by
 unfold bm;split
 ·exact a
 unfold hD;split
 ·exact a.rems
 exact a.rems.drops
def kw (ge:BA->BA->Bool) (D:Dk) (P:List Pk) (n:BA):(Int×Dk)×List Pk:=(bm ge D n,gA ge (bm ge D n).2 P)
def svB (D:Dk) (n:BA):Bool:=decide (n≠⟨#[]⟩)&& !(aa D.l n).isSome
end Go.Dol
namespace Go.Proofs.YtecpbcmpncgokaaGreat
theorem qL (M) (c:M<=2097152): ∀(a:List (LU)) (prev:LU) (d:Nat),(∀r∈a,r.length<=M)->(dI prev d a).length<=a*(M+64)
 | [],_,_,_=>zL
 | r::a,prev,d,b=>by
  have h:=qL M c a r (aI d (aO prev d r).1) fun e f=>b e (k8 _ f);have i:=b r (j8 ..);have j:=lX prev d r;have k:=aJ 8 (aO prev d r).2.length qO;have g:=ew r;rw [dI,b7,fL,b7,g,List.length_cons,text,b7,List.length_cons,Pc];omega
theorem qk {rs b} (h:bl geS rs=some b):b.length<=140737488351232:=by
 unfold bl at h;split at h
 ·rename_i hp;injection h with h;have d:=qL 2097152 (lR _) rs [] 0 fun a c=>dD a (hp.2.1 a c);exact z267
 cases h
def Lm (w:World) (r:Except Int (Option (BA×LU))) (b:Ending) (w':World):Prop:=
 Below w w w'/\match r with
 | .error d=>b= .returned (.tuple #[eS,eL,d])
 | .ok none=>b= .returned (.tuple #[eS,eL,i0])
 | .ok (some (e,f))=> ∃(l:LU) (c:OA) (a:Nat),Hid (l=f)/\b= .returned (.tuple #[e,.slice c l a,i0])/\w'.ownsRow w 5 1 (.slice c l a) l (bc l)/\l<=a/\a<=maxLen
theorem xx:(an.info? 36).map (fun i=>(i.zero,i.size,i.bytes))=some (some (.slice none 0 0),1,24):=qkR
def qm (w:World) (l:List RowB):Prop:=∀ a∈l,Far w 0 a.A a.l/\a.l.length<=a.c/\a.c<=maxLen
def xu (ge:BA->BA->Bool) (D:Dk) (P:List Pk) (q:Except Int (List (LU))) (ids:List BA) (n:Nat) (w:World) (d i:Value) (wr:World):Prop:=
 ∃(a:Nat) (ys:List RowB) (b:OA) (c:Nat),i= .int .i64 a/\a<=n/\d= .slice b a c/\wr.ownsRow w 36 1 (.slice b a c) a (rc ys)/\qm wr ys/\Hid (ys=a/\q=gw (ys.map (·.l)) (bJ ge D P (ids.drop a)))/\Below w w wr
def Ln (ids:List BA) (n B:Nat) (w:World) (i:Value) (wr:World):Prop:=
 ∃a:Nat,i= .int .i64 a/\a<=n/\Hid ((ids.take a).Nodup)/\MapL an 9 wr B (ey (ids.take a))/\Below w w wr
section
variable {w w':World} {base gp gs g m:Nat} {xs:List PkA} {D:Dk}
theorem yF (h:Sto w gs g m base gp D xs) (t0:OkW D) (X:cQ (xs.map PkA.pk)) (u0:xs.length<=kac) (A n ids c) (F:ids.length=n) (Y:Rd w w 1 A n (sc ids)) (a1:n<=kad) (Z: ∀x∈ids,x.size<=70368744177600):
  Calls an 130 #[.pointer (some gs),.slice A n c] w (Lm w (bF geS D (xs.map PkA.pk) ids)):=by
 obtain ⟨l,M⟩:=gH (bF geS D (xs.map PkA.pk) ids);rw [<-M];have a0:=qI Z;have HL:=qI F;clear Z F;have v0:=@run_makeMap an;go_in;go_wp2_with fail;clear v0;obtain ⟨B,G⟩:=gH w.heap.size;obtain ⟨b0,H⟩:=gX (w.alloc (.map #[] 0));have c0:MapL an 9 b0 B []:=by rw [H,G];exact Pn w
 have d0:Below w w b0:=by rw [H];exact (bR _ _).alloc (lR _) _
 rw [<-H,<-G];clear H;go_loopw [20] (fun i wr=>Ln ids n B w i wr) (fun i _=>n-(intOf i).toNat)
 case atStart=>exact ⟨0,rfl,zL,On,c0,d0⟩
 case round=>
  clear c0 d0;obtain ⟨a,rfl,b1,hup,hmap,b⟩:=hrel;have e0:=b.size;have w0:=qiJ (a+1);by_cases N:a<n
  ·have x0:=ltI a n;have y0:=zeI a;have f0:a<ids:=by rw [HL];exact N
   obtain ⟨x,d⟩: ∃x,ids[a]?=some x:=⟨ids[a],gE f0⟩;obtain ⟨z0,A0,rfl,B0,t⟩:=(Y.below b).at_ qO;have C0:=t _ _ (by rw [sc,m7,d];rfl);have g0:=a0.out x (g8 d);have h0:Hid (ids.take (a+1)=ids.take a++[x]):=by
    unfold Hid;rw [t7,d];rfl
   have hkey:=NJ l9 (s:=x) (by unfold maxLen;omega);have D0:=qI d;clear f0 t d;obtain ⟨E0,u,F0,hm1,hput1,O⟩:=hmap.update dG x7 hkey (.int .i64 1);obtain ⟨c1,e,G0,hm2,hput2,P⟩:=hmap.update dG x7 hkey (.int .i64 2);cases hh:cK (ids.take a) x with
   | true=>
    have H0:Hid (l= .error 1):=by unfold Hid;rw [M];exact Ll (Lk D0.out hh)
    have I0:(Instr.lookup 269 (.map (some B)) (.string x) false).run an wr= .ok (.int .i64 1) wr:=by
     exact z260
    have d1:(Instr.lookup 269 (.map (some B)) (.string x) false).run an e= .ok (.int .i64 2) e:=by
     rcases hm2.look dG x7 (fi e) hkey false with ⟨h2,_⟩ | ⟨v,h2,h3⟩
     ·exact absurd rfl (h2 _ hput2.mem)
     exact z188
    have hb3:=b.trans (ak P (by have:=G.out;omega) e0);clear F0 hm1 hput1 O hh hm2 hput2 P;go_wp2_with fail;go_ret3;rw [H0];exact ⟨hb3,rfl⟩
   | false=>
   have I0:(Instr.lookup 269 (.map (some B)) (.string x) false).run an wr= .ok i0 wr:=by
    exact z266
   have e1:(Instr.lookup 269 (.map (some B)) (.string x) false).run an u= .ok (.int .i64 1) u:=by
    rcases hm1.look dG x7 (fi u) hkey false with ⟨h2,_⟩ | ⟨v,h2,h3⟩
    ·exact absurd rfl (h2 _ hput1.mem)
    exact z187
   have j0:=b.trans (ak O (by have:=G.out;omega) e0);have J0:Hid (E0=ey (ids.take (a+1))):=by
    unfold Hid;rcases hput1 with ⟨_,rfl⟩ | ⟨f1,g1,K0,L0,_⟩
    ·rw [h0];simp [ey]
    exact absurd rfl (jI hh (Value.string x,K0) (by rw [L0];simp))
   have M0:Hid ((ids.take (a+1)).Nodup):=by
    unfold Hid;rw [h0];exact Lj hup hh
   have N0:=qI (hW (h.below (j0.mono (lR _))));clear G0 hm2 hput2 P hh hput1 O;go_wp2_with fail;refine N0.mono ?_;rintro k O0 ⟨rfl,P0⟩;obtain rfl:=P0.symm;go_wp2_with fail;exact ⟨⟨a+1,by go_num,qO,M0,by rw [<-J0];exact hm1,j0⟩,by simp [intOf];omega⟩
  have k0:=dfX ((a:Int)<n);obtain rfl:a=n:=qO;have l0:ids.Nodup:=by
   exact z213
  obtain ⟨z,I⟩:=gX (bJ geS D (xs.map PkA.pk) ids);have m0:Hid (l=hX geS ids z):=by
   unfold Hid;rw [M,I];exact yE l0
  have Q0:=qI I;have R0: ∀(J:LU) {Q:List (LU)},z= .ok Q->J∈Q->J.length<=140737488351232:=fun J Q k F=>by
   have:=ql X (I▸k) J F;omega
  clear I l0 hup hmap k0;go_wp2_with fail;go_loopw [10,40] (fun S0 i u=>xu geS D (xs.map PkA.pk) z ids a w S0 i u) (fun _ i _=>a-(intOf i).toNat)
  case atStart=>exact ⟨0,[],none,0,rfl,zL,rfl,j9 _ _ _ _,fun x d=>(m9 d).elim,⟨rfl,by rw [Q0,y8];cases bJ geS D (xs.map PkA.pk) ids<;>rfl⟩,b⟩
  case round=>
   clear b;obtain ⟨j,ys,n0,o0,rfl,h1,rfl,p0,hfar,o,b⟩:=hrel;have w0:=qiJ (j+1);have T0:=h.below b;by_cases N:j<a
   ·have x0:=ltI j a;have y0:=zeI j;obtain ⟨x,d⟩: ∃x,ids[j]?=some x:=⟨ids[j]'(by rw [HL];exact N),gE _⟩;obtain ⟨z0,A0,rfl,B0,t⟩:=(Y.below b).at_ qO;have C0:=t j (.string x) (by rw [sc,m7,d];rfl);have g0:=a0.out x (g8 d);have q0:=hU d;have K:=qI (hV T0 t0 X u0 x g0);obtain ⟨U0,q⟩:=gX (aP geS D (xs.map PkA.pk) x);rw [<-q] at K;have r:=o.2;rw [q0] at r;clear t q0 d;go_wp2_with fail;refine K.mono ?_;intro k e h3;cases U0 with
    | error R=>
     obtain ⟨hb3,rfl⟩:=h3;have hq3:Hid (l= .error R):=by
      unfold Hid;rw [m0,r,xv q.symm];rfl
     have r0:=bne_iff_ne.2 (fO q.symm);clear q r o K;go_wp2_with fail;go_ret3;rw [hq3];exact ⟨b.next hb3,rfl⟩
    | ok S=>
    obtain ⟨hb3,l3,A3,c3,L,rfl,ho3,i1,i2⟩:=h3;rw [xw _ q.symm,<-L] at r;have hq3:Hid ((ys++[⟨l3,A3,c3⟩]:List RowB).length=j+1/\z=gw ((ys++[(⟨l3,A3,c3⟩:RowB)]).map (·.l)) (bJ geS D (xs.map PkA.pk) (ids.drop (j+1)))):=⟨by rw [b7,o.1];rfl,by rw [p8];exact r⟩;have s0:=az p0 hb3;have hbel3:=b.next hb3;have hs3:=hbel3.size;have hfar3:qm e (ys++[⟨l3,A3,c3⟩]):=fun y hy=>by
     exact z84
    have hb4:=bAl e (.cells #[.slice A3 l3.length c3] 36);have hO:Other (e.alloc (.cells #[.slice A3 l3.length c3] 36)) 0 (Value.slice n0 j o0).ownBlock:=K9 (s0.alloc _) (by decide) (zL);clear q r o K L ho3;go_wp2_with (at_builtin;refine eF rfl (.tmp 53) (.tmp 55) 240 36 _ 24 rfl Tryz.underlying240 xx rfl w.heap.size _ j (rc ys) rfl (s0.alloc _) (e+1) _ 1 1 [.slice A3 l3.length c3] rfl (NX e _ _) (by intro j1 V0;obtain rfl:=i7.1 V0;rfl) (by unfold maxLen;omega) (by omega) (by simp;omega) ?_;intro A5 c5 O0 hown5 hb5 hg5 k1 l1);exact z248
   have k0:=dfX ((j:Int)<a);obtain rfl:j=a:=qO;have T:z= .ok (ys.map (·.l)):=by
    rw [o.2,List.drop_of_length_le (by rw [HL];exact lR _),xy];simp [gw]
   have U:Hid (l=hX geS ids (.ok (ys.map (·.l)))):=by
    unfold Hid;rw [m0,T]
   have V:=o.1;have W:=qI (Gu n0 ys o0 wr (by rw [V];exact d8 p0) (fun y hy=>⟨(hfar y hy).1.1,(hfar y hy).2⟩) qO (fun y hy=>R0 y.l T (e9.2 ⟨y,hy,rfl⟩)));rw [V] at W;clear o T V;go_wp2_with fail;refine W.mono ?_;obtain ⟨R,f⟩:=gX (bl geS (ys.map (·.l)));rw [<-f];clear W;cases R with
   | none=>
    have C:Hid (l= .error 1):=by
     unfold Hid;rw [U];unfold hX;simp only;rw [<-f]
    clear f;rintro k e ⟨hb3,rfl⟩;go_wp2_with fail;go_ret3;rw [C];exact ⟨b.next hb3,rfl⟩
   | some S=>
   have W0:=iM f.symm;have X0:S.length<=kaa:=by have:=qk f.symm;omega
   rintro k e ⟨hb3,l3,A3,c3,L,rfl,ho3,i1,i2⟩;have hbel3:=b.next hb3;obtain rfl:l3=S:=L.out;by_cases E:j=0
   ·have C:Hid (l= .ok none):=by
     unfold Hid;rw [U];unfold hX;simp only;rw [<-f];exact if_pos (nZ (by rw [HL];exact E))
    have r0:((j:Int)==0)=true:=by rw [E];rfl
    clear f E;go_wp2_with fail;go_ret3;rw [C];exact ⟨hbel3,rfl⟩
   have C:Hid (l= .ok (some (ap l3,l3))):=by
    unfold Hid;rw [U];unfold hX;simp only;rw [<-f];exact if_neg (fun k=>E (by rw [<-HL,k];rfl))
   have r0:((j:Int)==0)=false:=beq_eq_false_iff_ne.2 qO;have Y0:=b.size;have Z0:=qI (yC A3 l3 c3 e (d8 ho3) i1 i2 W0 X0);clear f E;go_wp2_with fail;refine Z0.mono ?_;rintro k m1 ⟨rfl,hb4⟩;go_wp2_with fail;go_ret3;rw [C];exact ⟨hbel3.next hb4,l3,A3,c3,rfl,rfl,(az ho3 hb4).base Y0,i1,i2⟩
end
theorem qM (b):ap b≠⟨#[]⟩:=fun a=>by
 have:=congrArg (fun c:BA=>c.data.toList) a;unfold ap at this;simp at this
theorem yH {a:BA} (c:a≠⟨#[]⟩): ¬a.toList=[]:=fun b=>c (fD (by rw [t8] at b;exact b))
theorem iN {b} (a:32<=b.length):(ap b).size=66:=by
 unfold ap;rw [ByteArray.size_append];show 2+(cq (b.drop (b.length-32))).toArray.size=66;rw [List.size_toArray,gd,b8];omega
section
variable {w w':World} {base gp gs g m:Nat} {xs:List PkA} {D:Dk}
theorem yI {ids n b} (a:bF geS D (xs.map PkA.pk) ids= .ok (some (n,b))):n=ap b/\32<=b.length/\b.length<=140737488351232:=by
 unfold bF at a;split at a
 ·cases a
 split at a
 ·cases a
 split at a
 ·cases a
 rename_i f c;split at a
 ·cases a
 injection a with a;injection a with a;injection a with d e;rw [<-e,<-d];exact ⟨rfl,iM c,qk c⟩
theorem yJ {ids k} (a:bF geS D (xs.map PkA.pk) ids= .error k):k≠0:=by
 unfold bF at a;split at a
 ·injection a with a;omega
 split at a
 ·rename_i c b;injection a with a;rw [<-a];exact yG b
 split at a
 ·injection a with a;omega
 split at a<;>cases a
theorem KQ (h:Sto w gs g m base gp D xs) (v:OkW D) (C:cQ (xs.map PkA.pk)) (E:xs.length<=kac) (A n ids c) (F:ids.length=n) (G:Rd w w 1 A n (sc ids)) (i:n<=kad) (H: ∀x∈ids,x.size<=70368744177600):
  Calls an 64 #[.pointer (some gs),.slice A n c] w fun b w'=>b= .returned (.tuple #[.int .i64 (gy geS D (xs.map PkA.pk) ids).1,.int .i64 (gy geS D (xs.map PkA.pk) ids).2])/\Below w w w':=by
 obtain ⟨j,o⟩:=gX (gy geS D (xs.map PkA.pk) ids);rw [<-o];have q:=qI (yF h v C E A n ids c F G i H);obtain ⟨y,d⟩:=gX (bF geS D (xs.map PkA.pk) ids);rw [<-d] at q;have f:Hid (j=mJ D y):=by
  unfold Hid;rw [o,xz,d]
 clear o;go_in;go_wp2_with fail;refine q.mono ?_;rintro b z ⟨hb1,r⟩;have s:=h.below hb1;have t:=qI (hW s);clear q;cases y with
 | error I=>
  obtain rfl:=r;have B:=bne_iff_ne.2 (yJ d.symm);have hr3:Hid (j=(0,I)):=f;clear d f;go_wp2_with fail;refine t.mono ?_;rintro b k ⟨rfl,a⟩;obtain rfl:=a.symm;exact z96
 | ok J=>
 cases J with
 | none=>
  obtain rfl:=r;have hr3:Hid (j=(0,0)):=f;clear d f;go_wp2_with fail;refine t.mono ?_;rintro b k ⟨rfl,a⟩;obtain rfl:=a.symm;exact z96
 | some K=>
 obtain ⟨e,L⟩:=K;obtain ⟨i,M,R⟩:=yI d.symm;obtain ⟨u,S,T,N,rfl,U,V,W⟩:=r;obtain rfl:u=L:=N.out;have X:e.size=66:=by rw [i];exact iN M
 have B: ¬e.toList=[]:=yH (by rw [i];exact qM _);have z2:=beq_eq_false_iff_ne.2 B;have O:=qI (jf s.dk v.ord e (by unfold maxLen;omega));have Y:z.cell? gs=some (.pointer (some g)):=by rw [s.st.cell];rfl
 have P:=qI (xT e (u.length:Int) z qO qO qO);have hr3:Hid (j=if (aa D.l e).isSome=true then ((0:Int),(0:Int)) else ((16:Int)+((e.size:Int)+1)+u,(0:Int))):=f;clear d f i;go_wp2_with fail;refine t.mono ?_;rintro b k ⟨rfl,a⟩;obtain rfl:=a.symm;go_wp2_with fail;refine O.mono ?_;cases l:(aa D.l e).isSome with
 | true=>
  rw [l] at hr3;rintro b k ⟨rfl,a⟩;obtain rfl:=a.symm;clear l;exact z96
 | false=>
 rw [l] at hr3;rintro b k ⟨rfl,a⟩;obtain rfl:=a.symm;clear l;go_wp2_with fail;refine P.mono ?_;rintro b Z ⟨rfl,Q⟩;obtain rfl:=Q.symm;go_wp2_with fail;go_ret2;rw [hr3];refine ⟨?_,hb1⟩;simp;omega
end
structure Tw3 (w w':World) (g m gs:Nat):Prop where
 os:w'.os=w.os
 tape:w'.tape=w.tape
 output:w'.output=w.output
 size:w.heap.size<=w'
 block: ∀i,i<w.heap.size->i≠g->i≠m->i≠gs->w'.heap[i]?=w.heap[i]?
def LG (r:LU):Fil:=(af (idO r),aA r)
structure Just (D:Dk) (os:List (LU)):Prop where
 calm:CalmD D
 objs: ∀r∈os,ah geS r=true
 nodup:(os.map idO).Nodup
 files:D.l.Perm (os.map LG)
section
variable {D:Dk} {os ks:List (LU)} {b:LU}
theorem Just.fo (a:Just D os):FO D:=fun f d=>by
 obtain ⟨c,e,rfl⟩:=e9.1 (a.files.mem_iff.1 d);exact ⟨c,a.objs c e,rfl⟩
theorem Just.get (a:Just D os) {r} (c:r∈os):aK geS D (idO r)= .ok r:=
 oC (a.objs r c) rfl ((bz a.calm.ok.ord).2 (a.files.mem_iff.2 (e9.2 ⟨r,c,rfl⟩)))
theorem Just.put (d:Just D os) {raw} (g:ah geS raw=true) (i:83+((aA raw).length:Int)<=frD D):
  (∃b,aK geS D (idO raw)= .ok b/\putO geS D raw=(if b=raw then .ok (idO raw) else .error 7,D))\/
  ∃D',aK geS D (idO raw)= .error 6/\putO geS D raw=(.ok (idO raw),D')/\Just D' (os++[raw])/\D'.cap=D.cap/\frD D'=frD D-(82+((aA raw).length:Int)):=by
 rcases CZ d.calm d.fo g i with ⟨b,f,e,a⟩ | ⟨e,a⟩ | ⟨D',e,a,j,p,k,l,m,_,_,n⟩
 ·exact .inl ⟨b,e,by rw [if_neg f];exact a⟩
 ·exact .inl ⟨raw,e,by rw [if_pos rfl];exact a⟩
 refine .inr ⟨D',e,a,⟨j,fun h c=> ?_,?_,?_⟩,k,n⟩
 ·rcases l7.1 c with c | c
  ·exact d.objs h c
  obtain rfl:=i7.1 c;exact g
 ·rw [p8];refine E9.2 ⟨d.nodup,w8 ..,fun q ha b f a=> ?_⟩;obtain rfl:b=idO raw:=by simpa using f
  obtain ⟨h,c,o⟩:=e9.1 ha;have:=d.get c;rw [o,a,e] at this;cases this
 rw [l,p8];refine (ga ..).trans ?_;rw [eK m];exact (d.files.cons _).trans (List.perm_append_singleton ..).symm
theorem yS (D id):aP geS D [] id=aK geS D id:=by
 unfold aP;split
 ·rename_i a;exact a.symm
 rename_i d a;split
 ·rename_i c;rw [a,c];rfl
 exact a.symm
theorem yO (D raw):cz geS D [] raw=putO geS D raw:=by
 by_cases a:ah geS raw=true
 ·rw [mG a,yS];have d:=jv (ge:=geS) (D:=D) a;rw [d];cases e:aK geS D (idO raw) with
  | ok b=>rfl
  | error f=>
  simp only;split
  ·rfl
  rfl
 have c:ah geS raw=false:=by simpa using a
 rw [qe _ _ _ _ c,ju _ _ _ c]
theorem yT {P}: ∀{ks:List (LU)},(∀r∈ks,aP geS D P (idO r)= .ok r)->bJ geS D P (ks.map idO)= .ok ks
 | [],_=>rfl
 | r::ks,a=>by
  rw [List.map_cons,bJ,a r (j8 ..),yT fun q c=>a q (k8 _ c)]
theorem yN (d: ∀r∈ks,ah geS r=true) (c:(ks.map idO).Nodup) (e:ks.length<=4096): ∃b,bl geS ks=some b:=by
 refine ⟨_,if_pos ⟨e,d,?_⟩⟩;have a:ks.map idO=(ks.map aw).map idS:=by rw [w9];rfl
 rw [a] at c;exact List.Pairwise.of_map idS (fun g b f a=>f (by rw [a])) c
def pkB (ks:List (LU)) (b:LU):Option (BA×LU):=if ks=[] then none else some (ap b,b)
theorem yU {P} (a: ∀r∈ks,aP geS D P (idO r)= .ok r) (c:(ks.map idO).Nodup) (d:bl geS ks=some b):bF geS D P (ks.map idO)= .ok (pkB ks b):=by
 rw [yE c,yT a];unfold hX pkB;simp only;rw [d];simp only [List.map_eq_nil_iff];split<;>rfl
def pkF (ks:List (LU)) (b:LU):List Fil:=if ks=[] then [] else [(ap b,b)]
def pkP (ks:List (LU)) (b:LU):List Pk:=if ks=[] then [] else [(ap b,eA [] 0 ks)]
theorem qT (b):(ap b).data.toList=112::47::cq (b.drop (b.length-32)):=by
 unfold ap;rw [Np];simp
theorem qU (f:32<=b.length):ab (ap b)=true/\ab (shd (ap b))=true/\bi (ap b)=false/\(ap b).size≠0/\aD (ap b)=true:=by
 have a:=iN f;have hz: ∀c∈(ap b).data.toList,47<=c.toNat/\c.toNat<=112:=by
  intro c hx;rw [qT] at hx;exact z264
 have g:(ap b).data.toList.contains 0=false:=by
  exact z171
 have i:ab (ap b)=true:=by
  unfold ab;rw [g,a];rfl
 have d:bi (ap b)=false:=by
  exact z273
 have j:ab (shd (ap b))=true:=by
  have k:(shd (ap b)).data.toList=(ap b).data.toList++[126]:=by
   unfold shd;rw [Np];simp
  unfold ab;rw [gQ,a,k];have l:((ap b).data.toList++[126]).contains 0=false:=by
   exact z81
  rw [l];rfl
 refine ⟨i,j,d,by rw [a];decide,?_⟩;unfold aD;rw [d,qT];rfl
theorem mi (id):aD (af id)=false:=by
 unfold aD;rw [gh];simp
theorem yV (id b):af id≠ap b:=fun a=>by
 have:=congrArg (fun c:BA=>c.data.toList) a;simp only [gh,qT] at this;injection this with this;cases this
theorem yW: ∀{l:List Fil},(∀f∈l,aD f.1=false)->ai geS l=some []
 | [],_=>rfl
 | f::r,a=>by
  rw [ai,if_neg (by rw [a f (j8 ..)];decide)];exact yW fun g c=>a g (k8 _ c)
theorem Just.packs (a:Just D os):ai geS D.l=some []:=yW fun d c=>by
 obtain ⟨e,_,rfl⟩:=e9.1 (a.files.mem_iff.1 c);exact mi _
theorem LH (a:bl geS ks=some b):ai geS (pkF ks b)=some (pkP ks b):=by
 unfold pkF pkP;split
 ·rfl
 rw [ai,if_pos (qU (iM a)).2.2.2.2];simp only;rw [lY dD a];simp only;rw [if_pos trivial,ai];rfl
theorem mC: ∀{l:List Fil} {P:List Pk},ai geS l=some P->P.map PM=(l.map PM).filter aD
 | [],P,a=>by
  injection a with a;rw [<-a];rfl
 | f::r,P,a=>by
  rw [ai] at a;rw [List.map_cons];split at a
  ·rename_i c;rw [List.filter_cons_of_pos c];split at a
   ·cases a
   split at a
   ·cases d:ai geS r with
    | none=>rw [d] at a;cases a
    | some e=>
     rw [d] at a;injection a with a;rw [<-a,List.map_cons,mC d]
   cases a
  rename_i c;rw [List.filter_cons_of_neg c];exact mC a
theorem qV: ∀{ns:List BA} {D:Dk},CalmD D->(∀n∈ns,ab n=true/\(aa D.l n).isSome=true)->ns.Nodup-> ∃D',bW D ns=(0,D')/\CalmD D'/\D'.cap=D.cap/\ ∀n,(n∈ns->aa D'.l n=none)/\(n∉ns->aa D'.l n=aa D.l n)
 | [],D,d,_,_=>⟨D,rfl,d,rfl,fun n=>⟨fun d=>(m9 d).elim,fun _=>rfl⟩⟩
 | x::ns,D,d,h,i=>by
  obtain ⟨j,k⟩:=NP.1 i;obtain ⟨m,o⟩:=h x (j8 ..);obtain ⟨b,p⟩:=Nr.1 o;obtain ⟨e,q⟩:=ya d p m;have f: ∀n,aa (am D.l x) n=if n=x then none else aa D.l n:=fun n=>eH d.ok.ord n;obtain ⟨D',r,s,t,g⟩:=qV (ns:=ns) q.calm (fun n a=>by
   obtain ⟨u,c⟩:=h n (k8 _ a);refine ⟨u,?_⟩;show (aa (am D.l x) n).isSome=true;rw [f,if_neg (fun e:n=x=>j (e▸a))];exact c) k
  refine ⟨D',by rw [kg (by rw [e]),e];exact r,s,t,fun n=>⟨fun a=> ?_,fun a=> ?_⟩⟩
  ·by_cases c:n∈ns
   ·exact (g n).1 c
   rw [(g n).2 c];show aa (am D.l x) n=none;rw [f,if_pos ((i8.1 a).resolve_right c)]
  rw [(g n).2 fun c=>a (k8 _ c)];show aa (am D.l x) n=_;rw [f,if_neg fun e:n=x=>a (by rw [e];exact j8 ..)]
theorem yX: ∀{ids:List BA} {D:Dk},CalmD D->(∀x∈ids,x.size=32/\(aa D.l (af x)).isSome=true)->ids.Nodup->cB D ids=bW D (ids.map af)
 | [],D,_,_,_=>rfl
 | x::ids,D,c,d,i=>by
  obtain ⟨j,k⟩:=NP.1 i;obtain ⟨e,f⟩:=d x (j8 ..);obtain ⟨b,m⟩:=Nr.1 f;obtain ⟨a,n⟩:=ya c m (gg e).1;have g:dropO D x=aB D (af x):=by
   unfold Go.Dol.dropO;rw [if_neg (by rw [e];simp),if_pos f]
  rw [List.map_cons,mK (by rw [g,a]),kg (by rw [a]),g,a];refine yX (ids:=ids) n.calm (fun y h=> ?_) k;obtain ⟨o,p⟩:=d y (k8 _ h);refine ⟨o,?_⟩;show (aa (am D.l (af x)) (af y)).isSome=true;rw [eH c.ok.ord,if_neg (fun a=>j (by rw [<-jy a];exact h))];exact p
theorem yY {l} (a:InOrder l):(l.map PM).Nodup:=by
 unfold List.Nodup;rw [List.pairwise_map];exact a.imp fun c=>ig c
theorem yZ (c:InOrder D.l):(bE D).Nodup:=by
 unfold bE List.Nodup;rw [List.pairwise_filterMap];refine (yY c).imp fun {a b} d h e i f g=>d ?_;rw [(oB e).1,(oB f).1,g]
theorem qW (c:CalmD D) {P} (t:ai geS D.l=some P) (but):
  ∃D',bm geS D but=(0,D')/\CalmD D'/\D'.cap=D.cap/\ ∀n,((aD n=true/\n≠but\/ ∃id:BA,id.size=32/\n=af id)->aa D'.l n=none)/\(¬(aD n=true/\n≠but\/ ∃id:BA,id.size=32/\n=af id)->aa D'.l n=aa D.l n):=by
 have j:=mC t;have u: ∀n∈P.map PM,aD n=true/\(aa D.l n).isSome=true:=fun n d=>by
  rw [j] at d;obtain ⟨v,w⟩:=NQ.1 d;obtain ⟨m,o,rfl⟩:=e9.1 v;refine ⟨w,?_⟩;rw [(bz c.ok.ord (b:=m.2)).2 o];rfl
 have h: ∀n,n∈bX but (P.map PM)↔n∈P.map PM/\n≠but:=fun n=>by
  unfold bX;rw [NQ];simp
 obtain ⟨i,y,f,z,p⟩:=qV (ns:=bX but (P.map PM)) c (fun n d=>by
  have a:=((h n).1 d).1;rw [j] at a;obtain ⟨m,o,rfl⟩:=e9.1 (NQ.1 a).1;exact ⟨c.ok.names m o,(u _ ((h _).1 d).1).2⟩) (by
  refine Ou _ ?_;rw [j];exact (yY c.ok.ord).filter _)
 have k: ∀x∈bE i,x.size=32/\(aa i.l (af x)).isSome=true:=fun x g=>(oE f.ok.ord).1 g;obtain ⟨A,B,C,E,q⟩:=qV (ns:=(bE i).map af) f (fun n d=>by
  obtain ⟨x,g,rfl⟩:=e9.1 d;exact ⟨(gg (k x g).1).1,(k x g).2⟩) (by
  unfold List.Nodup;rw [List.pairwise_map];exact (yZ f.ok.ord).imp fun c F=>c (jy F))
 refine ⟨A,?_,C,E.trans z,fun n=>⟨fun e=> ?_,fun e=> ?_⟩⟩
 ·unfold bm;rw [t];simp only;unfold hD;rw [y,if_neg (fun c=>c rfl),yX f k (yZ f.ok.ord)];exact B
 ·by_cases a:n∈(bE i).map af
  ·exact (q n).1 a
  rw [(q n).2 a];rcases e with e | ⟨id,G,rfl⟩
  ·by_cases r:n∈bX but (P.map PM)
   ·exact (p n).1 r
   rw [(p n).2 r];cases s:aa D.l n with
   | none=>rfl
   | some b=>
   refine absurd ((h n).2 ⟨?_,e.2⟩) r;rw [j];exact NQ.2 ⟨e9.2 ⟨(n,b),(bz c.ok.ord).1 s,rfl⟩,e.1⟩
  cases s:aa i.l (af id) with
  | none=>rfl
  | some b=>exact absurd (e9.2 ⟨id,(oE f.ok.ord).2 ⟨G,by rw [s];rfl⟩,rfl⟩) a
 rw [(q n).2 fun a=> ?_,(p n).2 fun a=> ?_]
 ·exact e (.inl ⟨(u n ((h n).1 a).1).1,((h n).1 a).2⟩)
 obtain ⟨x,g,rfl⟩:=e9.1 a;exact e (.inr ⟨x,(k x g).1,rfl⟩)
structure Packed (D:Dk) (ks:List (LU)) (b:LU):Prop where
 calm:CalmD D
 build:bl geS ks=some b
 files:D.l=pkF ks b
theorem Packed.objs (a:Packed D ks b):gZ geS ks:=by
 have:=a.build;unfold bl at this;split at this
 ·assumption
 cases this
theorem Packed.packs (a:Packed D ks b):ai geS D.l=some (pkP ks b):=by
 rw [a.files];exact LH a.build
theorem Packed.look (a:Packed D ks b) (id):aa D.l (af id)=none:=by
 rw [a.files];unfold pkF;split
 ·rfl
 refine (fZ (w8 ..)).2 fun d c=> ?_;obtain rfl:=i7.1 c;exact (yV id b).symm
theorem Packed.ids (a:Packed D ks b):bE D=[]:=by
 rw [List.eq_nil_iff_forall_not_mem];intro d c;have:=((oE a.calm.ok.ord).1 c).2;rw [a.look] at this;cases this
theorem LI {l} (c:(l.map (·.id)).Nodup) {p:Pt} (a:p∈l):bV l p.id=some p:=by
 unfold bV;induction l with
 | nil=>cases a
 | cons d l e=>
 rw [List.map_cons,NP] at c;rw [Pj];rcases i8.1 a with rfl | a
 ·simp
 have f:d.id≠p.id:=fun g=>c.1 (by rw [g];exact e9.2 ⟨p,a,rfl⟩);simp only [f,decide_false];exact e c.2 a
theorem Packed.get (c:Packed D ks b) {r} (d:r∈ks):aP geS D (pkP ks b) (idO r)= .ok r:=by
 have g:=c.objs;obtain ⟨a,f,rfl⟩: ∃a∈eA [] 0 ks,a.raw=r:=by
  have:r∈(eA [] 0 ks).map (·.raw):=by rw [vC];exact d
  exact e9.1 this
 have h:=(mI (lY dD c.build)).2.1 a f |>.2;have i:=LI (l:=eA [] 0 ks) (by rw [jQ];exact g.2.2) f;have j:el (pkP ks b) (idO a.raw)=some a.raw:=by
  unfold pkP;rw [if_neg (fun e=>by rw [e] at d;cases d),mF];have e:(idO a.raw).data.toList=a.id:=by rw [h];simp [idO,idS]
  rw [e];simp only;rw [i]
 unfold aP;rw [oD (dO _) (c.look _)];simp only [if_true];rw [j]
theorem Lz (e:Just D os) (I: ∀r∈ks,r∈os) (J:(ks.map idO).Nodup) (c:bl geS ks=some b) (K:ks≠[]->83+(b:Int)<=frD D):
  ∃D',cP geS D [] (bF geS D [] (ks.map idO))=((0,D'),pkP ks b)/\Packed D' ks b/\D'.cap=D.cap:=by
 have B: ∀D':Dk,Packed D' ks b->gA geS D' []=pkP ks b:=fun D' L=>by
  unfold gA;rw [L.packs];rfl
 rw [yU (fun r g=>by rw [yS];exact e.get (I r g)) J c];have h:=e.calm.ok.ord;unfold pkB;by_cases j:ks=[]
 ·obtain ⟨D',d,p,M,l⟩:=qW e.calm e.packs eS;have q:Packed D' ks b:=⟨p,c,jx p.ok.ord (by unfold pkF;rw [if_pos j];exact Ny) fun x=>by
   unfold pkF;rw [if_pos j];by_cases a:aD x=true/\x≠⟨#[]⟩\/ ∃k:BA,k.size=32/\x=af k
   ·exact (l x).1 a
   ·rw [(l x).2 a];cases s:aa D.l x with
    | none=>rfl
    | some p=>
     obtain ⟨r,_,g,_⟩:=e.fo.look h s;exact absurd (.inr ⟨_,dO r,g⟩) a⟩
  refine ⟨D',?_,q,M⟩;rw [if_pos j];unfold cP;simp only;rw [d];simp only;rw [B D' q]
 have C:=iM c;obtain ⟨h0,N,O,P,E⟩:=qU C;have F: ∀x,aD x=true\/bi x=true->aa D.l x=none:=fun x a=>by
  cases s:aa D.l x with
  | none=>rfl
  | some p=>
  obtain ⟨r,_,g,_⟩:=e.fo.look h s;rw [g,mi,(gg (dO r)).2.2.1] at a;rcases a with a | a<;>cases a
 have G:aa D.l (shd (ap b))=none:=F _ (.inr (tE _));have Q:=F _ (.inl E);have R:=iN C;have g:=K j;rw [if_neg j];unfold cP;simp only;rw [Q,if_neg (by simp)];rcases tG e.calm (n:=ap b) (b:=b) (fun _=>G) with d | ⟨_,d,_⟩ | ⟨_,_,_,S,d,v,T,U,V⟩
 ·have W:=rB h e.calm.dark (ap b) b;rcases W with ⟨X,_⟩ | ⟨_,_,_,hO⟩
  ·rcases X with c | c | c
   ·rw [N] at c;cases c
   ·exact absurd c P
   rw [O] at c;cases c
  rw [d] at hO;rcases hO.way with ⟨w,_⟩ | ⟨⟨w,_⟩ | ⟨w,_⟩,_⟩<;>cases w
 ·rw [R] at d;omega
 have y:=jx v.calm.ok.ord (ef h) fun x=>by
  rw [cF h];by_cases a:x=ap b
  ·rw [if_pos a,a,T]
  rw [if_neg a];by_cases o:x=shd (ap b)
  ·rw [o,U,G]
  exact V x a o
 have Y: ∃m,ai geS S.l=some m:=by
  have Z: ∀{l:List Fil},(∀i∈l,i=(ap b,b)\/aD i.1=false)-> ∃m,ai geS l=some m:=by
   intro l;induction l with
   | nil=>exact fun _=>⟨_,rfl⟩
   | cons i r a0=>
   intro f;obtain ⟨m,u⟩:=a0 fun b0 c0=>f b0 (k8 _ c0);rcases f i (j8 ..) with rfl | f
   ·refine ⟨(ap b,eA [] 0 ks)::m,?_⟩;rw [ai,if_pos E];simp only;rw [lY dD c];simp only;rw [if_pos trivial,u];rfl
   exact ⟨m,by rw [ai,if_neg (by rw [f];decide)];exact u⟩
  refine Z fun i f=> ?_;rw [y] at f;rcases gc i f with d | d0
  ·exact .inl d
  obtain ⟨r,_,d⟩:=e.fo i d0;exact .inr (by rw [d];exact mi _)
 obtain ⟨m,u⟩:=Y;obtain ⟨z,e0,H,f0,A⟩:=qW v.calm u (ap b);have q:Packed z ks b:=⟨H,c,jx H.ok.ord (by unfold pkF;rw [if_neg j];exact w8 ..) fun x=>by
  unfold pkF;rw [if_neg j];by_cases a:x=ap b
  ·rw [(A x).2 fun t=> ?_,y,cF h,if_pos a,a]
   ·exact ((bz (w8 ..)).2 (i7.2 rfl)).symm
   rcases t with ⟨_,t⟩ | ⟨k,_,t⟩
   ·exact t a
   exact yV k b (t.symm.trans a)
  ·have g0:aa [(ap b,b)] x=none:=(fZ (w8 ..)).2 fun i f=>by
    obtain rfl:=i7.1 f;exact fun d=>a d.symm
   rw [g0];by_cases o:aD x=true/\x≠ap b\/ ∃k:BA,k.size=32/\x=af k
   ·exact (A x).1 o
   ·rw [(A x).2 o,y,cF h,if_neg a];cases s:aa D.l x with
    | none=>rfl
    | some p=>
     obtain ⟨r,_,g,_⟩:=e.fo.look h s;exact absurd (.inr ⟨_,dO r,g⟩) o⟩
 refine ⟨z,?_,q,f0.trans v.cap⟩;rw [d,if_neg (fun e=>e rfl)];simp only;rw [e0];simp only;rw [B z q]
theorem LA (a:Packed D ks b) {b0} (i:bl geS []=some b0): ∃D',cP geS D (pkP ks b) (bF geS D (pkP ks b) [])=((0,D'),[])/\CalmD D'/\D'.l=[]:=by
 obtain ⟨D',j,d,m,l⟩:=qW a.calm a.packs eS;have c:=jx d.ok.ord Ny fun x=>by
  by_cases e:aD x=true/\x≠⟨#[]⟩\/ ∃f:BA,f.size=32/\x=af f
  ·exact (l x).1 e
  rw [(l x).2 e,a.files];unfold pkF;split
  ·rfl
  cases c:aa [(ap b,b)] x with
  | none=>rfl
  | some d=>
  have:=(bz (w8 ..)).1 c;have g:x=ap b:=by
   have:=i7.1 this;injection this
  exact absurd (.inl ⟨by rw [g];exact (qU (iM a.build)).2.2.2.2,by rw [g];exact qM b⟩) e
 refine ⟨D',?_,d,c⟩;have h:=yU (D:=D) (P:=pkP ks b) (ks:=[]) (fun n k=>by cases k) On i;rw [show ([]:List (LU)).map idO=[] from rfl] at h;rw [h];unfold pkB cP;simp only [if_true];rw [j];simp only;unfold gA;rw [c];rfl
end
section
variable {w w1 w':World} {base gp gs g m:Nat} {xs:List PkA} {D:Dk}
theorem Tw3.below (a:Below w w w'):Tw3 w w' g m gs:=⟨a.os,a.tape,a.output,a.size,fun b c _ _ _=>a.block b c⟩
theorem Tw3.tw (a:Tw w w' g m):Tw3 w w' g m gs:=⟨a.os,a.tape,a.output,a.size,fun b c d e _=>a.block b c d e⟩
theorem Tw3.grown (a:w.grownBy w' (some gs)):Tw3 w w' g m gs:=⟨a.os,a.tape,a.output,a.size,fun b c _ _ d=>a.block b c (fun e=>d (by injection e))⟩
theorem Tw3.step (a:Tw3 w w1 g m gs) (b:Tw3 w1 w' g m gs):Tw3 w w' g m gs:=
 ⟨b.os.trans a.os,b.tape.trans a.tape,b.output.trans a.output,lT a.size b.size,fun c d e f h=>(b.block c (r9 d a.size) e f h).trans (a.block c d e f h)⟩
theorem Dsk.blkO (f:Dsk w g m D) {x T cs} (b:Blk w x T cs) (h:T≠145) (i:T≠5) (c:w.grownBy w' (some x)):Dsk w' g m D:=by
 obtain ⟨j,d,e,k⟩:=f;refine ⟨j,d.grown c (fun a=> ?_),e.grown c (fun a=> ?_),k.keep c (v8 b i (zL))⟩
 ·injection a with a;subst a;unfold Blk at d b;rw [d] at b;injection b with a;injection a with _ a;exact h a.symm
 injection a with a;exact e.blk_ne b a.symm
def LK (w:World) (gs g m base gp:Nat) (xs:List PkA) (r:(Int×Dk)×List Pk) (d:Ending) (w':World):Prop:=
 d= .returned (.int .i64 r.1.1)/\Tw3 w w' g m gs/\ ∃a b c,Sto w' gs g m a b r.1.2 c/\Hid (c.map PkA.pk=r.2)/\(a=base/\b=gp/\c=xs\/w.heap.size<=a/\w.heap.size<=b)
theorem qH (F:Sto w gs g m base gp D xs) (R:OkG kac kab D) (j0:D.l.length+1<=kac) (B0:cQ (xs.map PkA.pk)) (C0:xs.length<=kac) (A n ids c) (G:ids.length=n) (k0:Rd w w 1 A n (sc ids)) (D0:n<=kad) (l0: ∀x∈ids,x.size<=70368744177600):
  Calls an 58 #[.pointer (some gs),.slice A n c] w (LK w gs g m base gp xs (cP geS D (xs.map PkA.pk) (bF geS D (xs.map PkA.pk) ids))):=by
 have S:OkW D:=R.mono (lR _) (by decide);have T:=qI (yF F S B0 C0 A n ids c G k0 D0 l0);obtain ⟨m0,s⟩:=gX (bF geS D (xs.map PkA.pk) ids);obtain ⟨h,t⟩:=gH (cP geS D (xs.map PkA.pk) m0);rw [<-s] at T;rw [<-s,<-t];clear G k0 l0;go_in;go_wp2_with fail;refine T.mono ?_;rintro a w1 ⟨H,I⟩;have d:=F.below H;have U:=qI (hW d);clear T;have E0:(∃i,i≠0/\Hid (h=((i,D),xs.map PkA.pk))/\a= .returned (.tuple #[eS,eL,.int .i64 i]))\/
   ∃(nm:BA) (b:LU) (q:OA) (k:Nat),a= .returned (.tuple #[nm,.slice q b k,i0])/\Hid (svB D nm=true->Far w1 0 q b/\b<=k/\k<=maxLen/\b.length<=kab)/\nm.size<=66/\
    Hid (h=if svB D nm=true then (if (ao D nm b).1≠0 then (ao D nm b,xs.map PkA.pk) else kw geS (ao D nm b).2 (xs.map PkA.pk) nm) else kw geS D (xs.map PkA.pk) nm):=by
  cases m0 with
  | error i=>exact .inl ⟨i,yJ s.symm,t.out,I⟩
  | ok F0=>
  cases F0 with
  | none=>exact .inr ⟨⟨#[]⟩,[],none,0,I,qI (fun F=>absurd F (by unfold svB;simp)),by decide,t.out⟩
  | some G0=>
  obtain ⟨nm,b⟩:=G0;obtain ⟨n0,H0,I0⟩:=yI s.symm;obtain ⟨l,q,k,J0,rfl,K0,V,W⟩:=I;obtain rfl:l=b:=J0.out;have L0:nm.size=66:=by rw [n0];exact iN H0
  have M0:svB D nm= !(aa D.l nm).isSome:=by
   unfold svB;rw [dT (by rw [n0];exact qM _),Bool.true_and]
  refine .inr ⟨nm,l,q,k,rfl,qI (fun _=>⟨J7 (s7 K0),V,W,I0⟩),qO,?_⟩;unfold Hid;rw [t,M0];unfold cP kw;simp only;cases (aa D.l nm).isSome<;>simp
 clear I s t;rcases E0 with ⟨i,o0,e,rfl⟩ | ⟨nm,b,q,k,rfl,X,L0,e⟩
 ·have N0:=bne_iff_ne.2 o0;clear o0;go_wp2_with fail;refine U.mono ?_;rintro a p0 ⟨rfl,u⟩;obtain rfl:=u.symm;go_wp2_with fail;go_ret;rw [e];exact ⟨rfl,Tw3.below H,base,gp,xs,d,rfl,.inl ⟨rfl,rfl,rfl⟩⟩
 obtain ⟨J,Y⟩:=gX (svB D nm);have Z:=qI Y;rw [<-Y] at X e;go_wp2_with fail;refine U.mono ?_;rintro a p0 ⟨rfl,u⟩;obtain rfl:=u.symm;clear U Y;go_upto_region 6 with (fail);go_cut [34] (fun O0 K=>O0= .bool J/\K=w1)
 case first=>
  have q0:w1.cell? gs=some (.pointer (some g)):=by rw [d.st.cell];rfl
  have r0:=qI (jf d.dk S.ord nm (by unfold maxLen;omega));by_cases L:nm=⟨#[]⟩
  ·subst L;have a0:J=false:=Z.out;clear r0;go_wp2_with fail
   all_goals (go_meet;exact ⟨by rw [a0],rfl⟩)
  have P0:=yH L;have i1:nm.toList.isEmpty=false:=by
   cases Q0:nm.toList with
   | nil=>exact absurd Q0 P0
   | cons j1 l=>rfl
  have a0:J= !(aa D.l nm).isSome:=by rw [Z];unfold svB;rw [dT L,Bool.true_and]
  clear L;go_wp2_with fail;refine r0.mono ?_;rintro a p0 ⟨rfl,u⟩;obtain rfl:=u.symm;go_wp2_with fail
  all_goals (go_meet;exact ⟨by rw [a0];cases aa D.l nm<;>rfl,rfl⟩)
 case rest=>
 obtain ⟨rfl,R0⟩:=hcut;obtain rfl:=R0.symm;go_upto_if 34 with (fail);go_cut [4] (fun S0 K=>S0= .int .i64 0/\ ∃v,Sto K gs g m base gp v xs/\Tw w1 K g m/\OkG kac kab v/\Hid (h=kw geS v (xs.map PkA.pk) nm))
 case first=>
  cases J with
  | false=>
   go_wp2_with fail
   all_goals (go_meet;exact ⟨rfl,D,d,Tw.refl _ _ _,R,e⟩)
  | true=>
  obtain ⟨T0,V,W,U0⟩:=X.out rfl;have q0:w1.cell? gs=some (.pointer (some g)):=by rw [d.st.cell];rfl
  have b0:=qI (tv d.dk S nm qO q b k qO j0 qO 0 T0 V W (zL) (zL) (zL));have M:=R.save nm b j0 U0;obtain ⟨r,f⟩:=gX (ao D nm b);rw [<-f] at b0 e M;obtain ⟨N,y⟩:=r;clear f;by_cases O:N=0
  ·subst O;have o:Hid (h=kw geS y (xs.map PkA.pk) nm):=e;go_wp2_with fail;refine b0.mono ?_;rintro a c0 ⟨rfl,p,j⟩;go_wp2_with fail
   all_goals (go_meet;exact ⟨rfl,y,d.tw j p,j,M,o⟩)
  have o:Hid (h=((N,y),xs.map PkA.pk)):=e.out.trans ((if_pos rfl).trans (if_pos O));have N0:=bne_iff_ne.2 O;clear O e;go_wp2_with fail;refine b0.mono ?_;rintro a c0 ⟨rfl,p,j⟩;go_wp2_with fail;go_ret;rw [o];exact ⟨rfl,(Tw3.below H).step (Tw3.tw j),base,gp,xs,d.tw j p,rfl,.inl ⟨rfl,rfl,rfl⟩⟩
 case rest=>
 obtain ⟨rfl,v,s0,V0,t0,o⟩:=hcut;have u0:=qI (Li s0 t0 nm);clear e X d Z;go_wp2_with fail;refine u0.mono ?_;obtain ⟨r,f⟩:=gX (bm geS v nm);have M:OkG kac kab r.2:=by rw [f];exact t0.clear geS nm
 have d0:Hid (h.1=r):=by unfold Hid;rw [o,f];rfl
 rw [<-f];have k1:=qI f;rintro a c0 ⟨rfl,p,j⟩;have z:=s0.tw j p;have q0:c0.cell? gs=some (.pointer (some g)):=by rw [z.st.cell];rfl
 have v0:=qI (qK p M);obtain ⟨w0,e0⟩:=gX (ai geS r.2.l);rw [<-e0] at v0;have x0:Hid (h.2=w0.getD (xs.map PkA.pk)):=by
  unfold Hid;rw [o,e0,f];rfl
 obtain ⟨N,y⟩:=r;obtain ⟨⟨W0,X0⟩,l1⟩:=h;have y0:Hid (W0=N):=congrArg PM d0.out;have z0:Hid (X0=y):=congrArg Prod.snd d0.out;have f0:=(Tw3.below (g:=g) (m:=m) (gs:=gs) H).step ((Tw3.tw V0).step (Tw3.tw j));clear f e0 o d0 u0;go_wp2_with fail;refine v0.mono ?_;cases w0 with
 | none=>
  rintro a P ⟨B,rfl⟩;go_wp2_with fail;go_ret;have g0:=y0.out;have h0:=z0.out;subst g0 h0;exact ⟨rfl,f0.step (Tw3.below B),base,gp,xs,z.below B,x0.symm,.inl ⟨rfl,rfl,rfl⟩⟩
 | some m1=>
 rintro a P ⟨B,Y0,Q,Z0,a1,b1,c1,d1,e1,rfl,n1,o1,A0⟩;have C:=z.below B;have f1:=C.st.set 1 (.pointer (some Q));have p1:=C.st.free 1;have q1:P.cell? ⟨gs,1,none⟩=some (.pointer (some gp)):=by rw [C.st.cell];rfl
 have E:P.grownBy (P.setCell ⟨gs,1,none⟩ (.pointer (some Q))) (some gs):=ae (gR _ _) 1 _;have r1:=f0.size;have s1:=z.st.lt;obtain ⟨t1,u1⟩:=p.lt;have g1:=A0.keep (E.block Q A0.blk.lt (fun a=>by injection a;omega)) (fun i v1 G=>E.block i G (fun a=>by injection a;omega)) E.size;have h1:=Dsk.blkO C.dk C.st (by decide) (by decide) E;have x1:=z.lt;go_wp2_with fail;go_ret;have g0:=y0.out;have h0:=z0.out;subst g0 h0;exact ⟨rfl,(f0.step (Tw3.below B)).step (Tw3.grown E),Y0,Q,Z0,⟨f1,h1,qO,a1,b1,c1,d1,0,_,g1⟩,e1.out.trans x0.symm,.inr ⟨qO,qO⟩⟩
end
