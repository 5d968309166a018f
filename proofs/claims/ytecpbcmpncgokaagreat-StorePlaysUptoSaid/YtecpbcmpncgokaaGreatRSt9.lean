/- Walks and laws. Conditions: as stated. -/
import Derived.Test.YtecpbcmpncgokaaGreatStoRep
import Derived.Test.YtecpbcmpncgokaaGreatRPk5
set_option maxRecDepth 99999
set_option maxHeartbeats 25600000
set_option linter.all false
open Go.Proofs.Tryz renaming prog->an
open Go.RowKit Go.Dol
namespace Go.Dol
def hP (ge:BA->BA->Bool) (D:Dk) (P:List Pk) (a:Obj):Except Int BA×Dk:=if ay ge a=true then cz ge D P (ct a) else (.error 1,D)
end Go.Dol
namespace Go.Proofs.YtecpbcmpncgokaaGreat
structure RSto (w:World) (gs gr:Nat) (D:Dk):Prop where
 st:Blk w gs 119 [.pointer (some gr)]
 dk:Rdk w gr D
 ne:gs≠gr
section
variable {w w':World} {gs gr:Nat} {D:Dk} {P:List Pk}
theorem RSto.below (a:RSto w gs gr D) (b:Below w w w'):RSto w' gs gr D:=⟨a.st.below b a.st.lt,a.dk.below b,a.ne⟩
theorem RSto.grown {D2} (a:RSto w gs gr D) (b:Rdk w' gr D2) (c:w.grownBy w' (some gr)):RSto w' gs gr D2:=⟨a.st.grown c (fun d=>a.ne (by injection d)),b,a.ne⟩
theorem RSto.cell (a:RSto w gs gr D):w.cell? gs=some (.pointer (some gr)):=by rw [a.st.cell];rfl
theorem xf (s w) (l:s.size<=maxLen):Calls an 70 #[.string s] w fun f w'=>f= .returned (.bool (aD s))/\w'=w:=by
 have o:s.size<=kal:=by unfold maxLen at l;omega
 have i:((s.extract 0 2).toList==[112,47])=decide (s.data.toList.take 2=[112,47]):=by
  have h:=oz s ⟨#[112,47]⟩;rw [t8 ⟨#[112,47]⟩] at h;exact h
 by_cases e:2<=s.size
 ·obtain ⟨a,j⟩: ∃a,s.size=a+1:=⟨s.size-1,qO⟩;have m:a<s.data.toList:=by rw [aC];omega
  have q:a<s.size:=qO;have g:=wG j m;have r:(2:Int)<=(s.size:Int):=qO;by_cases c:s.data.toList.take 2=[112,47]
  ·rw [dT c] at i;have t:IntKind.i64.wrap (s.size-1)=(a:Int):=by rw [qJ qO];omega
   have u:=ltI a s.size;have v:=zeI a;obtain ⟨d,b⟩:=gX (s.data.toList[a]);have x: ∀h:a<s.size,(s[a]'h).toNat=d.toNat:=fun h=>by rw [pV s h,b]
   rw [<-b] at g;have k:Hid (aD s= !decide (d=126)):=by unfold Hid aD;rw [dT c,g];rfl
   clear g b j c;by_cases b:d=126
   ·have n:((d.toNat:Int)!=126)=false:=by rw [b];rfl
    have HQ:Hid (aD s=false):=by unfold Hid;rw [k,dT b];rfl
    clear b e;exact z88
   have n:((d.toNat:Int)!=126)=true:=bne_iff_ne.2 fun f=>b (C9.1 (by show d.toNat=126;omega));have HQ:Hid (aD s=true):=by unfold Hid;rw [k,qF b];rfl
   clear b e;exact z88
  rw [qF c] at i;have HQ:Hid (aD s=false):=by unfold Hid aD;rw [qF c];rfl
  clear g j c e;exact z88
 have y:=dfX ((s.size:Int)>=2);have HQ:Hid (aD s=false):=by
  unfold Hid aD;rw [qF (fun f=>e ?_)]
  ·rfl
  have:=congrArg List.length f;rw [b9,aC] at this;simp at this;omega
 clear i e;exact z88
theorem qc (A b c w) (j:Rd w w.heap.size 1 A b.length (bc b)) (l:b.length<=c) (m:c<=maxLen) (n:32<=b.length) (y:b.length<=kaa):
  Calls an 72 #[.slice A b c] w fun f w'=>f= .returned (.string (ap b))/\Below w w w':=by
 have g:=qiJ (b-32);obtain ⟨e,o,p,h,z,B,q,_,_,_,C⟩:=cm (k:=b.length-32) ((b:Int)-32) qO j qO l m;obtain ⟨a,d⟩: ∃a:BA,a=idS e:=⟨_,rfl⟩;have E:(convert 36 9 (.slice o e p)).run an w= .ok (.string a) w:=by rw [d];exact bA q.1
 have r:a.size=32:=by
  rw [d];show e.toArray.size=32;rw [List.size_toArray,h,b8];omega
 have i:a.data.toList=b.drop (b.length-32):=by rw [d,fM,h]
 have s:=qI (tI a w qO);have t:=qI i;clear d r i;go_in;go_wp2_with fail;refine s.mono ?_;rintro f g ⟨u,v,rfl,x⟩;have F:=xg u b g (by rw [v,t]) n;go_wp2_with fail;go_ret;exact ⟨rfl,x⟩
def pnL (D:Dk):List BA:=(D.l.map Prod.fst).filter aD
def IZ (ns:List BA) (w:World) (v i:Value) (wr:World):Prop:=
 ∃(b:Nat) (ys:List BA) (a:Nat) (c:OA) (d:Nat),v= .slice c a d/\i= .int .i64 b/\b<=ns/\Hid (ys=(ns.take b).filter aD)/\Hid (ys=a)/\a<=b/\wr.ownsRow w 9 1 (.slice c a d) a (sc ys)/\Below w w wr
theorem mA (h:RSto w gs gr D) (hK:OkW D):Calls an 31 #[.pointer (some gs)] w fun g w'=> ∃(ys:List BA) (A:OA) (c:Nat),Hid (ys=pnL D)/\g= .returned (.slice A ys.length c)/\w'.ownsRow w 9 1 (.slice A ys.length c) ys.length (sc ys)/\Below w w w':=by
 have C:=h.cell;have s:=hK.len;have t:=qI (tO h.dk s);obtain ⟨b,hns⟩:=gX (D.l.map Prod.fst);have m:D.l.length=b:=by rw [hns,g7]
 have u: ∀n∈b,n.size<=200:=by
  exact z197
 have E:Hid (pnL D=b.filter aD):=by unfold Hid;rw [hns];rfl
 have F:=qI u;clear u;go_in;go_wp2_with fail;refine t.mono ?_;rintro g v ⟨A,c,rfl,x,hb⟩;rw [<-hns,m] at x;rw [m] at s ⊢;clear hns m t C;go_wp2_with fail;go_loopw [3,5] (fun G i wr=>IZ b v G i wr) (fun _ i _=>b-(intOf i).toNat)
 case atStart=>exact ⟨0,[],0,none,0,rfl,rfl,zL,rfl,rfl,lR _,j9 _ _ _ _,bR _ _⟩
 case round=>
  obtain ⟨d,ys,n,A5,c5,rfl,rfl,S,o,hyn,T,ho5,hbr⟩:=hrel;have U:=qiJ (d+1);by_cases H:d<b
  ·have V:=ltI d b.length;have W:=zeI d;obtain ⟨a,j⟩: ∃a,b[d]?=some a:=⟨b[d],gE H⟩;have X:=F.out a (g8 j);obtain ⟨Y,Z,rfl,a0,y⟩:=((d8 x).below hbr).at_ qO;have b0:=y _ _ (by rw [sc,m7,j];rfl);have z:Hid ((b.take (d+1)).filter aD=(b.take d).filter aD++if aD a=true then [a] else []):=by
    unfold Hid;rw [t7,j,List.filter_append];cases I:aD a<;>simp [I]
   have k:=qI (xf a wr (by unfold maxLen;omega));clear y j;cases e:aD a with
   | true=>
    rw [e] at k;have q:=qI e;have c0:=hbr.size;have B:=bAl wr (.cells #[.string a] 9);have J:=az ho5 B;have K:=NX wr 9 (.string a);clear e;go_wp2_with fail;refine k.mono ?_;rintro g L ⟨rfl,r⟩;obtain rfl:=r.symm;go_wp2_with (at_builtin;refine kB rfl _ _ 38 9 (.string ⟨#[]⟩) 16 rfl q9 ib rfl v.heap.size (.slice A5 n c5) n (sc ys) rfl J _ _ 1 1 [.string a] rfl K (by intro d0 M;obtain rfl:=i7.1 M;rfl) (by unfold maxLen;omega) (by omega) (by simp;omega) ?_;intro N O e0 Q R f0 _ _ _);go_wp2_with fail;refine ⟨⟨d+1,ys++[a],n+1,N,O,rfl,by go_num,qO,qI (by rw [z,if_pos q.out,o]),qI (by rw [b7,hyn];rfl),qO,?_,(hbr.next B).trans R⟩,by simp [intOf];omega⟩;rw [iX];exact Q
   | false=>
   rw [e] at k;have q:=qI e;clear e;go_wp2_with fail;refine k.mono ?_;rintro g L ⟨rfl,r⟩;obtain rfl:=r.symm;go_wp2_with fail;exact ⟨⟨d+1,ys,n,A5,c5,rfl,by go_num,qO,qI (by rw [z,q,o];simp),hyn,qO,ho5,hbr⟩,by simp [intOf];omega⟩
  have hall:Hid (ys=pnL D):=by
   unfold Hid;rw [E,o,i9 qO]
  exact z161
end
theorem xh {D} (a:OkG kac kab D) {P:List Pk} (f:ai geS D.l=some P) {k:Nat} {p:Pk} (g:P[k]?=some p): ∃b,aU D p.1=(b,0)/\aa D.l p.1=some b/\ba geS b=some p.2/\b.length<=140737488351232/\p.1.size<=200:=by
 obtain ⟨b,d,_,h,_⟩:=(eV f).2 p (g8 g);have c:=(bz a.ord).2 d;have e:=a.names _ d;refine ⟨b,?_,c,h,a.look c,dN e⟩;unfold aU;rw [if_neg (by rw [e];decide),c]
section
variable {w w':World} {gs gr:Nat} {D:Dk} {P:List Pk}
theorem mB (a:ai geS D.l=some P):pnL D=P.map Prod.fst:=(mC a).symm
theorem mD (h:RSto w gs gr D) (O:OkG kac kab D) (g:ai geS D.l=some P) (id) (p0:id.size<=70368744177600):
  Calls an 74 #[.pointer (some gs),.string id] w (RetGet w (aP geS D P id)):=by
 have q:OkW D:=O.mono (lR _) (by decide);obtain ⟨r,v⟩:=gH (aP geS D P id);rw [<-v];have q0:=h.cell;have Q:=qI (tJ h.dk q id p0);go_in;go_wp2_with fail;refine Q.mono ?_;obtain ⟨x,hq⟩:=gX (aK geS D id);rw [<-hq];have r0:x= .error 6->id.size=32:=fun e=>by
  exact z272
 have hr2:Hid (r=mE P id x):=by unfold Hid;rw [v,xi,hq]
 clear hq v Q;intro e N0 h1;cases x with
 | ok b=>
  exact z91
 | error a=>
 obtain ⟨hb1,rfl⟩:=h1;by_cases s:a=6
 ·subst s;have R:=r0 rfl;have hr3:Hid (r=match el P id with | some r=> .ok r | none=> .error 6):=hr2.out;have h1:=h.below hb1;have S:=qI (mA h1 q);have t:=h1.cell;clear hr2 q0 h;go_wp2_with fail;refine S.mono ?_;rintro e s0 ⟨c,O0,P0,T,rfl,t0,U⟩;have V:=hb1.next U;have u0:=h1.below U;have j:Hid (c=P.map Prod.fst):=by unfold Hid;rw [T];exact mB g
  have Q0:c.length<=kac:=by rw [j,g7];exact lT (eV g).1 q.len
  clear T S t;go_wp2_with fail;go_loopw [9] (fun i wr=>xj P c id s0 i wr) (fun i _=>c-(intOf i).toNat)
  case atStart=>exact ⟨0,rfl,zL,rfl,bR _ _⟩
  case round=>
   obtain ⟨a,rfl,R0,W,k⟩:=hrel;have S0:=qiJ (a+1);have v0:=V.next k;by_cases w0:a<c
   ·have T0:=ltI a c.length;have U0:=zeI a;have y:a<P:=by have:=w0;rw [j,g7] at this;exact this
    obtain ⟨p,m⟩: ∃p,P[a]?=some p:=⟨P[a],gE y⟩;obtain ⟨b,X,Y,Z,x0,V0⟩:=xh O g m;have z:=u0.below k;have t:=z.cell;obtain ⟨A,B,rfl,y0,a0⟩:=((d8 t0).below k).at_ qO;have C:wr.cell? ⟨A,B+a,none⟩=some (.string p.1):=a0 _ _ (by rw [sc,j,w9,m7,m];rfl);have E:=jA z.dk.drew p.1 (by unfold maxLen;omega) (by have:=q.len;omega) (fun W0 u=>by rw [Y] at u;injection u with u;rw [<-u];omega);rw [X] at E;have b0:=qI E;have c0:P.drop a=p::P.drop (a+1):=by
     rw [l8 y];congr 1;have:=gE y;rw [m] at this;exact z146
    have n:=qI W.out;rw [c0,mF] at n;have z0:=qI ((hJ g p (g8 m)).2);have d0:=qI Z;clear a0 m c0 X Y Z E g;go_wp2_with fail;go_region_held3 (fun e0=>e0.cell? gs=some (.pointer (some gr))/\e0.cell? ⟨A,B+a,none⟩=some (.string p.1)) (first | exact ⟨t,C⟩ | exact ⟨f0,g0⟩ | go_keep)
     ((go_at_call 90;(with_reducible refine b0.out.mono ?_);rintro e h0 ⟨i0,A0,B0,j0,rfl,F,o⟩;have G:Below wr wr h0:=⟨o.os,o.tape,o.output,o.size,o.block⟩;have f0:=(z.below G).cell;have g0:=((G.cell (p:=⟨A,B+a,none⟩) (r9 y0 k.size)).trans C)))
    have C0:=k.next G;have H:=dz F;have I:=qI (pX A0 i0 B0 h0 (d8 F) H.1 H.2 (by rw [j0];exact x0));rw [show ba geS i0=some p.2 by rw [j0];exact d0.out] at I;clear d0 b0 t C f0 g0 F H;go_wp2_with fail;refine I.mono ?_;rintro e D0 ⟨E0,l,F0,G0,k0,rfl,J,H0⟩;have l0:=C0.next E0;have d:=IN F0 l G0 id D0 _ (d8 J.1) H0 (fun K m0=>⟨(J.2 K m0).1.rd,by have:=z0.out K.p (by rw [<-k0];exact e9.2 ⟨K,m0,rfl⟩);omega⟩) (by unfold maxLen;omega);rw [k0] at d;clear I J;cases f:bV p.2 id.data.toList with
    | none=>
     rw [show dY p.2 id= .error 6 by unfold dY;rw [if_pos R,f]] at d;have I0:Hid (el P id=el (P.drop (a+1)) id):=by
      have h9:=n.out;rw [f] at h9;exact h9
     have L:=qI d;clear d f n;go_wp2_with fail;refine L.mono ?_;rintro e J0 ⟨M,rfl⟩;go_wp2_with fail;exact ⟨⟨a+1,by go_num,qO,I0,l0.next M⟩,by simp [intOf];omega⟩
    | some n0=>
    rw [show dY p.2 id= .ok n0.raw by unfold dY;rw [if_pos R,f]] at d;have N:Hid (r= .ok n0.raw):=by
     have h9:=n.out;rw [f] at h9;unfold Hid;rw [hr3,h9]
    have L:=qI d;clear d f n;go_wp2_with fail;refine L.mono ?_;rintro e J0 ⟨M,q',K0,L0,hq',rfl,M0,i1,i2⟩;have o0:=V.next l0;go_wp2_with fail;go_ret2;rw [N];exact ⟨o0.next M,q',K0,L0,hq',rfl,M0.base o0.size,i1,i2⟩
   have N:Hid (r= .error 6):=by
    unfold Hid;rw [hr3,W,p9 (by have h9:c.length=P:=(by rw [j,g7]);omega)];rfl
   clear j;go_wp2_with fail;go_ret2;rw [N];exact ⟨v0,rfl⟩
 have hr3:Hid (r= .error a):=by
  unfold Hid;rw [hr2];exact if_neg s
 have X0:=bne_iff_ne.2 s;clear hr2 s;go_wp2_with fail;go_ret2;rw [hr3];exact ⟨hb1,rfl⟩
end
theorem RetPutS.ok {w w' gs g m base gp xs id D e} (a:RetPutS w gs g m base gp xs (.ok id,D) e w'):e= .returned (.tuple #[.string id,i0])/\Sto w' gs g m base gp D xs/\Tw w w' g m:=a
theorem RetPutS.err {w w' gs g m base gp xs k D e} (a:RetPutS w gs g m base gp xs (.error k,D) e w'):e= .returned (.tuple #[eS,.int .i64 k])/\Sto w' gs g m base gp D xs/\Tw w w' g m:=a
section
variable {w w':World} {base gp gs g m:Nat} {xs:List PkA} {D:Dk}
theorem yB (v:Sto w gs g m base gp D xs) (x:OkW D) (y:D.l.length+1<=kac) (z:cQ (xs.map PkA.pk)) (A:xs.length<=kac) (k Ad d cd Ae en ce tr Ap pa cp ta na wh st te)
  (o: ∀f,Below w w f->Calls an 37 #[.agg #[.int .i64 k,.slice Ad d.length cd,.slice Ae en.length ce,.string tr,.slice Ap pa.length cp,.string ta,.string na,.string wh,.int .i64 st,.string te]] f (RetEnc f ⟨k,d,en,tr,pa,ta,na,wh,st,te⟩)):
  Calls an 67 #[.pointer (some gs),.agg #[k,.slice Ad d cd,.slice Ae en ce,tr,.slice Ap pa cp,ta,na,wh,st,te]] w (RetPutS w gs g m base gp xs (hP geS D (xs.map PkA.pk) ⟨k,d,en,tr,pa,ta,na,wh,st,te⟩)):=by
 obtain ⟨h,b⟩:=gH (hP geS D (xs.map PkA.pk) ⟨k,d,en,tr,pa,ta,na,wh,st,te⟩);rw [<-b];have ha:=bAl w (.cells [.int .i64 k,.slice Ad d cd,.slice Ae en ce,.string tr,.slice Ap pa cp,.string ta,.string na,.string wh,.int .i64 st,.string te].toArray 40);have B:=o9 w 40 [k,.slice Ad d cd,.slice Ae en ce,tr,.slice Ap pa cp,ta,na,wh,st,te];have C:=qI (o _ ha);have p:=v.below ha;clear o;go_in;go_wp2_with ((refine wpList_load_row rfl 40 _ rfl w.heap.size rfl _ _ _ _ B Go.Proofs.Tryz.underlying40 rfl qkR ?_));refine C.mono ?_;rintro E K ⟨c,⟨a,l,F,G,i,rfl,q⟩ | ⟨a,rfl⟩⟩
 ·have r:=ha.next c;have L:l.length<=1048577:=by rw [i];exact pr a
  have H:=p.below c;have s:=dz q;have t:=qI (La H x y z A F l G (d8 q) s.1 s.2 qO);have e:h=cz geS D (xs.map PkA.pk) l:=by
   rw [b,i];exact if_pos a
  rw [<-e] at t;clear e a i b;go_wp2_with fail;refine t.mono ?_;intro E M u;obtain ⟨I,N⟩:=h;cases I with
  | ok J=>
   obtain ⟨rfl,j,n⟩:=RetPutS.ok u;go_wp2_with fail;go_ret2;exact ⟨rfl,j,(B7 r).step n⟩
  | error J=>
  obtain ⟨rfl,j,n⟩:=RetPutS.err u;go_wp2_with fail;go_ret2;exact ⟨rfl,j,(B7 r).step n⟩
 have e:Hid (h=(.error 1,D)):=b.out.trans (if_neg (by rw [a];decide));clear a b;go_wp2_with fail;go_ret2;rw [e];exact ⟨rfl,p.below c,B7 (ha.next c)⟩
theorem Lf (b:Sto w gs g m base gp D xs) (h:xs.length<=kaf):Calls an 22 #[.pointer (some gs)] w fun a w'=> ∃A c,a= .returned (.slice A xs c)/\w'.ownsRow w 9 1 (.slice A xs c) xs (sc (xs.map (·.n)))/\Below w w w':=by
 have i:=qI (hW b);obtain ⟨j,q,r,d,e,s,t,dn,u,f⟩:=b;have v:=j.c 1;have x:w.cell? gp=some (.slice d xs e):=by rw [f.blk.cell];rfl
 have k:=qI (vL d xs (xs.map (·.n)) e w (by rw [g7]) (d8 f.names) h);go_in;go_wp2_with fail;refine i.mono ?_;rintro a y ⟨rfl,l⟩;obtain rfl:=l.symm;go_wp2_with fail;refine k.mono ?_;rintro a z ⟨A,c,rfl,o,p⟩;go_wp2_with fail;go_ret;exact ⟨A,c,rfl,o,p⟩
end
abbrev cv (l:List Fil):Prop:=∀ a∈l,aD a.1=true->(ba geS a.2).isSome=true/\ap a.2=a.1
theorem mh: ∀{l:List Fil},cv l->(ai geS l).isSome=true
 | [],_=>rfl
 | f::r,b=>by
  have a:=mh fun d e=>b d (k8 _ e);unfold ai;split
  ·rename_i g;obtain ⟨c,h⟩:=b f (j8 ..) g;cases i:ba geS f.2 with
   | none=>rw [i] at c;cases c
   | some k=>
   simp only;rw [if_pos h];cases j:ai geS r with
   | none=>rw [j] at a;cases a
   | some m=>rfl
  exact a
theorem pG {l P} (a:ai geS l=some P):cv l:=by
 intro k b d;induction l generalizing P with
 | nil=>cases b
 | cons m h e=>
 unfold ai at a;split at a
 ·rename_i f;split at a
  ·cases a
  rename_i n i;split at a
  ·rename_i j;cases g:ai geS h with
   | none=>rw [g] at a;cases a
   | some o=>
   rcases i8.1 b with c | b
   ·rw [c];exact ⟨by rw [i];rfl,j⟩
   exact e g b
  cases a
 rename_i f;rcases i8.1 b with c | b
 ·rw [c] at d;exact absurd d f
 exact e a b
theorem pH: ∀l:List Fil,ai geS l=ai geS (l.filter fun f=>aD f.1)
 | []=>rfl
 | f::r=>by
  have a:=pH r;rw [List.filter_cons];cases b:aD f.1 with
  | true=>
   rw [if_pos rfl];unfold ai;rw [a]
  | false=>
  rw [if_neg (by decide),<-a]
  conv=>lhs;unfold ai
  rw [b];rfl
theorem vU {l m} (a:InOrder l) (b:InOrder m) (c: ∀x,aD x=true->aa m x=aa l x):ai geS m=ai geS l:=by
 rw [pH m,pH l,rE b a aD c]
theorem vV {l m} (e:InOrder l) (f:InOrder m) (g: ∀x b,aD x=true->aa m x=some b->aa l x=some b\/(ba geS b).isSome=true/\ap b=x) (h:cv l):cv m:=fun a i d=>by
 rcases g a.1 a.2 d ((bz f).2 i) with c | c
 ·exact h (a.1,a.2) ((bz e).1 c) d
 exact c
theorem GI (n):aD (shd n)=false:=by
 unfold aD;rw [tE];simp
section
variable {D:Dk}
theorem pI (f:OkW D) (n b) (i:InOrder (ao D n b).2.l):
  (∀x,aD x=true->x≠n->aa (ao D n b).2.l x=aa D.l x)/\(aa (ao D n b).2.l n=aa D.l n\/(ao D n b).1=0/\aa (ao D n b).2.l n=some b):=by
 cases g:D.dark with
 | true=>
  have a:(ao D n b).2=D:=by
   unfold ao;split<;>rfl
  rw [a];exact ⟨fun _ _ _=>rfl,.inl rfl⟩
 | false=>
 rcases rB f.ord g n b with ⟨_,a⟩ | ⟨_,_,_,d⟩
 ·rw [a];exact ⟨fun _ _ _=>rfl,.inl rfl⟩
 refine ⟨fun x e h=>d.oth x h fun a=> ?_,?_⟩
 ·rw [a,GI] at e;cases e
 rcases d.way with ⟨a,c,_⟩ | ⟨_,c⟩
 ·exact .inr ⟨a,c⟩
 exact .inl c
theorem GJ (a:OkG kac kab D) (d:D.l.length+1<=kac) (raw):ai geS (Go.Dol.putO geS D raw).2.l=ai geS D.l:=by
 by_cases e:ah geS raw=false
 ·rw [ju _ _ _ e]
 have b:ah geS raw=true:=by simpa using e
 have f:=(pI (D:=D) (a.mono (lR _) (by decide)) (af (idO raw)) (aA raw) (a.save _ _ d (lT (jw b) qO)).ord).1;have g:=vU a.ord (a.save _ _ d (lT (jw b) qO)).ord fun h c=>f h c fun i=>by
  rw [i,mi] at c;cases c
 rw [jv b];split
 ·split<;>rfl
 split
 ·rfl
 split<;>exact g
theorem GK {P} (a:OkG kac kab D) (b:D.l.length+1<=kac) (raw):ai geS (cz geS D P raw).2.l=ai geS D.l:=by
 unfold cz;split
 ·rfl
 split
 ·split<;>rfl
 split
 ·rfl
 exact GJ a b raw
theorem pJ (b:OkW D) (n) (c:cv D.l):cv (aB D n).2.l:=by
 unfold aB;split
 ·exact c
 unfold aW;split
 ·exact c
 refine vV b.ord (dj b.ord) (fun d e _ a=> .inl ?_) c;rw [eH b.ord] at a;split at a
 ·cases a
 exact a
theorem pK: ∀{l:List BA} {D:Dk},OkW D->cv D.l->cv (bW D l).2.l
 | [],_,_,a=>a
 | n::r,D,b,a=>by
  unfold bW;split
  ·exact pJ b n a
  exact pK (b.rem n) (pJ b n a)
theorem vW: ∀{l:List BA} {D:Dk},OkW D->cv D.l->cv (cB D l).2.l
 | [],_,_,a=>a
 | n::r,D,b,a=>by
  have c:cv (Go.Dol.dropO D n).2.l:=by
   unfold Go.Dol.dropO;split
   ·exact a
   split
   ·exact pJ b _ a
   exact a
  unfold cB;split
  ·exact c
  exact vW (lp b n) c
theorem GL (a:OkW D) (but) (b:cv D.l):cv (bm geS D but).2.l:=by
 unfold bm;split
 ·exact b
 unfold hD;split
 ·exact pK a b
 exact vW (OkG.rems a) (pK a b)
theorem vX (d:OkG kac kab D) (g:D.l.length+1<=kac) {b} (h:b.length<=140737488351232) (i:(ba geS b).isSome=true) (j:cv D.l):cv (ao D (ap b) b).2.l:=by
 have hO:=(d.save (ap b) b g h).ord;obtain ⟨k,c⟩:=pI (D:=D) (d.mono (lR _) (by decide)) (ap b) b hO;refine vV d.ord hO (fun e n m a=> ?_) j;by_cases f:e=ap b
 ·subst f;rcases c with c | ⟨_,c⟩
  ·exact .inl (c▸a)
  rw [c] at a;injection a with a;subst a;exact .inr ⟨i,rfl⟩
 exact .inl (k e m f▸a)
theorem GM (c:OkG kac kab D) (f:D.l.length+1<=kac) {n b} (g:b.length<=140737488351232) (h:(ao D n b).1≠0):ai geS (ao D n b).2.l=ai geS D.l:=by
 have hO:=(c.save n b f g).ord;obtain ⟨i,d⟩:=pI (D:=D) (c.mono (lR _) (by decide)) n b hO;refine vU c.ord hO fun e j=> ?_;by_cases a:e=n
 ·subst a;rcases d with d | ⟨a,_⟩
  ·exact d
  exact absurd a h
 exact i e j a
theorem GN {L P} (b:OkG L 140737488351232 D) (raw):OkG (L+1) 140737488351232 (cz geS D P raw).2:=by
 have a:OkG (L+1) 140737488351232 D:=b.mono qO (lR _);unfold cz;split
 ·exact a
 split
 ·split<;>exact a
 split
 ·exact a
 exact Da a (by have:=b.len;omega) qO raw
theorem GO {L B} (c:OkG L B D) (but):OkG L B (bm geS D but).2:=by
 unfold bm;split
 ·exact c
 unfold hD;split
 ·exact OkG.rems c
 have d: ∀(l:List BA) (a:Dk),OkG L B a->OkG L B (cB a l).2:=by
  intro l;induction l with
  | nil=>intro a b;exact b
  | cons x f e=>
  intro a b;unfold cB;split
  ·exact lp b x
  exact e _ (lp b x)
 exact d _ _ (OkG.rems c)
theorem GP {l P} (a:cv l):ai geS l=some ((ai geS l).getD P):=by
 obtain ⟨c,b⟩:=Nr.1 (mh a);rw [b];rfl
end
section
variable {w w':World} {gs gr:Nat} {D:Dk} {P:List Pk}
theorem Ja (h:RSto w gs gr D) (G:OkG kac kab D) (x:ai geS D.l=some P) (id) (H:id.size<=70368744177600) (kind):
  Calls an 75 #[.pointer (some gs),.string id,.int .i64 kind] w (RetObjS w (dZ geS D P id kind)):=by
 have I:=hJ x;obtain ⟨y,c⟩:=gH (dZ geS D P id kind);rw [<-c];have ha:=bAl w (.cells zcells.toArray 40);have s:=o9 w 40 zcells;have T:(w.alloc (.cells zcells.toArray 40)).heap.size=w+1:=by simp
 have C:=qI (mD (h.below ha) G x id H);obtain ⟨J,b⟩:=gX (aP geS D P id);rw [<-b] at C;clear x;go_in;go_wp2_with fail;refine C.mono ?_;intro E z F;cases J with
 | error k=>
  obtain ⟨g,rfl⟩:=F;have K:=bne_iff_ne.2 (fO b.symm);have a:=qI (c.out.trans (xk b.symm));have i:=s.below g s.lt;have m:=ha.next g;clear b c;go_wp2_with ((refine dy (by rfl) _ (.tmp 6) (.tmp 19) rfl w.heap.size zcells rfl rfl 40 zcells i qkR rfl (by decide) ?_;intro w6 hB6 hg6));have hl:=Go.run_loadVar_row (P:=an) w6 w 40 40 zcells.toArray (0,0) _ hB6 Go.Proofs.Tryz.underlying40 rfl qkR;rw [a];refine bodyPost_ret (v:=.tuple #[.agg zcells.toArray,.int .i64 k]) ?_ rfl ⟨rfl,m.grown hg6 m.size (fun k hk=>by cases hk;exact lR _)⟩;simp [results,Po,asAddr,hl]
 | ok L=>
 obtain ⟨g,M,N,O,t,rfl,Q,R,S⟩:=F;have i:=s.below g s.lt;have m:=ha.next g;have U:=qd I b.symm;have e:=iv N M O z (d8 Q) R S (by rw [t];omega);go_wp2_with fail;rw [t] at e;cases j:aZ geS L with
 | none=>
  rw [j] at e;have n:=qI e;have a:=qI (c.out.trans (xl b.symm j));clear e j c b;rw [<-t] at n;refine n.mono ?_;rintro E w2 ⟨rfl,o⟩;have A:=i.below o i.lt;have q:=m.next o;have hN:=o9 w2 40 zcells;have hB3:=A.alloc (.cells zcells.toArray 40);have hb03:=q.alloc q.size (.cells zcells.toArray 40);go_wp2_with ((first
   | (refine wpList_load_row rfl 40 _ rfl w2.heap.size rfl _ _ _ _ hN Go.Proofs.Tryz.underlying40 rfl qkR ?_)
   | (refine dy (by rfl) _ (.tmp 6) (.tmp 39) rfl w.heap.size zcells rfl rfl 40 zcells hB3 qkR rfl (by decide) ?_;intro w6 hB6 hg6)))
  have hl:=Go.run_loadVar_row (P:=an) w6 w 40 40 zcells.toArray (0,0) _ hB6 Go.Proofs.Tryz.underlying40 rfl qkR;rw [a];refine bodyPost_ret (v:=.tuple #[.agg zcells.toArray,.int .i64 2]) ?_ rfl ⟨rfl,hb03.grown hg6 hb03.size (fun k hk=>by cases hk;exact lR _)⟩;simp [results,Po,asAddr,hl]
 | some B=>
 rw [j] at e;have n:=qI e;have a:=qI (c.out.trans (xm b.symm j));clear e j c b;rw [<-t] at n;refine n.mono ?_;rintro E w2 ⟨k,Ad,d,cd,Ae,en,ce,tr,Ap,pa,cp,ta,na,wh,st,te,hoE,rfl,r1,r2,r3,o,r5,r6,r7⟩;have A:=i.below o i.lt;have q:=m.next o;have hN:=o9 w2 40 [k,.slice Ad d cd,.slice Ae en ce,tr,.slice Ap pa cp,ta,na,wh,st,te];have hB3:=A.alloc (.cells ([.int .i64 k,.slice Ad d cd,.slice Ae en ce,.string tr,.slice Ap pa cp,.string ta,.string na,.string wh,.int .i64 st,.string te]:List Value).toArray 40);have hbN:=bAl w2 (.cells ([.int .i64 k,.slice Ad d cd,.slice Ae en ce,.string tr,.slice Ap pa cp,.string ta,.string na,.string wh,.int .i64 st,.string te]:List Value).toArray 40);have hb03:=q.alloc q.size (.cells ([.int .i64 k,.slice Ad d cd,.slice Ae en ce,.string tr,.slice Ap pa cp,.string ta,.string na,.string wh,.int .i64 st,.string te]:List Value).toArray 40);have hlt1:w.heap.size<z:=by have:=g.size;omega
 have hlt2:w.heap.size<=z:=qO;have u:B.kind=k:=by rw [hoE]
 rw [u] at a;have V:=hN.cell 0;by_cases f:kind=0
 ·have hr3:Hid (y= .ok B):=by
   unfold Hid;rw [a,if_neg (fun h=>h.1 f)]
  subst f;clear a u;exact z224
 have K:=bne_iff_ne.2 f;have z2:=beq_eq_false_iff_ne.2 f;by_cases r:k=kind
 ·have hr3:Hid (y= .ok B):=by
   unfold Hid;rw [a,if_neg (fun h=>h.2 r)]
  subst r;clear a u f;exact z224
 have W:=bne_iff_ne.2 r;have hr3:Hid (y= .error 6):=by
  unfold Hid;rw [a,if_pos ⟨f,r⟩]
 clear a u f r;go_wp2_with ((refine dy (by rfl) _ (.tmp 6) (.tmp 38) rfl w.heap.size zcells rfl rfl 40 zcells hB3 qkR rfl (by decide) ?_;intro w6 hB6 hg6));have hl:=Go.run_loadVar_row (P:=an) w6 w 40 40 zcells.toArray (0,0) _ hB6 Go.Proofs.Tryz.underlying40 rfl qkR;rw [hr3];refine bodyPost_ret (v:=.tuple #[.agg zcells.toArray,.int .i64 6]) ?_ rfl ⟨rfl,hb03.grown hg6 hb03.size (fun k hk=>by cases hk;exact lR _)⟩;simp [results,Po,asAddr,hl]
end
def Ju (w:World) (c:Nat) (D:Dk) (r:Option (List Pk)) (b:Ending) (w':World):Prop:=
 Below w w w'/\match r with
 | none=>b= .returned (.tuple #[.pointer none,.int .i64 2])
 | some d=> ∃a,b= .returned (.tuple #[.pointer (some ⟨a,0,none⟩),i0])/\w.heap.size<=a/\RSto w' a c D
def Jv (b:List FilA) (w:World) (i:Value) (wr:World):Prop:=
 ∃a:Nat,i= .int .i64 a/\a<=b.length/\Hid (cv ((b.map FilA.f).take a))/\Below w w wr
section
variable {w w':World} {gs gr:Nat} {D:Dk} {P:List Pk}
theorem kh (V:Rdk w gr D) (W:OkG kac kab D):Calls an 18 #[.pointer (some gr)] w (Ju w gr D (ai geS D.l)):=by
 have X:OkW D:=W.mono (lR _) (by decide);have X0:=X.len;have Y0:=V.lt;obtain ⟨B,Y⟩:=gH (ai geS D.l);rw [<-Y];have q0:=qI (xB V (OkW.toL X));go_in;go_wp2_with fail;refine q0.mono ?_;rintro e C0 ⟨j,Z0,a1,Z,rfl,D0,E0,F0⟩;have b1:j.length<=kac:=by
  have:=congrArg List.length Z.out;rw [g7] at this;omega
 have r0: ∀k:Fil,k∈D.l->aD k.1=true-> ¬((ba geS k.2).isSome=true/\ap k.2=k.1)->B=none:=fun k f J G0=>by
  cases H0:B with
  | none=>rfl
  | some P=>exact absurd (pG (Y.symm.trans H0) _ f J) G0
 have s0:=qI r0;clear q0 r0;go_wp2_with fail;go_loopw [5] (fun i wr=>Jv j C0 i wr) (fun i _=>j-(intOf i).toNat)
 case atStart=>exact ⟨0,rfl,zL,(fun k f=>by cases f),bR _ _⟩
 case round=>
  obtain ⟨d,rfl,c1,a0,v⟩:=hrel;have d1:=qiJ (d+1);have C:=F0.next v;by_cases I0:d<j
  ·have e1:=ltI d j.length;have f1:=zeI d;obtain ⟨a,E⟩: ∃a,j[d]?=some a:=⟨j[d],gE I0⟩;obtain ⟨t0,u0⟩:=di E;obtain ⟨g,F,rfl,J0,b0⟩:=((d8 D0).below v).at_ qO;have c0:=r9 J0 v.size;have d0:=b0 _ _ t0;have e0:wr.cell? ⟨g,F+d*2+1,none⟩=some (.slice a.A a.b.length a.c):=b0 _ _ u0;obtain ⟨f,f0,g0⟩:=E0 a (g8 E);have h0:=f.below v;have K:(a.n,a.b)∈D.l:=by rw [<-Z];exact e9.2 ⟨a,g8 E,rfl⟩
   have K0:a.n.size<=200:=dN (X.names _ K);have v0:=W.look ((bz W.ord).2 K);have i0:=qI K;have L0:Hid ((j.map FilA.f).take (d+1)=(j.map FilA.f).take d++[(a.n,a.b)]):=by
    unfold Hid;rw [t7,m7,E];rfl
   have w0:(aD a.n=true->(ba geS a.b).isSome=true/\ap a.b=a.n)->cv ((j.map FilA.f).take (d+1)):=fun M0 k f J=>by
    rw [L0] at f;rcases l7.1 f with f | f
    ·exact a0.out k f J
    obtain rfl:=i7.1 f;exact M0 J
   have r:=qI w0;have s:=qI (xf a.n wr (by unfold maxLen;omega));obtain ⟨L,m,M,N⟩:=a;simp only at d0 e0 h0 f0 g0 K0 v0 i0 r s;clear E t0 u0 b0 K w0 f;cases x:aD L with
   | false=>
    rw [x] at s;have j0:=qI (r.out (fun e=>by rw [x] at e;cases e));clear x r;go_wp2_with fail;refine s.mono ?_;rintro e x0 ⟨rfl,G⟩;obtain rfl:=G.symm;go_wp2_with fail;exact ⟨⟨d+1,by go_num,qO,j0.out,v⟩,by simp [intOf];omega⟩
   | true=>
   rw [x] at s;have y0:=qI x;have y:=pX M m N wr h0.1 f0 g0 v0;clear x;cases t:ba geS m with
   | none=>
    rw [t] at y;have O:=qI y;have k0:Hid (B=none):=s0.out _ i0.out y0.out (fun e=>by rw [t] at e;cases e.1);clear t y r;go_wp2_with fail;refine s.mono ?_;rintro e x0 ⟨rfl,G⟩;obtain rfl:=G.symm;go_wp2_with fail;refine O.mono ?_;rintro e z ⟨o,rfl⟩;have Q:=C.next o;go_wp2_with fail;go_quiet (fail);go_wp2_with fail;go_ret2;rw [k0];exact ⟨Q.trans (((bR _ _).drewN' _).mono Q.size),rfl⟩
   | some g1=>
   rw [t] at y;have O:=qI y;have h1:=xC t;have N0:=qI t;clear t y;go_wp2_with fail;refine s.mono ?_;rintro e x0 ⟨rfl,G⟩;obtain rfl:=G.symm;go_wp2_with fail;refine O.mono ?_;rintro e z ⟨o,l,i1,j1,k1,rfl,O0,l1⟩;have P0:=v.next o;have Q:=C.next o;have R:=(o.cell (p:=⟨g,_,none⟩) c0).trans d0;have S:=(o.cell (p:=⟨g,_,none⟩) c0).trans e0;have Q0:=(h0.below o).drew;have T:=qI (qc M m N z.drew Q0.1 f0 g0 qO qO);have U:=r9 c0 o.size;clear d0 e0 O s O0;by_cases q:L=ap m
   ·have l0:=CK q;have m0:=eM q;have j0:=qI (r.out (fun _=>⟨by rw [N0];rfl,q.symm⟩));obtain ⟨R0,H⟩:=gY (ap m);rw [H] at T l0 m0;clear q r H;go_wp2_with fail;go_region_held3 (fun I=>I.cell? ⟨g,F+d*2,none⟩=some (.string L)/\I.cell? ⟨g,F+d*2+1,none⟩=some (.slice M m N)) (first | exact ⟨R,S⟩ | exact ⟨n0,o0⟩ | go_keep)
     ((go_at_call 72;(with_reducible refine T.out.mono ?_);rintro e p0 ⟨rfl,h⟩;have u:Below z z p0:=⟨h.os,h.tape,h.output,h.size,h.block⟩;have n0:=(u.cell (p:=⟨g,_,none⟩) U).trans R;have o0:=(u.cell (p:=⟨g,_,none⟩) U).trans S))
    go_wp2_with fail;exact ⟨⟨d+1,by go_num,qO,j0.out,P0.next u⟩,by simp [intOf];omega⟩
   have l0:=CL q;have m0:=eN q;have k0:Hid (B=none):=s0.out _ i0.out y0.out (fun e=>q e.2.symm);obtain ⟨R0,H⟩:=gY (ap m);rw [H] at T l0 m0;clear q r H;go_wp2_with fail;go_region_held3 (fun I=>I.cell? ⟨g,F+d*2,none⟩=some (.string L)/\I.cell? ⟨g,F+d*2+1,none⟩=some (.slice M m N)) (first | exact ⟨R,S⟩ | exact ⟨n0,o0⟩ | go_keep)
    ((go_at_call 72;(with_reducible refine T.out.mono ?_);rintro e p0 ⟨rfl,h⟩;have u:Below z z p0:=⟨h.os,h.tape,h.output,h.size,h.block⟩;have n0:=(u.cell (p:=⟨g,_,none⟩) U).trans R;have o0:=(u.cell (p:=⟨g,_,none⟩) U).trans S))
   go_wp2_with fail;go_ret2;rw [k0];exact ⟨Q.next u,rfl⟩
  have z0:cv D.l:=by
   have:=a0.out;rw [i9 (by rw [g7];omega),Z] at this;exact this
  obtain ⟨P,A0⟩:=Nr.1 (mh z0);have S0:Hid (B=some P):=Y.out.trans A0;have T0:=V.below C;have B0:=bAl wr (.cells #[.pointer (some gr)] 119);have U0:=o9 wr 119 [.pointer (some gr)];have V0:=T0.below B0;have W0:=C.size;clear z0 A0 a0;go_wp2_with fail;go_ret2;rw [S0];exact ⟨C.next B0,_,rfl,W0,U0,V0,qO⟩
end
