/- Walks and laws. Conditions: as stated. -/
import Derived.Test.YtecpbcmpncgokaaGreatSto1
import Derived.Test.YtecpbcmpncgokaaGreatRegT
set_option maxRecDepth 99999
set_option maxHeartbeats 25600000
set_option linter.all false
open Go.Value renaming oneCell'->PX,string->th
open Go.RowKit Go.Dol
namespace Go.Dol
theorem Nl (P id b):mE P id (.ok b)= .ok b:=rfl
theorem qe (ge D P raw) (a:ah ge raw=false):cz ge D P raw=(.error 1,D):=if_pos a
theorem mG {ge:BA->BA->Bool} {D:Dk} {P:List Pk} {raw:LU} (a:ah ge raw=true):cz ge D P raw=match aP ge D P (idO raw) with
 | .ok b=>if b=raw then (.ok (idO raw),D) else (.error 7,D)
 | .error k=>if k=2 then (.error 2,D) else putO ge D raw:=by
 unfold cz;rw [if_neg (by rw [a];decide)];rfl
theorem xC {ge b ps} (a:ba ge b=some ps):36<=b.length:=by
 unfold ba at a;split at a
 ·cases a
 rename_i c;exact Nat.le_of_not_lt fun d=>c (.inl d)
end Go.Dol
namespace Go.Proofs.YtecpbcmpncgokaaGreat
theorem KZ {ge D P id} (b:id.size=32) {k} (a:aP ge D P id= .error k):k=2\/k=6:=by
 unfold aP at a;split at a
 ·cases a
 rename_i d c;rcases oy b c with rfl | rfl
 ·rw [if_neg (by decide)] at a;injection a with a;exact .inl a.symm
 rw [if_pos rfl] at a;split at a
 ·cases a
 injection a with a;exact .inr a.symm
def RetPutS (w:World) (gs g m base a:Nat) (b:List PkA) (r:Except Int BA×Dk) (c:Ending) (w':World):Prop:=c= .returned (jt r.1)/\Sto w' gs g m base a r.2 b/\Tw w w' g m
section
variable {w w':World} {base gp gs g m:Nat} {xs:List PkA} {D:Dk}
def qG (r:Except Int (LU)):Bool:=match r with | .ok _=>true | .error _=>false
theorem KO (h:Sto w gs g m base gp D xs) (i:OkW D) (j:cQ (xs.map PkA.pk)) (k:xs.length<=kac) (id) (l:id.size<=70368744177600) (b:aP geS D (xs.map PkA.pk) id≠ .error 0):
  Calls Tryz.prog 65 #[.pointer (some gs),.string id] w fun a w'=>a= .returned (.bool (qG (aP geS D (xs.map PkA.pk) id)))/\Below w w w':=by
 have d:=qI (hV h i j k id l);obtain ⟨n,e⟩:=gX (aP geS D (xs.map PkA.pk) id);rw [<-e] at d b ⊢;clear e;go_in;go_wp2_with fail;refine d.mono ?_;intro a p f;cases n with
 | ok q=>
  obtain ⟨c,r,s,t,u,rfl,v,x,y⟩:=f;go_wp2_with fail;go_ret;exact ⟨rfl,c⟩
 | error o=>
 obtain ⟨c,rfl⟩:=f;have z:(o==0)=false:=beq_eq_false_iff_ne.2 fun a=>b (by rw [a]);clear b;go_wp2_with fail;go_ret;exact ⟨rfl,c⟩
theorem La (h:Sto w gs g m base gp D xs) (z:OkW D) (Q:D.l.length+1<=kac) (R:cQ (xs.map PkA.pk)) (S:xs.length<=kac) (A raw c) (u:Rd w w 1 A raw.length (bc raw)) (B:raw.length<=c) (C:c<=maxLen) (E:raw.length<=kab):
  Calls Tryz.prog 61 #[.pointer (some gs),.slice A raw c] w (RetPutS w gs g m base gp xs (cz geS D (xs.map PkA.pk) raw)):=by
 obtain ⟨b,v⟩:=gH (cz geS D (xs.map PkA.pk) raw);rw [<-v];have i:=js A raw c w u B C E;go_in;go_wp2_with fail;cases j:aZ geS raw with
 | none=>
  rw [j] at i;have x:=qI i;have k:Hid (b=(.error 1,D)):=by
   unfold Hid;rw [v];exact qe _ _ _ _ (by unfold ah;rw [j];rfl)
  clear i j;refine x.mono ?_;rintro e T ⟨rfl,d⟩;go_wp2_with fail;go_ret2;rw [k];exact ⟨rfl,h.below (d.alloc d.size _),B7 (d.alloc d.size _)⟩
 | some z0=>
 rw [j] at i;have x:=qI i;have F:ah geS raw=true:=by unfold ah;rw [j];rfl
 have k:=qI (v.out.trans (mG F));clear i j F;refine x.mono ?_;rintro e T ⟨U,V,W,X,Y,Z,a0,b0,c0,d0,e0,f0,g0,h0,i0,j0,k0,rfl,_,_,_,d,_,_,_⟩;clear k0;have r:=d.alloc d.size (.cells #[U,.slice V W X,.slice Y Z a0,b0,.slice c0 d0 e0,f0,g0,h0,i0,j0] 40);have G:=h.below r;have H:=hW G;have l0:=qI H;have a:Rd _ _ 1 A raw (bc raw):=(u.below r).more r.size;have I:=qI (ov A raw c _ a qO);clear H;go_wp2_with fail;refine l0.mono ?_;rintro e A0 ⟨rfl,m0⟩;obtain rfl:=m0.symm;go_wp2_with fail;refine I.mono ?_;rintro e B0 ⟨rfl,J⟩;have K:=G.below J;have n0:=r.next J;obtain ⟨f,s⟩: ∃f:BA,f=idO raw:=⟨_,rfl⟩;have o0:f.size=32:=by rw [s];exact dO raw
 have p0:=qI s;rw [<-s];clear s I;have q0:=qI (hV K z R S f qO);go_wp2_with fail;refine q0.mono ?_;obtain ⟨r0,n⟩:=gX (aP geS D (xs.map PkA.pk) f);rw [<-n];rw [<-p0,<-n] at k;rintro e L ⟨M,o⟩;have h5:=K.below M;have hb05:=n0.next M;have N:=(u.below hb05).more hb05.size;cases r0 with
 | ok C0=>
  obtain ⟨t,s0,t0,O,rfl,u0,D0,E0⟩:=o;have v0:=qI (nB s0 t t t0 A raw raw c L _ _ (d8 u0) N);have a:Hid (b=if t=raw then (.ok f,D) else (.error 7,D)):=by
   unfold Hid;rw [k];simp only;rw [O]
  clear O n;go_wp2_with fail;refine v0.mono ?_;by_cases hb:t=raw
  ·have hr4:Hid (b=(.ok f,D)):=by unfold Hid;rw [a,if_pos hb]
   rw [dT hb];exact z144
  have hr4:Hid (b=(.error 7,D)):=by unfold Hid;rw [a,if_neg hb]
  rw [qF hb];exact z144
 | error w0=>
 obtain rfl:=o;rcases KZ o0 n.symm with rfl | rfl
 ·have a:Hid (b=(.error 2,D)):=by
   unfold Hid;rw [k];rfl
  clear n;go_wp2_with fail;go_ret2;rw [a];exact ⟨rfl,h5,B7 hb05⟩
 have P:=qI (CN h5.dk z Q A raw c N B C E);have a:b=putO geS D raw:=by
  rw [k];rfl
 rw [<-a] at P;have w0:L.cell? gs=some (.pointer (some g)):=by rw [h5.st.cell];rfl
 clear n a;go_wp2_with fail;refine P.mono ?_;intro e w6 o;obtain ⟨x0,F0⟩:=b;cases x0 with
 | ok y0=>
  obtain ⟨rfl,y,q⟩:=RetPut.ok o;go_wp2_with fail;go_ret2;exact ⟨rfl,h5.tw q y,(B7 hb05).step q⟩
 | error y0=>
 obtain ⟨rfl,y,q⟩:=RetPut.err o;go_wp2_with fail;go_ret2;exact ⟨rfl,h5.tw q y,(B7 hb05).step q⟩
end
def RdF (l:List Fil) (k:Nat) (P:List Pk):Prop:=ai geS l=(ai geS (l.drop k)).map (P++ ·)
section
variable {l:List Fil} {k:Nat} {P:List Pk} {f:Fil} {ps:List Pt}
theorem RdF.start:RdF l 0 []:=by
 unfold RdF;rw [y8];cases ai geS l<;>rfl
theorem mT (hf:l[k]?=some f):l.drop k=f::l.drop (k+1):=z210
theorem RdF.no (a:RdF l k P) (b:l[k]?=some f) (c:aD f.1=false):RdF l (k+1) P:=by
 unfold RdF at*;rw [a,mT b,ai,if_neg (by rw [c];decide)]
theorem RdF.yes (a:RdF l k P) (b:l[k]?=some f) (c:aD f.1=true) (d:ba geS f.2=some ps) (e:ap f.2=f.1):RdF l (k+1) (P++[(f.1,ps)]):=by
 unfold RdF at*;rw [a,mT b,ai,if_pos c,d];simp only;rw [if_pos e];cases ai geS (l.drop (k+1))<;>simp
theorem RdF.bad (a:RdF l k P) (b:l[k]?=some f) (c:aD f.1=true) (d:ba geS f.2=none):ai geS l=none:=by
 unfold RdF at a;rw [a,mT b,ai,if_pos c,d];rfl
theorem RdF.other (a:RdF l k P) (b:l[k]?=some f) (c:aD f.1=true) (d:ba geS f.2=some ps) (e:ap f.2≠f.1):ai geS l=none:=by
 unfold RdF at a;rw [a,mT b,ai,if_pos c,d];simp only;rw [if_neg e];rfl
theorem RdF.all (a:RdF l l P):ai geS l=some P:=by
 unfold RdF at a;rw [a,List.drop_length];simp [ai]
end
theorem mS {w:World} {b1 b2 e1 e2 s1 s2 n1 n2} {c b:Value} {xs ys} (e:w.ownsRow b1 e1 s1 c n1 xs) (f:w.ownsRow b2 e2 s2 b n2 ys) (g:e1≠e2):b.ownBlock=none\/b.ownBlock≠c.ownBlock:=by
 rcases f.2 with ⟨rfl,_⟩ | ⟨h,l,m,rfl,_,a,_⟩
 ·exact .inl rfl
 refine .inr fun d=> ?_;rcases e.2 with ⟨rfl,_⟩ | ⟨i,n,o,rfl,_,j,_⟩
 ·cases d
 have k:h=i:=by simpa [Value.ownBlock] using d
 rw [k,j] at a;injection a with a;injection a with _ a;exact g a
theorem qX:(Tryz.prog.info? 139).map (fun i=>(i.zero,i.size,i.bytes))=some (some (.pointer none),1,8):=qkR
theorem Pck.grownT {w w' base g l A c m} (a:Pck w base g l A c m 0 eL) {b n e v xs} (d:w.ownsRow b e 1 v n xs) (j:205≠e) (k:e≠306) (o:e≠5) (f:w.grownBy w' v.ownBlock):Pck w' base g l A c m 0 (.slice none 0 0):=
 ⟨a.blk.grown f (own_ne d a.blk j).symm,a.gb,a.mb,a.parts.kept f (mS d a.parts k),a.map.grown f (a.map.own_ne d).symm,fun h i=>⟨⟨(a.raws h i).1.1.keep f (K9 d o (zL)),(a.raws h i).1.2⟩,(a.raws h i).2⟩,.inl ⟨rfl,rfl⟩⟩
def LJ (w:World) (r:Option (List Pk)) (b:Ending) (w':World):Prop:=
 Below w w w'/\match r with
 | none=>b= .returned (.tuple #[.pointer none,.int .i64 2])
 | some e=> ∃c a d f g h i,Hid (d.map PkA.pk=e)/\b= .returned (.tuple #[.pointer (some ⟨a,0,none⟩),i0])/\w.heap.size<=c/\w.heap.size<=a/\Pks w' c a d f g h i 0 eL
structure Mid (w w':World) (gp:Nat) (xs:List PkA) (cN cA vN:Value) (nN:Nat) (lN:List Value) (vA:Value) (nA:Nat) (lA:List Value):Prop where
 blk:Blk w' gp 138 [cN,cA,.int .u32 0,.int .i32 0,.int .u32 0,eL]
 lt:gp<w
 names:w'.ownsRow w 9 1 vN nN lN
 all:w'.ownsRow w 139 1 vA nA lA
 packs: ∀x∈xs,Pck w' w x.g x.l x.A x.c x.m 0 eL
 gr:w.grownBy w' (some gp)
section
variable {w w' w2:World} {gp:Nat} {xs:List PkA} {cN cA vN vA:Value} {nN nA:Nat} {lN lA:List Value}
theorem Mid.held (a:Mid w w' gp xs cN cA vN nN lN vA nA lA):w'.cell? gp=some cN/\w'.cell? ⟨gp,1,none⟩=some cA:=⟨a.blk.cell 0,a.blk.cell 1⟩
theorem Mid.below (a:Mid w w' gp xs cN cA vN nN lN vA nA lA) (b:Below w' w' w2):Mid w w2 gp xs cN cA vN nN lN vA nA lA:=
 ⟨a.blk.below b a.blk.lt,a.lt,az a.names b,az a.all b,fun c d=>(a.packs c d).below b,ou a.gr b⟩
theorem Mid.drew (a:Mid w w' gp xs cN cA vN nN lN vA nA lA):Mid w w'.drew gp xs cN cA vN nN lN vA nA lA:=a.below ((bR _ _).drew)
theorem Mid.alloc (a:Mid w w' gp xs cN cA vN nN lN vA nA lA) (o):Mid w (w'.alloc o) gp xs cN cA vN nN lN vA nA lA:=a.below ((bR _ _).alloc (lR _) o)
theorem za {b n:Nat} {f:TypeId} {v l} (a:w.grownBy w' (some gp)) (g:w'.ownsRow w f 1 v n l) (c:w'.grownBy w2 v.ownBlock):w.grownBy w2 (some gp):=
 ⟨c.os.trans a.os,c.tape.trans a.tape,c.output.trans a.output,lT a.size c.size,fun d e h=>(c.block d (r9 e a.size) fun i=>by have:=(g.lt d i.symm).1;omega).trans (a.block d e h)⟩
theorem Mid.appN (a:Mid w w' gp xs cN cA vN nN lN vA nA lA) (c:w'.grownBy w2 vN.ownBlock) {v n l} (d:w2.ownsRow w 9 1 v n l):Mid w w2 gp xs cN cA v n l vA nA lA:=
 ⟨a.blk.grown c (own_ne a.names a.blk (by decide)).symm,a.lt,d,a.all.kept c (mS a.names a.all (by decide)),fun e f=>(a.packs e f).grownT a.names (by decide) (by decide) (by decide) c,za (b:=0) a.gr a.names c⟩
theorem Mid.appA (a:Mid w w' gp xs cN cA vN nN lN vA nA lA) (c:w'.grownBy w2 vA.ownBlock) {v n l} (d:w2.ownsRow w 139 1 v n l):Mid w w2 gp xs cN cA vN nN lN v n l:=
 ⟨a.blk.grown c (own_ne a.all a.blk (by decide)).symm,a.lt,a.names.kept c (mS a.all a.names (by decide)),d,fun e f=>(a.packs e f).grownT a.all (by decide) (by decide) (by decide) c,za (b:=0) a.gr a.all c⟩
end
section
variable {w w':World} {gp:Nat} {xs:List PkA} {cN cA vN vA:Value} {nN nA:Nat} {lN lA:List Value}
theorem Mid.close (a:Mid w w' gp xs cN cA vN nN lN vA nA lA):Mid w ((w'.setCell gp vN).setCell ⟨gp,1,none⟩ vA) gp xs vN vA vN nN lN vA nA lA:=by
 have b:w'.grownBy ((w'.setCell gp vN).setCell ⟨gp,1,none⟩ vA) (some gp):=ae (ae (gR w' _) 0 _) 1 _;refine ⟨(a.blk.set 0 vN).set 1 vA,a.lt,aE a.names a.blk (by decide) b,aE a.all a.blk (by decide) b,fun d e=>(a.packs d e).keep (fun f h g=>b.block f g fun c=> ?_) b.size,aq a.gr b⟩;injection c with c;have:=a.lt;omega
theorem Pck.base {w base base' g l A c m d vi} (a:Pck w base g l A c m d vi) (b:base'<=base):Pck w base' g l A c m d vi:=
 ⟨a.blk,lT b a.gb,lT b a.mb,a.parts.base b,a.map,fun e f=>⟨⟨(a.raws e f).1.1,fun i j k=>lT b ((a.raws e f).1.2 i j k)⟩,(a.raws e f).2⟩,by
  rcases a.ids with h | ⟨h,n,o,p,q⟩
  ·exact .inl h
  ·exact .inr ⟨h,n,o,p,q.base b⟩⟩
theorem Mid.snoc (a:Mid w w' gp xs cN cA vN nN lN vA nA lA) {x} (d:Pck w' w x.g x.l x.A x.c x.m 0 eL):Mid w w' gp (xs++[x]) cN cA vN nN lN vA nA lA:=
 ⟨a.blk,a.lt,a.names,a.all,fun e f=>by
  rcases l7.1 f with b | b
  ·exact a.packs e b
  ·obtain rfl:=i7.1 b;exact d,a.gr⟩
end
def zb (l:List Fil) (j:Nat) (w:World) (i:Value) (wr:World):Prop:=
 ∃(c:Nat) (b:List PkA) (a:Nat) (d:OA) (e:Nat) (f:OA) (h:Nat),i= .int .i64 c/\c<=l/\a<=c/\Hid (b=a/\RdF l c (b.map PkA.pk)/\(b.map (·.g)).Nodup)/\Mid w wr j b (.slice d a e) (.slice f a h) (.slice d a e) a (sc (b.map (·.n))) (.slice f a h) a (pkc b)
theorem Ku {l w w' gp xs x cN cA k n A7 A8 c7 c8} (a:Mid w w' gp (xs++[x]) cN cA (.slice A7 (n+1) c7) (n+1) (sc (xs.map (·.n))++[.string x.n]) (.slice A8 (n+1) c8) (n+1) (pkc xs++[.pointer (some ⟨x.g,0,none⟩)]))
  (b:k<l.length) (r:n<=k) (c:Hid (xs=n/\RdF l (k+1) (xs.map PkA.pk++[x.pk])/\(xs.map (·.g)).Nodup/\ ∀y∈xs,y.g≠x.g)) {i} (hi:i= .int .i64 ((k:Int)+1)):zb l gp w i ((w'.setCell ⟨gp,0,none⟩ (.slice A7 (n+1) c7)).setCell ⟨gp,1,none⟩ (.slice A8 (n+1) c8)):=by
 obtain ⟨d,e,f,h⟩:=c;refine ⟨k+1,xs++[x],n+1,A7,c7,A8,c8,hi,b,qO,⟨by rw [b7,d];rfl,by rw [p8];exact e,?_⟩,?_⟩
 ·rw [p8];refine E9.2 ⟨f,w8 ..,fun s ha t j m=> ?_⟩;obtain ⟨y,o,rfl⟩:=e9.1 ha;obtain rfl:=i7.1 j;exact h y o m
 have p:sc ((xs++[x]).map (·.n))=sc (xs.map (·.n))++[.string x.n]:=by simp [sc]
 have q:pkc (xs++[x])=pkc xs++[.pointer (some ⟨x.g,0,none⟩)]:=by simp [pkc]
 rw [p,q];exact a.close
section
variable {w:World} {g m:Nat} {D:Dk}
theorem qK (h:Dsk w g m D) (hK:OkG kac kab D):Calls Tryz.prog 69 #[.pointer (some g)] w (LJ w (ai geS D.l)):=by
 have o0:OkW D:=hK.mono (lR _) (by decide);obtain ⟨j1,F⟩:=gH (ai geS D.l);rw [<-F];obtain ⟨k1,l1⟩:=gX w.heap.size;have ha:=bAl w (.cells [.slice none 0 0,.slice none 0 0,.int .u32 0,.int .i32 0,.int .u32 0,.slice none 0 0].toArray 138);have S:=o9 w 138 [eL,eL,.int .u32 0,.int .i32 0,.int .u32 0,eL];have U:(w.alloc (.cells [.slice none 0 0,.slice none 0 0,.int .u32 0,.int .i32 0,.int .u32 0,.slice none 0 0].toArray 138)).heap.size=w+1:=by simp
 have p0:=qI (jh (h.below ha) o0.toL);have m1:=hK.len;go_in;go_wp2_with fail;refine p0.mono ?_;rintro e d ⟨n1,o1,rfl,q0,j⟩;rw [U] at q0;have r0:=ha.next j;have s0:w.heap.size<d:=by have:=j.size;rw [U] at this;omega
 have O0:Mid d d w [] eL eL eL 0 (sc []) eL 0 (pkc []):=
  ⟨S.below j S.lt,s0,j9 _ _ _ _,j9 _ _ _ _,fun A hx=>(m9 hx).elim,gR _ _⟩
 clear U S p0;go_wp2_with fail;go_loopw [16] (fun i wr=>zb D.l w d i wr) (fun i _=>D.l-(intOf i).toNat)
 case atStart=>exact ⟨0,[],0,none,0,none,0,rfl,zL,zL,⟨rfl,RdF.start,On⟩,O0⟩
 case round=>
  obtain ⟨k,xs,n,An,cn,Aa,ca,rfl,p1,hnk,b,hM⟩:=hrel;have q1:=qiJ ((k:Int)+1);have V:=r0.grown hM.gr r0.size (fun k e=>by injection e with e;omega);have P0:=h.below V;by_cases hlt:k<D.l
  ·have r1:=ltI k D.l.length;have s1:=zeI k;obtain ⟨W,x⟩: ∃W,D.l[k]?=some W:=⟨D.l[k],gE hlt⟩;obtain ⟨nm,X⟩:=W;have O:=g8 x;have t0:=hK.names _ O;have Q0:=dN t0;change nm.size<=200 at Q0;obtain ⟨R0,S0,rfl,t1,u0⟩:=(d8 (fX q0 hM.gr (Nat.lt_succ_self _))).at_ qO;have u1:wr.cell? ⟨R0,S0+k,none⟩=some (.string nm):=u0 _ _ (by rw [sc,m7,m7,x];rfl);have T0:=(bz hK.ord).2 O;have v0:=hK.bytes _ O;change X.length<=kab at v0;have B:=KT nm;have Y:=KU nm ⟨#[112,47]⟩ wr (by unfold maxLen;omega) (by decide);obtain ⟨Z,w0⟩: ∃Z,Z=decide (nm.data.toList.take (⟨#[112,47]⟩:BA).size=(⟨#[112,47]⟩:BA).data.toList):=⟨_,rfl⟩;rw [<-w0] at Y B;have P:=qI Y;have J:=qI (xU nm wr (by unfold maxLen;omega));obtain ⟨U0,x0⟩:=gX (bi nm);change Calls _ _ _ _ fun e V0=>e= .returned (.bool (bi nm))/\V0=wr at J;rw [<-x0] at J B;clear u0 Y w0 x0 t0;cases Z with
   | false=>
    have u:=b.2.1.no x B;have hF3:Hid (xs=n/\RdF D.l (k+1) (xs.map PkA.pk)/\(xs.map (·.g)).Nodup):=⟨b.1,u,b.2.2⟩;clear u b B x;go_wp2_with fail;refine P.mono ?_;exact z97
   | true=>
   cases U0 with
   | true=>
    have u:=b.2.1.no x B;have hF3:Hid (xs=n/\RdF D.l (k+1) (xs.map PkA.pk)/\(xs.map (·.g)).Nodup):=⟨b.1,u,b.2.2⟩;clear u b B x;go_wp2_with fail;refine P.mono ?_;rintro e w3 ⟨rfl,hw3⟩;obtain rfl:=hw3.symm;go_wp2_with fail;refine J.mono ?_;exact z97
   | false=>
   have a0:=jj P0 hK.ord nm (fun H W0=>o0.small' W0);have y0:aU D nm=(X,0):=by
    unfold aU;rw [if_neg (by rw [hK.names _ O];decide),T0]
   rw [y0] at a0;have z0:=qI a0;have b0:aD nm=true:=B;clear a0 y0 B;go_wp2_with fail;refine P.mono ?_;rintro e w3 ⟨rfl,hw3⟩;obtain rfl:=hw3.symm;go_wp2_with fail;refine J.mono ?_;rintro e w3 ⟨rfl,hw3⟩;obtain rfl:=hw3.symm;go_wp2_with fail;refine z0.mono ?_;rintro e w3 ⟨H,A0,B0,C0,rfl,d0,q⟩;obtain rfl:H=X:=C0.out;have Q:=dz d0;have D0:=qI (GC A0 H B0 w3 (d8 d0) Q.1 Q.2 v0);have E0:=hM.below q;have F0:=V.next q;clear z0 C0;go_wp2_with fail;refine D0.mono ?_;cases G:ba geS H with
   | none=>
    rintro e G0 ⟨r,rfl⟩;have L:=qI (F.out.trans (b.2.1.bad x b0 G));clear G b F;go_wp2_with fail;go_ret2;rw [L];exact ⟨F0.next r,rfl⟩
   | some X0=>
   rintro e G0 ⟨r,a,e0,g0,h0,i0,Y0,rfl,H0⟩;have v1:=xC G;have Z0:=E0.below r;have a1:=F0.next r;have b1:=((d8 d0).below r).more r.size;have j0:=qI (yC A0 H B0 G0 b1 Q.1 Q.2 qO qO);by_cases I:ap H=nm
   ·have u:=b.2.1.yes x b0 G I;have c1:=eM I;have hx:Hid (xs.length=n/\RdF D.l (k+1) (xs.map PkA.pk++[PkA.pk ⟨nm,e0,a,g0,h0,i0⟩])/\(xs.map (·.g)).Nodup/\ ∀k0∈xs,k0.g≠a):=⟨b.1,by
     have e:PkA.pk ⟨nm,e0,a,g0,h0,i0⟩=(nm,X0):=by rw [<-Y0];rfl
     rw [e];exact u,b.2.2,fun k0 d1 e=>by
     have w1:=(E0.packs k0 d1).blk.lt;have x1:=H0.gb;omega⟩
    clear I G u b;go_wp2_with fail;refine j0.mono ?_;rintro e l0 ⟨rfl,M⟩;have R:=((Z0.below M).snoc (x:=⟨nm,e0,a,g0,h0,i0⟩) ((H0.below M).base (by have:=hM.gr.size;have:=q.size;omega))).drew;have e1:d.heap.size<=l0:=by have:=hM.gr.size;have:=q.size;have:=r.size;have:=M.size;omega
    clear j0 D0 P J;go_upto_region 10 with (fail);obtain ⟨I0,C⟩:=R.held;refine Ka (T:=dJ (fun J0=>J0.cell? w=some (.slice An n cn)/\J0.cell? ⟨w,1,none⟩=some (.slice Aa n ca)) 18) qkR (fun _=>⟨I0,C⟩) (fun hHeld=> ?_);obtain ⟨y,m0⟩:=gX l0.drew;have y1:d.heap.size<=y:=by rw [m0];exact e1
    rw [<-m0] at R hHeld ⊢;clear m0 I0 C;refine tlF 0 (.pointer (some w)) ?_;refine tlF 1 (.pointer (some w)) ?_;refine tlF 2 (.pointer (some w)) ?_;refine tlF 3 (.pointer (some w)) ?_;refine tlF 4 (.pointer (some w)) ?_;refine tlT 5 (.slice An n cn) [8,18] ?_;refine tlF 6 (.string nm) ?_;refine tlF 9 (.pointer (some w)) ?_;refine tlF 10 (.pointer (some w)) ?_;refine tlF 11 (.pointer (some ⟨w,1,none⟩)) ?_;refine tlT 12 (.slice Aa n ca) [15,18] ?_;refine tlF 13 (.pointer (some a)) ?_;refine rT2 7 14 (fun K hK=> ?_) fun K hK=> ?_
    ·clear hHeld;have z:=R.alloc (.cells #[nm] 9);have j:=o9 y 9 [nm];go_simp;refine hO hK (fun _=>z.held) (fun hHeld=> ?_);obtain ⟨s,t⟩:=gX (y.alloc (.cells #[nm] 9));rw [<-t] at hHeld ⊢;change Blk (y.alloc (.cells #[nm] 9)) _ _ _ at j;rw [<-t] at z;rw [<-t] at j;have f1:y.heap.size<=s:=by rw [t];simp
     clear t;refine rT2 8 14 (fun K hK=> ?_) fun K hK=> ?_
     ·clear hHeld;refine gB rfl (.tmp 51) (.tmp 53) 38 9 _ 16 rfl q9 gI rfl d.heap.size (.slice An n cn) n (sc (xs.map fun A:PkA=>A.n)) rfl z.names _ _ 1 1 [th nm] rfl (OK (j.cell 0)) (by simp [PX]) (by unfold maxLen;omega) qO qO ?_;intro A7 c7 E C K0 v L0 M0;have c:=z.appN v C;have A1:=v.size;refine hO hK (fun _=>c.held) (fun hHeld=> ?_);refine rT 14 fun K hK=> ?_;have hM8:=c.alloc (.cells #[.pointer (some a)] 139);have o:=o9 E 139 [.pointer (some a)];go_simp;refine hO hK (fun _=>hM8.held) (fun hHeld=> ?_);obtain ⟨n0,N⟩:=gX (E.alloc (.cells #[.pointer (some a)] 139));rw [<-N] at hHeld ⊢;change Blk (E.alloc (.cells #[.pointer (some a)] 139)) _ _ _ at o;rw [<-N] at hM8;rw [<-N] at o;have B1:E.heap.size<=n0:=by rw [N];simp
      clear N;refine rT 15 fun K hK=> ?_;refine gB rfl (.tmp 58) (.tmp 60) 124 139 _ 8 rfl Pw qX rfl d.heap.size (.slice Aa n ca) n (pkc xs) rfl hM8.all _ _ 1 1 [Value.pointer (some a)] rfl (OK (o.cell 0)) (by simp [PX]) (by unfold maxLen;omega) qO qO ?_;exact z218
     clear hHeld;have c:=z.alloc (.cells #[.pointer (some a)] 139);have o:=o9 s 139 [.pointer (some a)];have q:=j.alloc (.cells #[.pointer (some a)] 139);go_simp;refine hO hK (fun _=>c.held) (fun hHeld=> ?_);obtain ⟨E,f⟩:=gX (s.alloc (.cells #[.pointer (some a)] 139));rw [<-f] at hHeld ⊢;change Blk (s.alloc (.cells #[.pointer (some a)] 139)) _ _ _ at o;rw [<-f] at c;rw [<-f] at o;rw [<-f] at q;have g1:s.heap.size<=E:=by rw [f];simp
     clear f;refine rT 8 fun K hK=> ?_;refine gB rfl (.tmp 51) (.tmp 53) 38 9 _ 16 rfl q9 gI rfl d.heap.size (.slice An n cn) n (sc (xs.map fun A:PkA=>A.n)) rfl c.names _ _ 1 1 [th nm] rfl (OK (q.cell 0)) (by simp [PX]) (by unfold maxLen;omega) qO qO ?_;intro A7 c7 n0 C K0 v L0 M0;have hM8:=c.appN v C;have h1:=v.size;have r:=o.grown v (own_ne c.names o (by decide)).symm;refine hO hK (fun _=>hM8.held) (fun hHeld=> ?_);refine rT 15 fun K hK=> ?_;refine gB rfl (.tmp 58) (.tmp 60) 124 139 _ 8 rfl Pw qX rfl d.heap.size (.slice Aa n ca) n (pkc xs) rfl hM8.all _ _ 1 1 [Value.pointer (some a)] rfl (OK (r.cell 0)) (by simp [PX]) (by unfold maxLen;omega) qO qO ?_;exact z218
    clear hHeld;have z:=R.alloc (.cells #[.pointer (some a)] 139);have o:=o9 y 139 [.pointer (some a)];go_simp;refine hO hK (fun _=>z.held) (fun hHeld=> ?_);obtain ⟨s,t⟩:=gX (y.alloc (.cells #[.pointer (some a)] 139));rw [<-t] at hHeld ⊢;change Blk (y.alloc (.cells #[.pointer (some a)] 139)) _ _ _ at o;rw [<-t] at z;rw [<-t] at o;have f1:y.heap.size<=s:=by rw [t];simp
    clear t;refine rT 7 fun K hK=> ?_;have c:=z.alloc (.cells #[nm] 9);have j:=o9 s 9 [nm];have q:=o.alloc (.cells #[nm] 9);go_simp;refine hO hK (fun _=>c.held) (fun hHeld=> ?_);obtain ⟨E,f⟩:=gX (s.alloc (.cells #[nm] 9));rw [<-f] at hHeld ⊢;change Blk (s.alloc (.cells #[nm] 9)) _ _ _ at j;rw [<-f] at c;rw [<-f] at j;rw [<-f] at q;have g1:s.heap.size<=E:=by rw [f];simp
    clear f;refine rT 8 fun K hK=> ?_;refine gB rfl (.tmp 51) (.tmp 53) 38 9 _ 16 rfl q9 gI rfl d.heap.size (.slice An n cn) n (sc (xs.map fun A:PkA=>A.n)) rfl c.names _ _ 1 1 [th nm] rfl (OK (j.cell 0)) (by simp [PX]) (by unfold maxLen;omega) qO qO ?_;intro A7 c7 n0 C K0 v L0 M0;have hM8:=c.appN v C;have h1:=v.size;have r:=q.grown v (own_ne c.names q (by decide)).symm;refine hO hK (fun _=>hM8.held) (fun hHeld=> ?_);refine rT 15 fun K hK=> ?_;refine gB rfl (.tmp 58) (.tmp 60) 124 139 _ 8 rfl Pw qX rfl d.heap.size (.slice Aa n ca) n (pkc xs) rfl hM8.all _ _ 1 1 [Value.pointer (some a)] rfl (OK (r.cell 0)) (by simp [PX]) (by unfold maxLen;omega) qO qO ?_;exact z218
   have L:=qI (F.out.trans (b.2.1.other x b0 G I));have c1:=eN I;clear I G b F;go_wp2_with fail;refine j0.mono ?_;rintro e l0 ⟨rfl,M⟩;go_wp2_with fail;go_ret2;rw [L];exact ⟨a1.next M,rfl⟩
  have C1:=dfX ((k:Int)<D.l);obtain rfl:k=D.l:=qO;have N0:=F.out.trans b.2.1.all;obtain ⟨i1,u,hF3⟩:=b;subst i1;have L:=qI N0;clear N0 F u;go_wp2_with fail;go_ret2;rw [L];exact ⟨V,d,w,xs,An,cn,Aa,ca,rfl,rfl,H7 s0,lR _,hM.blk,hM.names,hM.all,fun A hx=>⟨_,_,hM.packs A hx,fun _=>⟨rfl,rfl⟩⟩,hF3,.inl ⟨rfl,rfl⟩,hM.gr.size⟩
end
