/- Walks and laws. Conditions: as stated. -/
import Derived.Test.YtecpbcmpncgokaaGreatRSt5
import Derived.Test.YtecpbcmpncgokaaGreatStoSum
set_option maxRecDepth 99999
set_option maxHeartbeats 25600000
set_option linter.all false
open Go.RowKit Go.Dol
namespace Go.Proofs.YtecpbcmpncgokaaGreat
theorem Lv {M} (a:M<=2097152) {rs b} (c: ∀r∈rs,r.length<=M) (h:bl geS rs=some b):b.length<=rs.length*(M+64)+45:=by
 unfold bl at h;split at h
 ·rename_i hp;injection h with h;have d:=qL M a rs [] 0 c;exact z267
 cases h
theorem Lw (l):(fp l).Nodup:=(qN l).imp fun a b=>by rw [b] at a;exact OR _ a
theorem yK {l} (a:l.Nodup):(fp l).length=l.length:=((List.perm_ext_iff_of_nodup (Lw l) a).2 (gv l)).length_eq
section
variable {D:Dk} {ks:List (LU)} {b:LU}
theorem Packed.idsS (c:Packed D ks b):idsS D (pkP ks b)=(fp (ks.map aw)).map idS:=by
 unfold Go.Proofs.YtecpbcmpncgokaaGreat.idsS;rw [iK,c.ids,List.nil_append];congr 1;refine qg fun d=> ?_;unfold cX;rw [ye,gv];unfold pkP;by_cases a:ks=[]
 ·rw [if_pos a,a];simp
 rw [if_neg a];simp only [List.flatMap_cons,List.flatMap_nil,List.append_nil];rw [jQ]
end
def blob1:LU:=[1,111,110,101]
def blob2:LU:=[1,116,119,111]
theorem yL (d) (a:d.length<=1048576):ay geS ⟨1,d,[],⟨#[]⟩,[],⟨#[]⟩,⟨#[]⟩,⟨#[]⟩,0,⟨#[]⟩⟩=true:=by
 unfold ay;rw [if_pos rfl,dT a];rfl
theorem yM (d) (a:d.length<=1048576):ah geS (1::d)=true:=by
 have b:=Dm (yL d a);unfold ah;rw [show (1::d)=ct ⟨1,d,[],⟨#[]⟩,[],⟨#[]⟩,⟨#[]⟩,⟨#[]⟩,0,⟨#[]⟩⟩ from rfl,b];rfl
theorem Lx: ∃i e a j b,cz geS (gO 10000) [] blob1=(.ok (idO blob1),i)/\OkD i/\cz geS i [] blob2=(.ok (idO blob2),e)/\OkD e/\
  cP geS e [] (bF geS e [] [idO blob1,idO blob2])=((0,a),pkP [blob1,blob2] b)/\OkD a/\cz geS a (pkP [blob1,blob2] b) blob1=(.ok (idO blob1),a)/\a.l.length=1/\(idsS a (pkP [blob1,blob2] b)).length=2/\(cX (pkP [blob1,blob2] b)).length<=4398046511104/\
  cP geS a (pkP [blob1,blob2] b) (bF geS a (pkP [blob1,blob2] b) [])=((0,j),[])/\OkD j/\j.l.length=0/\cQ (pkP [blob1,blob2] b):=by
 have n:ah geS blob1=true:=yM [111,110,101] (by decide);have t:ah geS blob2=true:=yM [116,119,111] (by decide);have N:=ln blob1 (by decide);have O:=ln blob2 (by decide);have P:blob1.length=4:=rfl;have Q:blob2.length=4:=rfl;have o:idO blob1≠idO blob2:=fun f=>Ly (by have:=congrArg (fun u:BA=>u.data.toList) f;simpa [idO,idS,blob1,blob2] using this);have v:Just (gO 10000) []:=⟨tC _ qO qO,fun g c=>(m9 c).elim,On,List.Perm.refl _⟩;have R:=CU 10000 qO qO;rcases v.put n qO with ⟨b,f,_⟩ | ⟨i,S,w,h,_,T⟩
 ·rw [oD (dO _) rfl] at f;cases f
 rcases h.put t qO with ⟨b,f,_⟩ | ⟨e,U,x,k,_,V⟩
 ·rcases h.fo.get h.calm.ok.ord (dO blob2) with ⟨_,p⟩ | ⟨g,_,W,y,_⟩
  ·rw [f] at p;cases p
  have z:=(bz h.calm.ok.ord).1 y;have:=h.files.mem_iff.1 z;obtain ⟨A,B,m⟩:=e9.1 this;obtain rfl:A=blob1:=by simpa using B
  injection m with m _;exact absurd (jy m) o
 have q:([blob1,blob2].map idO).Nodup:=by simp [o]
 obtain ⟨b,r⟩:=yN (ks:=[blob1,blob2]) (fun g c=>k.objs g (by simpa using c)) q (by decide);have C:=Lv (M:=4) (by decide) (fun g c=>by rcases i8.1 c with rfl | c;exact lR _;obtain rfl:=i7.1 c;exact lR _) r;have X:b.length<=181:=C;obtain ⟨a,D,d,_⟩:=Lz k (ks:=[blob1,blob2]) (fun g c=>by simpa using c) q r (fun _=>by omega);have E:=d.get (r:=blob1) (j8 ..);have F:cz geS a (pkP [blob1,blob2] b) blob1=(.ok (idO blob1),a):=by
  rw [mG n,E];exact if_pos rfl
 have s:=d.objs.2.2;have G:(idsS a (pkP [blob1,blob2] b)).length=2:=by
  rw [d.idsS,g7,yK s];rfl
 have H:(cX (pkP [blob1,blob2] b)).length<=4398046511104:=by
  unfold cX pkP;rw [if_neg (by decide)];simp only [List.flatMap_cons,List.flatMap_nil,List.append_nil];rw [jQ,g7,yK s];decide
 obtain ⟨Y,I⟩:=yN (ks:=[]) (fun g c=>(m9 c).elim) On (by decide);obtain ⟨j,J,K,L⟩:=LA d I;exact ⟨i,e,a,j,b,by rw [yO];exact w,h.calm.ok,by rw [yO];exact x,k.calm.ok,D,d.calm.ok,F,by rw [d.files];rfl,G,H,J,K.ok,by rw [L];rfl,hJ d.packs⟩
theorem LB {l f} (a:f∈l):dB f<=ar l:=by
 induction l with
 | nil=>cases a
 | cons b c d=>
 have e:=kX b;have g:=oe c;rw [ar];rcases i8.1 a with rfl | a
 ·omega
 have:=d a;omega
theorem LC {D} (a:OkD D):OkG 3518437208880 140737488351232 D:=⟨a.ord,a.cap0,a.cap1,a.left0,a.left1,a.names,a.toW.len,fun d b=>by
 have c:=LB b;have e:=a.room;have f:=a.cap1;unfold dB at c;omega⟩
section
variable {w w1 w':World} {base gp gs g m:Nat} {xs:List PkA} {D:Dk} {P:List Pk}
theorem Tw3.new {w0} (b:Below w0.heap.size w0 w) (a:Tw3 w w' g m gs) (d:w0<=g) (e:w0<=m) (f:w0<=gs):Below w0.heap.size w0 w':=
 b.trans ⟨a.os,a.tape,a.output,a.size,fun c h=>a.block c (by have:=b.size;omega) qO qO qO⟩
theorem TwI.new {w0 S} (b:Below w0.heap.size w0 w) (a:TwI w w' S) (d: ∀i∈S,w0.heap.size<=i):Below w0.heap.size w0 w':=
 b.trans ⟨a.os,a.tape,a.output,a.size,fun c f=>a.block c (by have:=b.size;omega) fun e=>by have:=d c e;omega⟩
theorem Sto.mem {n} (b:Sto w gs g m base gp D xs) (c:n<=gp) (d:n<=base): ∀i∈gp::xs.map (·.g),n<=i:=fun i a=>by
 rcases i8.1 a with rfl | a
 ·exact c
 obtain ⟨e,f,rfl⟩:=e9.1 a;obtain ⟨k,l,o,p,dn,q,h⟩:=b.pks;obtain ⟨r,s,j,_⟩:=h.packs e f;exact lT d j.gb
theorem qP (w:World) (B l fr):Far (w.alloc (.cells (bc l).toArray 5 fr)) B (some ⟨w,0,none⟩) l:=by
 have b:=heap_alloc_new w (.cells (bc l).toArray 5 fr);refine ⟨⟨by rw [bC];omega,fun _=>⟨w,0,rfl,by simp,fun f h c=> ?_⟩⟩,fun _ d a=> .inr ?_⟩
 ·rw [x9,cell_of_row _ _ _ _ _ fr b];simpa using c
 injection a with a;have e:w=d:=a;rw [<-e];exact ⟨_,fr,b⟩
theorem qQ (c:Sto w gs g m base gp D xs) (a:OkD D) (d:cQ (xs.map PkA.pk)) (j:xs.length<=kad) (q x y z) (e:Far w 0 (some ⟨q,0,none⟩) [x,y,z]):
  Calls Tryz.prog 67 #[.pointer (some gs),.agg #[.int .i64 1,.slice (some ⟨q,0,none⟩) 3 3,eL,eS,eL,eS,eS,eS,i0,eS]] w (RetPutS w gs g m base gp xs (cz geS D (xs.map PkA.pk) [1,x,y,z])):=by
 have b:=yB c a.toW (by have:=a.lenW;omega) d qO 1 (some ⟨q,0,none⟩) [x,y,z] 3 none [] 0 eS none [] 0 eS eS eS 0 eS (fun f h=>oR 1 (some ⟨q,0,none⟩) [x,y,z] 3 none [] 0 eS none [] 0 eS eS eS 0 eS f (e.below h).1 L8 L8 (by decide) (by decide) (qI fun k i=>(m9 i).elim));rw [show hP geS D (xs.map PkA.pk) ⟨1,[x,y,z],[],⟨#[]⟩,[],⟨#[]⟩,⟨#[]⟩,⟨#[]⟩,0,⟨#[]⟩⟩=cz geS D (xs.map PkA.pk) [1,x,y,z] from if_pos (yL [x,y,z] (show 3<=1048576 by decide))] at b;exact b
theorem qR (w:World) (x y z):(convert 36 36 (.slice (some ⟨w,0,none⟩) 3 3)).run Tryz.prog (w.alloc (.cells #[.int .u8 x,.int .u8 y,.int .u8 z] 5))= .ok (.slice (some ⟨w,0,none⟩) 3 3) (w.alloc (.cells #[.int .u8 x,.int .u8 y,.int .u8 z] 5 (3,4))):=
 Lib.run_convert_bytes_const (P:=Tryz.prog) w 36 5 #[.int .u8 x,.int .u8 y,.int .u8 z] 3 3 q7 z8
theorem yP (w):Calls Tryz.prog 15 #[] w fun a w'=>a= .returned true/\Below w.heap.size w w':=by
 obtain ⟨W0,X0,j0,k0,l0,H,m0,I,J,x,h,y,n0,K,L,M,o0,p0,N⟩:=Lx;obtain ⟨b,q⟩:=gX (idO blob1);obtain ⟨c,r⟩:=gX (idO blob2);obtain ⟨P,z⟩:=gX (pkP [blob1,blob2] l0);rw [<-z] at x y K L M N;rw [<-q,<-r] at x;rw [<-q] at H y;rw [<-r] at I;have Y0:b.size=32:=by rw [q];exact dO _
 have Z0:c.size=32:=by rw [r];exact dO _
 have a1:P.length<=1:=by rw [z];unfold pkP;rw [if_neg (by decide)];exact lR _
 have O:=(tC 10000 qO qO).ok;have i: ∀{D:Dk},OkD D->D.l.length+1<=3518437208880/\OkG kac kab D:=fun {D} Q=>⟨by have:=Q.lenW;omega,LC Q⟩;clear q r z;go_in;go_wp2_with fail;refine (sl 10000 w qO qO).mono ?_;rintro a w1 ⟨g,m,rfl,q0,j,k,R⟩;have S:=qI (ku q0 (i O).2);go_wp2_with fail;refine S.mono ?_;rintro a s ⟨r0,gs,base,gp,xs,s0,rfl,b1,c1,d1,t0⟩;obtain rfl:xs=[]:=List.map_eq_nil_iff.1 s0.out;have u0:=R.next r0;have e1:=R.size;have ha:=bAl s (.cells #[.int .u8 111,.int .u8 110,.int .u8 101] 5 (3,4));have A:=qI (qQ (t0.below ha) O (fun T n=>(m9 n).elim) (by decide) s 111 110 101 (qP s 0 [111,110,101] (3,4)));rw [show [1,111,110,101]=blob1 from rfl,show ([]:List PkA).map PkA.pk=[] from rfl,H] at A;have v0:=qR s 111 110 101;clear S;go_wp2_with fail;refine A.mono ?_;intro a t o;obtain ⟨rfl,w0,x0⟩:=o.ok;have y0:=Tw.new (u0.next ha) x0 j k;have U:=bAl t (.cells #[.int .u8 116,.int .u8 119,.int .u8 111] 5 (3,4));have B:=qI (qQ (w0.below U) m0 (fun T n=>(m9 n).elim) (by decide) t 116 119 111 (qP t 0 [116,119,111] (3,4)));rw [show [1,116,119,111]=blob2 from rfl,show ([]:List PkA).map PkA.pk=[] from rfl,I] at B;have z0:=qR t 116 119 111;clear A v0;go_wp2_with fail;refine B.mono ?_;intro a e o;obtain ⟨rfl,A0,B0⟩:=o.ok;have V:=Tw.new (y0.next U) B0 j k;have C:=bAl e (.cells #[b,c] 9);have W:Rd (e.alloc (.cells #[b,c] 9)) (e.alloc (.cells #[b,c] 9)).heap.size 1 (some ⟨e,0,none⟩) 2 (sc [b,c]):=(Rd.new2v e 9 (.string b) (.string c)).more (by simp);have E:=qH (A0.below C) (i J).2 (i J).1 (fun T n=>(m9 n).elim) (by decide) (some ⟨e.heap.size,0,none⟩) 2 [b,c] 2 rfl W (by decide) (fun C0 p=>by
  rcases i8.1 p with rfl | p
  ·omega
  ·obtain rfl:=i7.1 p;omega)
 rw [show ([]:List PkA).map PkA.pk=[] from rfl,x] at E;have d:=qI E;clear B z0 E W;go_wp2_with fail;refine d.mono ?_;rintro a u ⟨rfl,D0,E0,F0,X,Y,f,Z⟩;have G0:=Tw3.new (V.next C) D0 j k qO;have f1:=(V.next C).size;have a0:w<=F0/\w<=E0:=by rcases Z with ⟨rfl,rfl,_⟩ | ⟨g1,h1⟩<;>omega
 have i1:X.length<=1:=by have:=congrArg List.length f.out;rw [g7] at this;simp only at this;omega
 have F:cQ (X.map PkA.pk):=by rw [f];exact N
 have b0:=qI (ob Y.dk);clear d Z;go_wp2_with fail;refine b0.mono ?_;rintro a j1 ⟨rfl,H0⟩;obtain rfl:=H0.symm;have c0:=bAl u (.cells #[.int .u8 111,.int .u8 110,.int .u8 101] 5 (3,4));have v:=qI (qQ (Y.below c0) h F qO u 111 110 101 (qP u 0 [111,110,101] (3,4)));rw [show [1,111,110,101]=blob1 from rfl,f] at v;rw [y] at v;have I0:=qR u 111 110 101;clear b0;go_wp2_with fail;refine v.mono ?_;intro a k1 o;obtain ⟨rfl,G,J0⟩:=o.ok;have K0:=Tw.new (G0.next c0) J0 j k;have d0:=qI (ob G.dk);clear v I0;go_wp2_with fail;refine d0.mono ?_;rintro a l1 ⟨rfl,L0⟩;obtain rfl:=L0.symm;have e0:=qI (jh G.dk h.toW.toL);have m1:((j0.l:Int)==1)=true:=by rw [n0];rfl
 clear d0;go_wp2_with fail;refine e0.mono ?_;rintro a n1 ⟨o1,p1,rfl,q1,f0⟩;have g0:=G.below f0;have M0:=K0.next f0;have h0:=qI (kt g0 h.toW F qO (by rw [f];exact L));clear e0;go_wp2_with fail;refine h0.mono ?_;rintro a r1 ⟨N0,s1,t1,rfl,i0,u1,O0,P0⟩;have v1:((N0:Int)==2)=true:=by rw [i0,f,K];rfl
 have Q0:=TwI.new M0 P0 (g0.mem a0.1 a0.2);have d:=qI (qH O0 (i h).2 (i h).1 F qO none 0 [] 0 rfl L8 (by decide) (fun C0 p=>(m9 p).elim));rw [f] at d;rw [M] at d;clear h0 i0;go_wp2_with fail;refine d.mono ?_;rintro a x1 ⟨rfl,R0,y1,z1,A1,S0,B1,C1⟩;have T0:=Tw3.new Q0 R0 j k qO;have U0:=qI (jh S0.dk o0.toW.toL);have D1:((k0.l:Int)==0)=true:=by rw [p0];rfl
 clear d;go_wp2_with fail;refine U0.mono ?_;rintro a E1 ⟨F1,G1,rfl,H1,V0⟩;go_wp2_with fail;go_ret;exact ⟨rfl,T0.next V0⟩
end
section
variable {w w1 w':World} {base gp gs g m:Nat} {xs:List PkA} {D:Dk} {A A2:OA} {c c2 n:Nat} {ys zs:List BA}
theorem KR {b T size v l} (f:Sto w gs g m base gp D xs) (h:Tw3 w w' g m gs) (d:w.ownsRow b T size v n l) (i:T≠145) (j:T≠100):w'.ownsRow b T size v n l:=gG d fun k e=>by
 obtain ⟨q,o,p,_⟩:=f.dk;refine h.block k (cZ d k e).2 (fun a=> ?_) (fun a=> ?_) (fun a=> ?_)
 ·exact own_ne d o (fun a=>i a.symm) (by rw [e,a])
 ·exact p.own_ne d (by rw [e,a])
 exact own_ne d f.st (fun a=>j a.symm) (by rw [e,a])
end
section
variable {w w':World} {base gp gs g m:Nat} {xs:List PkA} {D:Dk} {S:List Nat}
theorem Pck.twI {b l A c mp d vi} (a:Pck w base b l A c mp d vi) (e:TwI w w' S) (k:b∉S):Pck w' base b l A c mp d vi:=
 ⟨a.blk.keepB (e.block b a.blk.lt fun n=>absurd n k),a.gb,a.mb,e.own a.parts (by decide) (by decide),a.map.keepB (e.block mp a.map.lt fun _ t u v j=>by obtain ⟨x,y,o,_⟩:=a.map;rw [o] at j;cases j),
  fun f h=>⟨⟨e.far (a.raws f h).1.1,(a.raws f h).1.2⟩,(a.raws f h).2⟩,by
  rcases a.ids with i | ⟨i,p,q,r,s⟩
  ·exact .inl i
  ·exact .inr ⟨i,p,q,r,e.own s (by decide) (by decide)⟩⟩
theorem Sto.twO (c:Sto w gs g m base gp D xs) (a:TwI w w' S) (e: ∀i∈gp::xs.map (·.g),i∉S):Sto w' gs g m base gp D xs:=by
 obtain ⟨j,k,l,n,dn,o,b⟩:=c.pks;exact ⟨a.blk c.st (by decide) (by decide),a.dsk c.dk,c.lt,j,k,l,n,dn,o,b.blk.keepB (a.block gp b.blk.lt fun p=>absurd p (e gp (j8 ..))),a.own b.names (by decide) (by decide),a.own b.all (by decide) (by decide),fun f h=>by
  obtain ⟨q,r,s,t⟩:=b.packs f h;exact ⟨q,r,s.twI a (e _ (k8 _ (e9.2 ⟨f,h,rfl⟩))),t⟩,b.nodup,by
  rcases b.ids with d | ⟨d,u,v,x,y,z,A⟩
  ·exact .inl d
  ·exact .inr ⟨d,u,v,x,y,a.own z (by decide) (by decide),A⟩,lT b.le a.size⟩
theorem Sto.memLt (c:Sto w gs g m base gp D xs): ∀i∈gp::xs.map (·.g),i<w.heap.size:=fun i a=>by
 obtain ⟨h,j,k,l,dn,n,b⟩:=c.pks;rcases i8.1 a with rfl | a
 ·exact b.blk.lt
 obtain ⟨d,e,rfl⟩:=e9.1 a;obtain ⟨o,p,f,_⟩:=b.packs d e;exact f.blk.lt
end
section
variable {w w':World} {gs g m base gp gr g2:Nat} {D E:Dk} {xs:List PkA} {T T':TypeId} {a b:Nat} {cs cs':List Value}
theorem yQ (d:Blk w a T cs) (c:Blk w b T' cs') (e:T≠T'):a≠b:=by
 rintro rfl;unfold Blk at d c;rw [d] at c;injection c with c;injection c with _ c;exact e c
def LD (w w':World):Prop:=w.heap.size<=w'/\ ∀(c:Nat) (d:Array Value) (T:TypeId) (e:Nat×Nat),w.heap[c]?=some (Go.Obj.cells d T e)->(T=54\/T=110\/T=5\/T=119)->w'.heap[c]?=w.heap[c]?
theorem RSto.stands (f:RSto w g2 gr E) (e:LD w w'):RSto w' g2 gr E:=by
 obtain ⟨s,t,v,k,hO,l,y⟩:=f.dk;refine ⟨(e.2 _ _ _ _ f.st (by simp)).trans f.st,⟨s,t,v,(e.2 _ _ _ _ k (by simp)).trans k,?_,fun x n=>⟨?_,(l x n).2⟩,y⟩,f.ne⟩
 ·refine gG hO fun o c=> ?_;rcases hO.2 with ⟨d,_⟩ | ⟨b,K,L,d,_,z,_⟩
  ·rw [d] at c;cases c
  rw [d] at c;have A:b=o:=by simpa [Value.ownBlock] using c
  subst A;exact e.2 _ _ _ _ z (by simp)
 obtain ⟨p,B⟩:=(l x n).1;rcases p7 x.b.length with h | h
 ·rw [nZ h];exact Far.nil
 obtain ⟨b,C,d,F,G⟩:=p.at_ h;have q:au x.A=some b:=by rw [d];rfl
 rcases B h b q with i | ⟨H,I,i⟩
 ·omega
 have r:=e.2 _ _ _ _ i (by simp);refine ⟨⟨p.len,fun _=>⟨b,C,d,r9 F e.1,fun j u J=>(k7 r).trans (G j u J)⟩⟩,fun _ o c=> ?_⟩;rw [q] at c;injection c with c;subst c;rw [r];exact .inr ⟨H,I,i⟩
theorem qS (d:Blk w a T cs) (e:T≠54/\T≠110/\T≠5/\T≠119) {i cur T2 fr} (hi:w.heap[i]?=some (Go.Obj.cells cur T2 fr)) (c:T2=54\/T2=110\/T2=5\/T2=119):i≠a:=by
 rintro rfl;unfold Blk at d;rw [d] at hi;injection hi with hi;injection hi with _ hi;subst hi;obtain ⟨a,b,f,h⟩:=e;rcases c with c | c | c | c
 ·exact a c
 ·exact b c
 ·exact f c
 exact h c
theorem yR (c:Dsk w g m D) {i cur T2 fr} (hi:w.heap[i]?=some (Go.Obj.cells cur T2 fr)):i≠m:=by
 rintro rfl;obtain ⟨f,h,d,_⟩:=c;obtain ⟨j,k,e,_⟩:=d;rw [e] at hi;cases hi
theorem Dsk.blkD (c:Dsk w g m D): ∃cs,Blk w g 145 cs:=by
 obtain ⟨e,d,_⟩:=c;exact ⟨_,d⟩
theorem RSto.tw (e:RSto w g2 gr E) (c:Dsk w g m D) (d:Tw w w' g m):RSto w' g2 gr E:=by
 obtain ⟨cs,f⟩:=c.blkD;exact e.stands ⟨d.size,fun h j T k hi i=>d.block h (j7.1 hi).1 (qS f (by decide) hi i) (yR c hi)⟩
theorem RSto.tw3 (h:RSto w g2 gr E) (d:Sto w gs g m base gp D xs) (e:Tw3 w w' g m gs):RSto w' g2 gr E:=by
 obtain ⟨cs,i⟩:=d.dk.blkD;exact h.stands ⟨e.size,fun j k T l c f=>e.block j (j7.1 c).1 (qS i (by decide) c f) (yR d.dk c) (qS d.st (by decide) c f)⟩
theorem RSto.twI {S} (f:RSto w g2 gr E) (d:TwI w w' S):RSto w' g2 gr E:=
 f.stands ⟨d.size,fun h j T k e i=>d.block h (j7.1 e).1 fun _ l T' n c=>by
  rw [e] at c;injection c with c;injection c with _ c;subst c;rcases i with rfl | rfl | rfl | rfl<;>exact ⟨by decide,by decide⟩⟩
theorem Sto.ref (k:Sto w gs g m base gp D xs) (f:RSto w g2 gr E) (c:w.grownBy w' (some gr)) (y:gr<base):Sto w' gs g m base gp D xs:=by
 obtain ⟨h,l,n,o,p,q,r,dn,s,d⟩:=k;obtain ⟨z,A,B,i,_⟩:=id f.dk;have e: ∀{j:Nat},j≠gr->some j≠some gr:=fun t u=>t (by injection u);exact ⟨h.grown c (e (yQ h i (by decide))),l.ref f.dk c,n,o,p,q,r,dn,s,d.keep (c.block gp d.blk.lt (e (yQ d.blk i (by decide)))) (fun v C x=>c.block v x (e qO)) c.size⟩
end
