/- Walks and laws. Conditions: as stated. -/
import Derived.Test.YtecpbcmpncgokaaGreatRSt9
set_option maxRecDepth 99999
set_option maxHeartbeats 25600000
set_option linter.all false
open Go.Value renaming slice->it
open Go.RowKit Go.Dol
namespace Go.Dol
theorem Lo {P w ops o a K Q} {g:Prop} (h:o.guard=none) (s x t e z bytes)
  (j:o.op= .call { callee:=.builtin .append,args:=#[s,x],argTypes:=#[t,t] })
  (k:P.underlying t=some (.slice e)) (hi:(P.info? e).map (fun i=>(i.zero,i.size,i.bytes))=some (some z,1,bytes)) (l:z.cells.size=1)
  (base v n xs) (p:a.eval s=v) (d:w.ownsRow base e 1 v n xs)
  (B A m c news) (q:a.eval x= .slice A m c) (r:Rd w B 1 A m news) (b: ∀u∈news,u.oneCell'=true)
  (y:n+m<=maxLen) (C:(n+m)*bytes<=kaa) (hbase:base<=w.heap.size)
  (D: ∀(A':OA) (c':Nat) (w':World),w'.ownsRow base e 1 (.slice A' (n+m) c') (n+m) (xs++news)->Below base w w'->w.grownBy w' v.ownBlock->Hid ((it A' (n+m) c').ownBlock=v.ownBlock\/(it A' (n+m) c').ownBlock=some w.heap.size)->
   n+m<=c'->c'<=maxLen->K (a.put o.dst (.slice A' (n+m) c')) w'):if Region.wanted o (yielded ops a.tmps)=true then Oper.wp P o a w K Q else g:=by
 have E:Region.wanted o (yielded ops a.tmps)=true:=by simp [Region.wanted,h]
 rw [if_pos E];refine hG w s x _ j base _ _ 1 bytes k hi l (by decide) v n xs p d B A m c news q r b y C hbase ?_;intro A' c' w' b f F G H;exact D _ c' w' b ((bR _ _).grown f hbase (fun I J=>(d.lt I J).1)) f F G H
end Go.Dol
namespace Go.Proofs.YtecpbcmpncgokaaGreat
theorem tC (cap) (a:0<=cap) (b:cap<=1099511627776):CalmD (gO cap):=⟨⟨Ny,a,b,a,Int.le_refl (-1),(by decide:(-1:Int)<=kal),fun d c=>(m9 c).elim⟩,rfl,rfl⟩
theorem CU (cap) (a:0<=cap) (b:cap<=1099511627776):frD (gO cap)=cap:=by
 show IntKind.i64.wrap (cap-0)=cap;rw [Int.sub_zero];exact qJ qO
structure TwoS (w:World) (base:Nat) (A:OA) (c:Nat) (xs:List BA) (A2:OA) (c2:Nat) (ys:List BA):Prop where
 one:w.ownsRow base 9 1 (.slice A xs c) xs (sc xs)
 two:w.ownsRow base 9 1 (.slice A2 ys c2) ys (sc ys)
 apart: ∀k,(it A xs c).ownBlock=some k->(it A2 ys c2).ownBlock≠some k
section
variable {w w':World} {g m base:Nat} {D:Dk} {A A2:OA} {c c2:Nat} {xs ys:List BA}
theorem TwoS.below (a:TwoS w base A c xs A2 c2 ys) (b:Below w w w'):TwoS w' base A c xs A2 c2 ys:=⟨az a.one b,az a.two b,a.apart⟩
end
def Dg (ns:List BA) (w:World) (v i:Value) (wr:World):Prop:=
 ∃(b:Nat) (ys:List BA) (a:Nat) (c:OA) (d:Nat),v= .slice c a d/\i= .int .i64 b/\b<=ns/\Hid (ys=(ns.take b).filterMap bj)/\Hid (ys=a)/\a<=b/\wr.ownsRow w 9 1 (.slice c a d) a (sc ys)/\Below w w wr
theorem tM {y} (e: ¬(y.size=66/\y.data.toList.take 2=[111,47])):bj y=none:=by
 rw [oA];split
 ·rename_i b;cases a:aX (dE y ⟨#[111,47]⟩).1.data.toList with
  | none=>rfl
  | some c=>
  simp only;rw [if_neg fun f=>e ?_];unfold dE at a b;by_cases d:y.data.toList.take (⟨#[111,47]⟩:BA).size=(⟨#[111,47]⟩:BA).data.toList
  ·rw [if_pos d] at a;have a:aX (y.data.toList.drop 2)=some c:=a;have g:2*c=(y.data.toList.drop 2).length:=by rw [<-lk _ c a,gd]
   refine ⟨?_,d⟩;rw [b8,aC,f] at g;omega
  rw [if_neg d] at b;cases b
 rfl
theorem Dh {y} (a:y.size=66) (b:y.data.toList.take 2=[111,47]):bj y=(aX (y.data.toList.drop 2)).map idS:=by
 rw [oA];unfold dE;rw [if_pos (show y.data.toList.take (⟨#[111,47]⟩:BA).size=(⟨#[111,47]⟩:BA).data.toList from b),if_pos rfl];show (match aX (y.data.toList.drop 2) with | none=>none | some q=>if q.length=32 then some (idS q) else none)=_;cases c:aX (y.data.toList.drop 2) with
 | none=>rfl
 | some q=>
 have d:2*q=(y.data.toList.drop 2).length:=by rw [<-lk _ q c,gd]
 rw [b8,aC,a] at d;simp only;rw [if_pos qO];rfl
section
variable {w:World} {gr:Nat} {D:Dk}
theorem tN (h:Rdk w gr D) (I:OkW D):Calls Tryz.prog 50 #[.pointer (some gr)] w fun g w'=> ∃(ys:List BA) (A:OA) (c:Nat),Hid (ys=bE D)/\g= .returned (.slice A ys.length c)/\w'.ownsRow w 9 1 (.slice A ys.length c) ys.length (sc ys)/\Below w w w':=by
 have x:=I.len;have z:=qI (tO h x);obtain ⟨a,j⟩:=gX (D.l.map Prod.fst);have q:D.l.length=a:=by rw [j,g7]
 have J:Hid (bE D=a.filterMap bj):=by unfold Hid;rw [j];rfl
 go_in;go_wp2_with fail;refine z.mono ?_;rintro g B ⟨A,c,rfl,C,hb⟩;rw [<-j,q] at C;rw [q] at x ⊢;clear j q z;go_wp2_with fail;go_loopw [3,5] (fun K i wr=>Dg a B K i wr) (fun _ i _=>a-(intOf i).toNat)
 case atStart=>exact ⟨0,[],0,none,0,rfl,rfl,zL,rfl,rfl,lR _,j9 _ _ _ _,bR _ _⟩
 case round=>
  obtain ⟨k,ys,n,A5,c5,rfl,rfl,Y,hy,hyn,Z,ho5,hbr⟩:=hrel;have a0:=qiJ (k+1);by_cases L:k<a
  ·have b0:=ltI k a.length;have c0:=zeI k;obtain ⟨y,r⟩: ∃y,a[k]?=some y:=⟨a[k],gE L⟩;obtain ⟨d0,e0,rfl,f0,E⟩:=((d8 C).below hbr).at_ qO;have g0:=E _ _ (by rw [sc,m7,r];rfl);have hTk:Hid ((a.take (k+1)).filterMap bj=(a.take k).filterMap bj++(bj y).toList):=by
    unfold Hid;rw [t7,r,List.filterMap_append];cases M:bj y<;>simp [M]
   clear E r;by_cases m:y.size=66
   ·have N:((y.size:Int)!=66)=false:=by rw [m];rfl
    have F:((y.extract 0 2).toList==[111,47])=decide (y.data.toList.take 2=[111,47]):=by
     have h:=oz y ⟨#[111,47]⟩;rw [t8 ⟨#[111,47]⟩] at h;exact h
    by_cases b:y.data.toList.take 2=[111,47]
    ·rw [dT b] at F;have d:=qI (Dh m b);have s:y.extract 2 66=⟨(y.data.toList.drop 2).toArray⟩:=by
      have:=tz y 2;rwa [m] at this
     have o:=qI (Di (y.extract 2 66) wr (by rw [s];show (List.drop _ _).toArray.size<=_;rw [List.size_toArray,b8,aC];omega));rw [show (y.extract 2 66).data.toList=y.data.toList.drop 2 by rw [s]] at o;clear s b;go_wp2_with fail;refine o.mono ?_;cases e:aX (y.data.toList.drop 2) with
     | none=>
      rw [e] at d;have t:=qI d;clear e o d;rintro g u ⟨rfl,f⟩;go_wp2_with fail;exact ⟨⟨k+1,ys,n,A5,c5,rfl,by go_num,qO,qI (by rw [hTk,t.out.out,hy];simp),hyn,qO,az ho5 f,hbr.next f⟩,by simp [intOf];omega⟩
     | some O=>
     rw [e] at d;have t:=qI d;clear e o d;rintro g u ⟨v,P,rfl,f⟩;have G:=hbr.next f;have h0:=G.size;have Q:=az ho5 f;have H:=bAl u (.cells #[.string ⟨v.toArray⟩] 9);have R:=az Q H;have S:=NX u 9 (.string ⟨v.toArray⟩);go_wp2_with (at_builtin;refine kB rfl _ _ 38 9 (.string ⟨#[]⟩) 16 rfl q9 ib rfl B.heap.size (.slice A5 n c5) n (sc ys) rfl R _ _ 1 1 [.string ⟨v.toArray⟩] rfl S (by intro i0 e;obtain rfl:=i7.1 e;rfl) (by unfold maxLen;omega) (by omega) (by simp;omega) ?_;intro T U j0 V W k0 _ _ _);go_wp2_with fail;refine ⟨⟨k+1,ys++[idS O],n+1,T,U,rfl,by go_num,qO,qI (by rw [hTk,t.out.out,hy];rfl),qI (by rw [b7,hyn];rfl),qO,?_,(G.next H).trans W⟩,by simp [intOf];omega⟩;have X:=P.out;subst X;rw [iX];exact V
    rw [qF b] at F;have hno:=qI (tM (y:=y) fun h=>b h.2);clear b;exact z112
   have N:((y.size:Int)!=66)=true:=bne_iff_ne.2 qO;have hno:=qI (tM (y:=y) fun h=>m h.1);exact z112
  have hall:Hid (ys=bE D):=by
   unfold Hid;rw [J,hy,i9 qO]
  exact z161
end
structure TwI (w w':World) (S:List Nat):Prop where
 os:w'.os=w.os
 tape:w'.tape=w.tape
 output:w'.output=w.output
 size:w.heap.size<=w'
 block: ∀i,i<w.heap.size->(i∈S-> ∀cur T fr,w.heap[i]?=some (.cells cur T fr)->T≠205/\T≠138)->w'.heap[i]?=w.heap[i]?
section
variable {w w1 w':World} {S:List Nat} {T:TypeId} {x g m:Nat} {cs:List Value} {D:Dk}
theorem TwI.below (a:Below w w w'):TwI w w' S:=⟨a.os,a.tape,a.output,a.size,fun b c _=>a.block b c⟩
theorem TwI.step (a:TwI w w1 S) (b:TwI w1 w' S):TwI w w' S:=
 ⟨b.os.trans a.os,b.tape.trans a.tape,b.output.trans a.output,lT a.size b.size,fun c d e=>by
  have f:=a.block c d e;exact (b.block c (r9 d a.size) (fun h i T j k=>e h i T j (f▸k))).trans f⟩
theorem TwI.grown (c:Blk w x T cs) (d:x∈S) (e:T=205\/T=138) (a:w.grownBy w' (some x)):TwI w w' S:=
 ⟨a.os,a.tape,a.output,a.size,fun f h i=>a.block f h fun b=>by
  injection b with b;subst b;obtain ⟨j,k⟩:=i d _ _ _ c;exact e.elim j k⟩
theorem TwI.row (a:TwI w w1 S) {row} (b:w1.grownBy w' row) (e: ∀k,row=some k->w.heap.size<=k):TwI w w' S:=
 ⟨b.os.trans a.os,b.tape.trans a.tape,b.output.trans a.output,lT a.size b.size,fun c d f=>(b.block c (r9 d a.size) fun h=>by have:=e c h.symm;omega).trans (a.block c d f)⟩
theorem TwI.blk (c:TwI w w' S) (b:Blk w x T cs) (d:T≠205) (e:T≠138):Blk w' x T cs:=b.keepB (c.block x b.lt fun _ f h i a=>by
 unfold Blk at b;rw [b] at a;injection a with a;injection a with _ a;subst a;exact ⟨d,e⟩)
theorem TwI.own (d:TwI w w' S) {base size n v xs} (b:w.ownsRow base T size v n xs) (e:T≠205) (f:T≠138):w'.ownsRow base T size v n xs:=gG b fun k c=>d.block k (cZ b k c).2 fun _ l o p a=>by
 rcases b.2 with ⟨rfl,_⟩ | ⟨h,q,r,rfl,_,i,_⟩
 ·cases c
 have j:h=k:=by simpa [Value.ownBlock] using c
 subst j;rw [i] at a;injection a with a;injection a with _ a;subst a;exact ⟨e,f⟩
theorem TwI.far (h:TwI w w' S) {A l} (e:Far w 0 A l):Far w' 0 A l:=by
 rcases p7 l.length with b | b
 ·rw [nZ b];exact Far.nil
 obtain ⟨c,p,i,k,q⟩:=e.1.at_ b;have n:au A=some c:=by rw [i];rfl
 rcases e.2 b c n with f | ⟨r,s,f⟩
 ·omega
 have o:=h.block c k fun _ v T y a=>by
  rw [f] at a;injection a with a;injection a with _ a;subst a;exact ⟨by decide,by decide⟩
 refine ⟨⟨e.1.len,fun _=>⟨c,p,i,r9 k h.size,fun j u t=>(k7 o).trans (q j u t)⟩⟩,fun _ z d=> ?_⟩;rw [n] at d;injection d with d;subst d;exact .inr ⟨r,s,by rw [o];exact f⟩
theorem TwI.dsk (a:TwI w w' S) (d:Dsk w g m D):Dsk w' g m D:=by
 obtain ⟨e,f,b,h,i,j,k⟩:=d;refine ⟨e,a.blk f (by decide) (by decide),b.keepB (a.block m b.lt fun _ u T v c=> ?_),h,i,fun l n=> ?_,k⟩
 ·obtain ⟨y,z,o,_⟩:=b;rw [o] at c;cases c
 obtain ⟨p,q,r,s,t⟩:=j l n;exact ⟨p,q,r,a.far s,t⟩
end
section
variable {w w':World} {base g:Nat} {l:List PtA} {A:OA} {c m:Nat} {d:Int} {vi:Value}
theorem Pck.grownB (a:Pck w base g l A c m d vi) {b T cs} (h:Blk w b T cs) (n:g≠b) (o:T≠306) (p:T≠5) (q:T≠9) (e:w.grownBy w' (some b)):Pck w' base g l A c m d vi:=
 ⟨a.blk.grown e (fun f=>n (by injection f)),a.gb,a.mb,aE a.parts h o e,a.map.grown e (fun f=>by injection f with f;exact a.map.blk_ne h f.symm),fun j k=>⟨(a.raws j k).1.grown e (v8 h p (zL)),(a.raws j k).2⟩,by
  rcases a.ids with i | ⟨i,r,s,t,u⟩
  ·exact .inl i
  ·exact .inr ⟨i,r,s,t,aE u h q e⟩⟩
theorem Pck.grownR (a:Pck w base g l A c m d vi) {b n v xs} (f:w.ownsRow b 9 1 v n xs) (r: ∀k,vi.ownBlock=some k->v.ownBlock≠some k) (e:w.grownBy w' v.ownBlock):Pck w' base g l A c m d vi:=
 ⟨a.blk.grown e (own_ne f a.blk (by decide)).symm,a.gb,a.mb,a.parts.kept e (mS f a.parts (by decide)),a.map.grown e (a.map.own_ne f).symm,fun i j=>⟨(a.raws i j).1.grown e (K9 f (by decide) (zL)),(a.raws i j).2⟩,by
  rcases a.ids with h | ⟨h,o,p,q,s⟩
  ·exact .inl h
  ·refine .inr ⟨h,o,p,q,s.kept e ?_⟩;subst q;cases t:(it o l p).ownBlock with
   | none=>exact .inl rfl
   | some k=>exact .inr fun u=>r k t u.symm⟩
theorem Lp (i:Pck w base g l A c m 0 eL) (E:l.length<=4096):Calls Tryz.prog 153 #[.pointer (some ⟨g,0,none⟩)] w fun e w'=>
  (∃a b,e= .returned (.slice a l b)/\w'.ownsRow w 9 1 (.slice a l b) l (pc (aV (ptp l))))/\(∃u,Pck w' base g l A c m 1 u/\ ∀k,u.ownBlock=some k->w.heap.size<=k)/\w.grownBy w' (some g):=by
 obtain ⟨f,h⟩:=gX (w.alloc (.cells #[.pointer (some g)] 139));have v:Below w w f:=by rw [h];exact (bR _ _).alloc (lR _) _
 have F:Blk f w 139 [.pointer (some g)]:=by rw [h];exact o9 w _ _
 have j:=i.below v;have Q:=i.blk.lt;have x:=F.c 0;have R:f.heap.size=w+1:=by rw [h];simp
 have G:(aV (ptp l)).length=l:=by rw [py];simp [ptp]
 have y:=qI (FP g 2 205 _ ⟨w,0,none⟩ _ f j.blk rfl rfl (Gz j E ⟨w,0,none⟩ x (by show w≠g;omega) (by show w.heap.size<f;omega)));go_in;go_wp2_with fail;rw [<-h];refine y.mono ?_;rintro e n ⟨rfl,S,T,H,⟨a,b,rfl,I⟩,o,z,p,q⟩;have r:H.grownBy n (some g):=by rw [q];exact ae (ae (fa (gR _ _)) 2 _) 3 _
 have B:Blk n g 205 [.slice A l c,.map (some m),.int .u32 1,.int .i32 0,.int .u32 0,.slice a l b]:=by rw [q];exact (p.drew.set 2 _).set 3 _
 have s:=aq (aq o z) r;have U:=o.size;have t:=aE I p (by decide) r;have V:=(k7 (s.block w qO (fun e=>by injection e;omega))).trans x;have W:=i.gb;have J:=j.of_cells s B (.inr ⟨rfl,a,b,rfl,t.base qO⟩);have X:=B.c 5;have K:=qI (vL a l (aV (ptp l)) b n G (d8 t) qO);have C:=aq (ax v (some g)) s;have Y:=C.size;have L: ∀k,(it a l b).ownBlock=some k->w.heap.size<=k:=fun k M=>by
  have:=(cZ t k M).1;omega
 clear q p r o z y;go_wp2_with fail;refine K.mono ?_;rintro e Z ⟨N,O,rfl,P,D⟩;go_wp2_with fail;go_ret;exact ⟨⟨N,O,rfl,P.base qO⟩,⟨_,J.below D,L⟩,ou C D⟩
end
def fP (w:World) (base:Nat) (h:List PkA) (k:Nat) (v:Value):Prop:=
 ∀(d:Nat) (a:PkA),h[d]?=some a-> ∃e b,Pck w base a.g a.l a.A a.c a.m e b/\(∀f,b.ownBlock=some f->v.ownBlock≠some f)/\(k<=d->e=0/\b= .slice none 0 0)
def hY (a:List PkA):List BA:=a.flatMap fun b=>aV (ptp b.l)
def Lq (c:List PkA) (base f:Nat) (h j:Value) (w:World) (i:Value) (wr:World):Prop:=
 ∃(b:Nat) (zs:List BA) (a:Nat) (d:OA) (e:Nat),i= .int .i64 b/\b<=c/\a<=b*4096/\Hid (zs=a)/\Blk wr f 138 [h,j,.int .u32 0,.int .i32 1,.int .u32 0,.slice d a e]/\wr.ownsRow w 9 1 (.slice d a e) a (sc zs)/\Hid (zs=hY (c.take b))/\Hid (fP wr base c b (.slice d a e))/\TwI w wr (f::c.map (·.g))
theorem Lr {a:List PkA} {k} {x:PkA} (h:a[k]?=some x):hY (a.take (k+1))=hY (a.take k)++aV (ptp x.l):=by
 unfold hY;exact z191
theorem Ls {a:List PkA} (i:(a.map (·.g)).Nodup) {j k:Nat} {x y:PkA} (l:a[j]?=some x) (m:a[k]?=some y) (n:j≠k):x.g≠y.g:=by
 obtain ⟨o,c⟩:=c9.1 l;obtain ⟨p,d⟩:=c9.1 m;have e:=E8.1 i;have f:j<(a.map (·.g)).length:=by rw [g7];exact o
 have h:k<(a.map (·.g)).length:=by rw [g7];exact p
 rcases Nat.lt_or_gt_of_ne n with b | b
 ·have:=e j k f h b;rw [Nt,Nt,c,d] at this;exact this
 have:=e k j h f b;rw [Nt,Nt,c,d] at this;exact this.symm
theorem Lt (xs):cO (eW (hY xs))=cX (xs.map PkA.pk):=by
 rw [iK];unfold cX;congr 1;refine qg fun b=> ?_;unfold lsS hY;rw [e9,I7];constructor
 ·rintro ⟨h,c,rfl⟩;obtain ⟨a,d,c⟩:=I7.1 c;refine ⟨a.pk,e9.2 ⟨a,d,rfl⟩,?_⟩;obtain ⟨i,e,rfl⟩:=e9.1 c;rw [fM];exact (ke _ _).1 e
 rintro ⟨j,f,g⟩;obtain ⟨a,d,rfl⟩:=e9.1 f;exact ⟨idS b,I7.2 ⟨a,d,e9.2 ⟨b,(ke _ _).2 g,rfl⟩⟩,fM b⟩
section
variable {w w':World} {base gp:Nat} {xs:List PkA} {An Aa:OA} {cn ca:Nat}
def Lu (xs:List PkA) (base gp:Nat) (e f:Value) (h:List Value) (d a:World):Prop:=
 ∃(zs:List BA) (b:OA) (c:Nat),h=[e,f,.int .u32 0,.int .i32 1,.int .u32 0,.slice b zs c]/\a.ownsRow d 9 1 (.slice b zs c) zs (sc zs)/\Hid (zs=cX (xs.map PkA.pk))/\fP a base xs xs (.slice b zs c)/\TwI d a (gp::xs.map (·.g))
theorem KX (h:Pks w base gp xs An cn Aa ca 0 eL) (n0: ∀x∈xs,Pck w base x.g x.l x.A x.c x.m 0 eL) (o0:cQ (xs.map PkA.pk)) (i1:xs.length<=kae) (pl) (Z:Blk w pl 98 [.pointer (some gp)]):
  pm 152 ⟨pl,0,none⟩ gp 2 138 [.slice An xs cn,.slice Aa xs ca,.int .u32 0,.int .i32 0,.int .u32 0,.slice none 0 0] (Lu xs base gp (.slice An xs cn) (.slice Aa xs ca)) w:=by
 intro E J V H0;have J:Blk E gp 138 [.slice An xs cn,.slice Aa xs ca,.int .u32 0,.int .i32 1,.int .u32 0,eL]:=J;have I0:=aE h.all h.blk (by decide) V;have p0:Blk E pl 98 [.pointer (some gp)]:=Z.grown V (bv Z h.blk (by decide));have q0:=h.nodup;have r0:fP E base xs 0 (.slice none 0 0):=fun j x u=>by
  have J0:=g8 u;have s0:=n0 x J0;refine ⟨0,.slice none 0 0,s0.grownB h.blk (fun e=> ?_) (by decide) (by decide) (by decide) V,fun f e=>(by cases e),fun _=>⟨rfl,rfl⟩⟩;have h1:=s0.blk;have h2:=h.blk;rw [e] at h1;exact z177
 have t0:=qI r0;have K0:=qI o0;have L0:=qI q0;clear h n0 r0 o0 q0 V Z;obtain ⟨u0,M0⟩: ∃u0:Addr,u0=⟨pl,0,none⟩:=⟨_,rfl⟩;have N0:=p0.c 0;have O0:=J.c 1;clear M0 H0;go_in;go_wp2_with fail;go_loopw [8] (fun i wr=>Lq xs base gp (.slice An xs cn) (.slice Aa xs ca) E i wr) (fun i _=>xs-(intOf i).toNat)
 case atStart=>exact ⟨0,[],0,none,0,rfl,zL,zL,rfl,J,j9 _ _ _ _,rfl,t0,TwI.below (bR _ _)⟩
 case round=>
  clear J t0 N0 O0;obtain ⟨a,B,b,k,o,rfl,j1,k1,a0,K,z,W,L,M⟩:=hrel;have l1:=qiJ (a+1);have N:=M.blk p0 (by decide) (by decide);have P0:=N.c 0;have Q0:=K.c 5;have m1:=M.size;by_cases R0:a<xs
  ·have S0:=dtX ((a:Int)<xs);have n1:=ltI a xs.length;have o1:=zeI a;obtain ⟨x,u⟩: ∃x,xs[a]?=some x:=⟨xs[a],gE R0⟩;obtain ⟨T0,U0,rfl,p1,v0⟩:=(d8 (M.own I0 (by decide) (by decide))).at_ qO;have q1:wr.cell? ⟨T0,U0+a,none⟩=some (.pointer (some ⟨x.g,0,none⟩)):=v0 _ _ (by rw [pkc,m7,u];rfl);obtain ⟨r1,s1,w0,_,x0⟩:=L.out a x u;obtain ⟨rfl,rfl⟩:=x0 (lR _);have V0:x.l.length<=4096:=by
    have:=(K0.out x.pk (e9.2 ⟨x,g8 u,rfl⟩)).1;simpa [PkA.pk,ptp] using this
   have W0:x.g∈gp::xs.map (·.g):=k8 _ (e9.2 ⟨x,g8 u,rfl⟩);have y0:=qI (Lp (w0.below (bR _ _).drew) V0);have X:=qI u;clear v0 u x0;go_wp2_with fail;go_upto_region 3 with (fail);refine pF (S:=fun O=>O.cell? pl=some (.pointer (some gp))/\O.cell? ⟨gp,5,none⟩=some (.slice k b o)) 10 _ qkR rfl qkR rfl rfl ⟨P0,Q0⟩ (fun Y=> ?_);simp only [List.setIfInBounds_toArray,List.set_cons_zero,List.set_cons_succ,bU,List.getElem_toArray,List.getElem_cons_succ,List.getElem_cons_zero];refine tl 0 (.pointer (some gp)) ?_;refine tl 1 (.pointer (some gp)) ?_;refine tl 2 (.pointer (some gp)) ?_;refine tl 3 (.pointer (some ⟨gp,5,none⟩)) ?_;refine tl 4 (.slice k b o) ?_;refine tl 5 (.pointer (some ⟨x.g,0,none⟩)) ?_;refine rh 6 fun z0 P=> ?_;go_simp;refine y0.mono ?_;rintro e q ⟨⟨X0,Y0,rfl,F⟩,⟨Z0,A0,B0⟩,r⟩;have Q:Blk wr.drew x.g 205 [.slice x.A x.l x.c,.map (some x.m),.int .u32 0,.int .i32 0,.int .u32 0,eL]:=w0.blk.drew;have a1:=bv K.drew Q (by decide);have C:=K.drew.grown r a1;have D:=N.drew.grown r (bv N.drew Q (by decide));have b0:=D.c 0;have c0:=C.c 5;have R:q.ownsRow E 9 1 (.slice k b o) b (sc B):=aE (w:=wr.drew) z Q (by decide) r;have d0:=M.step ((TwI.below ((bR _ _).drew)).step (TwI.grown Q W0 (.inl rfl) r));have t1:wr.heap.size<=q:=r.size;have T:Hid (fP q base xs (a+1) (.slice k b o)):=fun j y hy=>by
    by_cases C0:j=a
    ·subst C0;have e:=hy.symm.trans X.out;injection e with e;subst e;refine ⟨1,Z0,A0,fun f n e=> ?_,fun h=>absurd h qO⟩;have h1:=B0 f n;have h2:=(cZ z f e).2;have h3:wr.drew.heap.size=wr:=rfl;omega
    obtain ⟨d,v,h1,h2,h3⟩:=L.out j y hy;exact ⟨d,v,(h1.below (bR _ _).drew).grownB Q (Ls L0.out hy X.out C0) (by decide) (by decide) (by decide) r,h2,fun h=>h3 qO⟩
   clear A0 B0 L y0;refine hO P (⟨b0,c0⟩) (fun Y=> ?_);refine rh 7 fun z0 P=> ?_;refine Lo rfl (.tmp 16) (.tmp 18) 38 9 _ 16 rfl q9 gI rfl E.heap.size (.slice k b o) b (sc B) rfl R q X0 x.l Y0 (pc (aV (ptp x.l))) rfl (d8 F) (kJ _) (by unfold maxLen;omega) qO qO ?_;intro G H s e0 u1 t b1 _ _;have hB6:=C.grown t (own_ne R C (by decide)).symm;have f0:=D.grown t (own_ne R D (by decide)).symm;have g0:=f0.c 0;have h0:=hB6.c 5;have i0:=d0.row t (fun f n=>(cZ R f n).1);have hat6:Hid (fP s base xs (a+1) (.slice G (b+x.l) H)):=fun j y hy=>by
    obtain ⟨d,v,h1,h2,h3⟩:=T.out j y hy;refine ⟨d,v,h1.grownR R h2 t,fun f n e=> ?_,h3⟩;rcases b1.out with h4 | h4
    ·exact h2 f n (h4.symm.trans e)
    rw [h4] at e;injection e with e;have:f<q:=by
     rcases h1.ids with ⟨_,j0⟩ | ⟨_,v1,w1,j0,c1⟩
     ·rw [j0] at n;cases n
     rw [j0] at n;exact (cZ c1 f n).2
    omega
   refine hO P (⟨g0,h0⟩) (fun Y=> ?_);refine tl 8 (.pointer (some gp)) ?_;refine tl 9 (.pointer (some ⟨gp,5,none⟩)) ?_;refine tl 10 undef ?_;refine dn ?_;have d1:=hB6.free 5;simp only [dt];go_simp;have k0:=hB6.set 5 (.slice G (b+x.l) H);have hg7:s.grownBy (s.setCell ⟨gp,5,none⟩ (.slice G (b+x.l) H)) (some gp):=ae (gR _ _) 5 _;have U:=aE e0 hB6 (by decide) hg7;have l0:=i0.step (TwI.grown hB6 (j8 ..) (.inr rfl) hg7);have m0:Hid (fP (s.setCell ⟨gp,5,none⟩ (.slice G (b+x.l) H)) base xs (a+1) (.slice G (b+x.l) H)):=fun j y hy=>by
    exact z254
   have e1:Hid (B++aV (ptp x.l)=hY (xs.take (a+1))):=by
    unfold Hid;rw [Lr X.out,<-W]
   have f1:Hid ((B++aV (ptp x.l)).length=b+x.l):=by
    unfold Hid;rw [b7,a0,py];simp [ptp]
   have D0:sc (B++aV (ptp x.l))=sc B++pc (aV (ptp x.l)):=by simp [sc,pc]
   rw [<-D0] at U;clear hat6 T W a0 X D0;go_wp2_with fail;exact ⟨⟨a+1,_,b+x.l,G,H,by go_num,qO,qO,f1,k0,U,e1,m0,l0⟩,by simp [intOf];omega⟩
  have S0:=dfX ((a:Int)<xs);obtain rfl:a=xs:=qO;have E0:=qI (yg z qO);go_wp2_with fail;refine E0.mono ?_;rintro e q ⟨rfl,F,r⟩;have C:=K.grown r (own_ne z K (by decide)).symm;have D:=N.grown r (own_ne z N (by decide)).symm;have b0:=D.c 0;have c0:=C.c 5;have d0:=M.row r (fun f n=>(cZ z f n).1);have T:Hid (fP q base xs xs (.slice k b o)):=fun j y hy=>by
   obtain ⟨d,v,h1,h2,h3⟩:=L.out j y hy;exact ⟨d,v,h1.grownR z h2 r,h2,h3⟩
  have F0:=qI (yh (w:=q.drew) F qO);clear E0 L;go_upto_region 6 with (fail);refine pF (S:=fun O=>O.cell? pl=some (.pointer (some gp))/\O.cell? ⟨gp,5,none⟩=some (.slice k b o)) 8 _ qkR rfl qkR rfl rfl ⟨b0,c0⟩ (fun Y=> ?_);simp only [List.setIfInBounds_toArray,List.set_cons_zero,List.set_cons_succ,bU,List.getElem_toArray,List.getElem_cons_succ,List.getElem_cons_zero];refine tl 0 (.pointer (some gp)) ?_;refine tl 1 (.pointer (some gp)) ?_;refine tl 2 (.pointer (some gp)) ?_;refine tl 3 (.pointer (some ⟨gp,5,none⟩)) ?_;refine tl 4 (.slice k b o) ?_;refine rh 5 fun z0 P=> ?_;go_simp;refine F0.mono ?_;rintro e s ⟨I,rfl,G0,x1,e0,t⟩;have hB6:=(C.drew).grown t (own_ne (w:=q.drew) F C.drew (by decide)).symm;have f0:=(D.drew).grown t (own_ne (w:=q.drew) F D.drew (by decide)).symm;have g0:=f0.c 0;have h0:=hB6.c 5;have i0:=(d0.step (TwI.below ((bR _ _).drew))).row t (fun f n=>(cZ z f n).1);have hat6:Hid (fP s base xs xs (.slice k I o)):=fun j y hy=>by
   obtain ⟨d,v,h1,h2,h3⟩:=T.out j y hy;refine ⟨d,v,(h1.below (bR _ _).drew).grownR (w:=q.drew) F h2 t,fun f n e=>h2 f n ?_,h3⟩;rw [<-e];cases k<;>rfl
  clear T F0;refine hO P (⟨g0,h0⟩) (fun Y=> ?_);refine tl 6 (.pointer (some gp)) ?_;refine tl 7 (.pointer (some ⟨gp,5,none⟩)) ?_;refine tl 8 undef ?_;refine dn ?_;have d1:=hB6.free 5;simp only [dt];go_simp;have k0:=hB6.set 5 (.slice k I o);have hg7:s.grownBy (s.setCell ⟨gp,5,none⟩ (.slice k I o)) (some gp):=ae (gR _ _) 5 _;have U:=aE e0 hB6 (by decide) hg7;have l0:=i0.step (TwI.grown hB6 (j8 ..) (.inr rfl) hg7);have m0:fP (s.setCell ⟨gp,5,none⟩ (.slice k I o)) base xs xs (.slice k I o):=fun j y hy=>by
   exact z254
  have g1:cO (eW B)=cX (xs.map PkA.pk):=by rw [W,i9 (lR _)];exact Lt xs
  rw [g1] at U G0;obtain rfl:I=(cX (xs.map PkA.pk)).length:=G0.out;clear hat6 W a0;go_wp2_with fail;go_end0;exact ⟨rfl,_,k0,rfl,rfl,_,k,o,rfl,U,rfl,m0,l0⟩
def KW (w:World) (base gp:Nat) (xs:List PkA) (An:OA) (cn:Nat) (Aa:OA) (ca:Nat) (c:Ending) (w':World):Prop:=
 ∃(zs:List BA) (a:OA) (b:Nat),c= .returned (.slice a zs b)/\Hid (zs=cX (xs.map PkA.pk))/\w'.ownsRow base 9 1 (.slice a zs b) zs (sc zs)/\Pks w' base gp xs An cn Aa ca 1 (.slice a zs b)/\TwI w w' (gp::xs.map (·.g))
end
def idsS (D:Dk) (P:List Pk):List BA:=cO (eW (bE D++cX P))
section
variable {w w':World} {base gp gs g m:Nat} {xs:List PkA} {An Aa:OA} {cn ca:Nat} {dn:Int} {vn:Value} {D:Dk}
theorem KV (u:Pks w base gp xs An cn Aa ca dn vn) (L:cQ (xs.map PkA.pk)) (M:xs.length<=kae):Calls Tryz.prog 82 #[.pointer (some ⟨gp,0,none⟩)] w (KW w base gp xs An cn Aa ca):=by
  obtain ⟨d,j⟩:=gX (w.alloc (.cells #[.pointer (some gp)] 98));have p:Below w w d:=by rw [j];exact (bR _ _).alloc (lR _) _
  have v:Blk d w 98 [.pointer (some gp)]:=by rw [j];exact o9 w _ _
  have a:=u.below p;have c0:=v.c 0;rcases u.ids with ⟨rfl,rfl⟩ | ⟨rfl,e,f,h,rfl,N,q⟩
  · have B: ∀b∈xs,Pck d base b.g b.l b.A b.c b.m 0 (.slice none 0 0):=fun b x=>by
      obtain ⟨C,E,r,O⟩:=a.packs b x;obtain ⟨rfl,rfl⟩:=O rfl;exact r
    have s:=qI (FSx 152 (enters_of Tryz.func152 qkR rfl) gp 2 138 _ ⟨w,0,none⟩ _ d a.blk rfl rfl (KX a B L M w v));clear B;go_in;go_wp2_with fail;rw [<-j];refine s.mono ?_;rintro k n ⟨rfl,d0,F,G,⟨e,f,h,rfl,P,q,H,I⟩,J,e0,i,y⟩;have t:G.grownBy n (some gp):=by rw [y];exact ae (ae (fa (gR _ _)) 2 _) 3 _
    have z:Blk n gp 138 [.slice An xs cn, .slice Aa xs ca, .int .u32 1, .int .i32 0, .int .u32 0, .slice f e h]:=by rw [y];exact (i.drew.set 2 _).set 3 _
    have Q:=a.blk;have R:TwI d F (gp::xs.map (·.g)):=TwI.grown Q (j8 ..) (.inr rfl) J;have S:TwI G n (gp::xs.map (·.g)):=TwI.grown i (j8 ..) (.inr rfl) t;have o:=(R.step I).step S;have f0:=a.le;have g0:=o.size;have K:=(aE P i (by decide) t).base (show base<=F by omega);have T:Pks n base gp xs An cn Aa ca 1 (.slice f e h):=⟨z,o.own a.names (by decide) (by decide),o.own a.all (by decide) (by decide),fun b x=>by
      obtain ⟨U,V⟩:=Nv x;obtain ⟨C,E,r,_⟩:=H U b V;exact ⟨C,E,r.grownB i (fun k=>bv r.blk i (by decide) (by rw [k])) (by decide) (by decide) (by decide) t,fun k=>by cases k⟩,u.nodup, .inr ⟨rfl,e,f,h,rfl,K,q⟩,qO⟩
    have W:=o.blk v (by decide) (by decide);have h0:=W.c 0;have X:=z.c 5;clear y i H I s J t z;go_wp2_with fail;go_ret;exact ⟨e,f,h,rfl,q,K,T,(TwI.below p).step o⟩
  have Y:d.cell? ⟨gp,2,none⟩=some (.int .u32 1):=by rw [a.blk.cell];rfl
  have X:d.cell? ⟨gp,5,none⟩=some (.slice f e h):=by rw [a.blk.cell];rfl
  have s:=qI (fun Z=>FQ ⟨gp,2,none⟩ Z d Y);have a0:=az N p;go_in;go_wp2_with fail;rw [<-j];clear j;refine (s.out _).mono ?_;rintro k n ⟨rfl,b0⟩;obtain rfl:=b0.symm;go_wp2_with fail;go_ret;exact ⟨e,f,h,rfl,q,a0,a,TwI.below p⟩
def KY (w:World) (gs g m base gp:Nat) (D:Dk) (xs:List PkA) (c:Ending) (w':World):Prop:=
  ∃(ys:List BA) (a:OA) (b:Nat),c= .returned (.slice a ys b)/\Hid (ys=idsS D (xs.map PkA.pk))/\w'.ownsRow w 9 1 (.slice a ys b) ys (sc ys)/\Sto w' gs g m base gp D xs/\TwI w w' (gp::xs.map (·.g))
theorem Sto.twI (a:Sto w gs g m base gp D xs) (b:TwI w w' (gp::xs.map (·.g))) (c: ∃An cn Aa ca dn vn,Pks w' base gp xs An cn Aa ca dn vn):Sto w' gs g m base gp D xs:=
  ⟨b.blk a.st (by decide) (by decide),b.dsk a.dk,a.lt,c⟩
theorem kt (d:Sto w gs g m base gp D xs) (E:OkW D) (W:cQ (xs.map PkA.pk)) (X:xs.length<=kae) (l:(cX (xs.map PkA.pk)).length<=4398046511104):Calls Tryz.prog 21 #[.pointer (some ⟨gs,0,none⟩)] w (KY w gs g m base gp D xs):=by
  have F:=qI (hW d);have Y:=d.dk.drew;have Z:=lT (kf D) E.len;have G:=d.st.drew;have o0:w.cell? gs=some (.pointer (some g)):=by rw [d.st.cell];rfl
  have p0:w.cell? ⟨gs,1,none⟩=some (.pointer (some gp)):=by rw [d.st.cell];rfl
  have H:=qI (tB Y E);obtain ⟨An,cn,Aa,ca,dn,vn,r⟩:=d.pks;have r:=r.below (bR _ _).drew;have a0:=qI d;clear d;go_in;go_wp2_with fail;refine F.mono ?_;rintro n q0 ⟨rfl,b0⟩;obtain rfl:=b0.symm;clear F;go_wp2_with fail;go_region_held3 (fun w'=>w'.cell? gs=some (.pointer (some g))/\w'.cell? ⟨gs,1,none⟩=some (.pointer (some gp))) (first | go_keep | assumption)
    (first
      | (go_at_call 46;(with_reducible refine H.out.mono ?_);rintro n r0 ⟨a,f,h,s,rfl,c0,t⟩
         have u:=G.below t G.lt;have s0:=u.c 0;have t0:=u.c 1;have I:=qI (KV (r.below t) W X);have u0:a.length<=3518437208880:=by rw [s];exact Z)
      | (go_at_call 82;(with_reducible refine I.out.mono ?_);rintro n i ⟨b,j,k,rfl,v,d0,e0,x⟩
         have o:=x.blk u (by decide) (by decide);have v0:=o.c 0;have w0:=o.c 1;have e:=bAl i (.cells #[.slice f a h, .slice j b k] 38);have p:=o.below e o.lt;have x0:=p.c 0;have y0:=p.c 1;have z0:b.length<=4398046511104:=by rw [v];exact l
         have J:Rd (i.alloc (.cells #[.slice f a h, .slice j b k] 38)) (i.alloc (.cells #[.slice f a h, .slice j b k] 38)).heap.size 1 (some ⟨i,0,none⟩) 2 (ie [(a,f,h),(b,j,k)]):=(Rd.new2v i 38 (.slice f a h) (.slice j b k)).more (by simp);have K:=qI (AA (some ⟨i.heap.size,0,none⟩) [(a,f,h),(b,j,k)] 2 2 rfl _ J (by simp [dw];omega) (by decide) (qI (fun A0 y=>by
           rcases i8.1 y with rfl | y
           · exact ((d8 (x.own c0 (by decide) (by decide))).below e).more e.size
           · obtain rfl:=i7.1 y
             exact ((d8 d0).below e).more e.size))))
      | (go_at_call 81;(with_reducible refine K.out.mono ?_);rintro n B0 ⟨z,f0,g0,L,rfl,A,q⟩
         have M:=p.below q p.lt;have C0:=M.c 0;have D0:=M.c 1))
  obtain ⟨E0,N⟩:=gX (i.alloc (.cells #[.slice f a h, .slice j b k] 38));rw [<-N] at e A q;have O:=((TwI.below ((bR _ _).drew)).step (TwI.below t)).step (x.step (TwI.below e));have h0:=e0.below e;have B:z=a++b:=by rw [L];simp [dw]
  have P:z.length<=8796093022208:=by rw [B,b7];omega
  have i0:=qI (yg A P);have j0:Hid (cO (eW z)=idsS D (xs.map PkA.pk)):=by
    unfold Hid;rw [B,s,v];rfl
  clear B L K J s v I H N;go_wp2_with fail;refine i0.mono ?_;rintro n F0 ⟨rfl,Q,k0⟩;have l0:=qI (yh Q P);go_wp2_with fail;refine l0.mono ?_;rintro n G0 ⟨m0,rfl,R,H0,S,n0⟩;have T:=q.grown k0 q.size (fun C l=>(cZ A C l).1);have U:=T.grown n0 T.size (fun C l=>(cZ Q C l).1);have V:=O.step (TwI.below U);rw [j0] at R S;obtain rfl:m0=(idsS D (xs.map PkA.pk)).length:=R.out;go_wp2_with fail;go_ret;exact ⟨_,f0,g0,rfl,rfl,S.base O.size,Sto.twI a0.out V ⟨An,cn,Aa,ca,1,_,h0.below U⟩,V⟩
end
theorem Jd (l x):(cC l x).Perm (x::l):=by
 unfold cC;have b:=Ox (a:=x) (l₁:=l.take (cD l x)) (l₂:=l.drop (cD l x));rwa [r8] at b
theorem Je {l} (g:(lsS l).Pairwise fun a b=>a<=b) (x):(lsS (cC l x)).Pairwise fun a b=>a<=b:=by
 induction l with
 | nil=>exact w8 ..
 | cons n r k=>
 obtain ⟨h,m⟩:=s8.1 g;rw [xp];split
 ·rename_i e;refine s8.2 ⟨fun i c=> ?_,k m⟩;obtain ⟨b,f,rfl⟩:=e9.1 c;rcases (mH r x b).1 f with d | f
  ·rw [d];exact List.le_of_lt (of_decide_eq_true e)
  exact h _ (e9.2 ⟨b,f,rfl⟩)
 rename_i e;have j:=PB.1 fun d=>e (dT d);refine s8.2 ⟨fun i c=> ?_,g⟩;rcases i8.1 c with d | c
 ·rw [d];exact j
 exact Pa j (h i c)
theorem Jf (l):(du l).Perm l/\(lsS (du l)).Pairwise fun a b=>a<=b:=by
 have d: ∀(l acc:List BA),((lsS acc).Pairwise fun a b=>a<=b)->(l.foldl cC acc).Perm (acc++l)/\(lsS (l.foldl cC acc)).Pairwise fun a b=>a<=b:=by
  intro l;induction l with
  | nil=>intro acc c;exact ⟨by simp,c⟩
  | cons x e f=>
  intro acc c;obtain ⟨a,b⟩:=f (cC acc x) (Je c x);refine ⟨a.trans ?_,b⟩;exact ((Jd acc x).append_right e).trans Ox.symm
 exact d l [] Ny
theorem Jg (l):du l=eW l:=by
 obtain ⟨a,b⟩:=Jf l;unfold eW;have c:df (lsS (du l))=lsS (du l):=by
  unfold df;exact List.mergeSort_of_pairwise (b.imp fun d=>dT d)
 have e:df (lsS (du l))=df (lsS l):=vK (List.Perm.map (fun f:BA=>f.data.toList) a);rw [<-e,c,qf]
theorem Jh (D P):cO (du (bE D++P.flatMap fun p=>aV p.2))=idsS D P:=by
 rw [Jg,iK];unfold idsS;rw [iK];congr 1;refine qg fun f=> ?_;unfold lsS;rw [p8,p8,l7,l7];refine or_congr Iff.rfl ?_;unfold cX;constructor
 ·intro c;obtain ⟨e,a,rfl⟩:=e9.1 c;obtain ⟨p,d,a⟩:=I7.1 a;obtain ⟨b,ha,rfl⟩:=e9.1 a;refine e9.2 ⟨idS b,e9.2 ⟨b,(gv _ _).2 (I7.2 ⟨p,d,(ke _ _).1 ha⟩),rfl⟩,rfl⟩
 intro c;obtain ⟨e,a,rfl⟩:=e9.1 c;obtain ⟨b,ha,rfl⟩:=e9.1 a;obtain ⟨p,d,ha⟩:=I7.1 ((gv _ _).1 ha);exact e9.2 ⟨idS b,I7.2 ⟨p,d,e9.2 ⟨b,(ke _ _).2 ha,rfl⟩⟩,rfl⟩
section
variable {w w':World} {gs gr base:Nat} {D:Dk} {P:List Pk} {A A' A2:OA} {c c' c2:Nat} {xs ys zs:List BA}
theorem TwoS.apps (d:TwoS w base A c xs A2 c2 ys) (h:w'.ownsRow base 9 1 (.slice A' (xs.length+zs) c') (xs.length+zs) (sc xs++sc zs)) (i:w.grownBy w' (it A xs c).ownBlock)
  (j:(it A' (xs.length+zs) c').ownBlock=(it A xs c).ownBlock\/(it A' (xs.length+zs) c').ownBlock=some w.heap.size):TwoS w' base A' c' (xs++zs) A2 c2 ys:=by
 have f:(xs++zs).length=xs+zs:=by simp
 refine ⟨by rw [f,show sc (xs++zs)=sc xs++sc zs by simp [sc]];exact h,gG d.two fun b a=>i.block b (cZ d.two b a).2 fun k=>d.apart b k.symm a,fun b a g=> ?_⟩;rw [f] at a;rcases j with e | e
 ·exact d.apart b (e.symm.trans a) g
 rw [e] at a;injection a with a;have:=(cZ d.two b g).2;omega
def Ji (D:Dk) (P:List Pk) (A2:OA) (c2:Nat) (ns:List BA) (w:World) (v i:Value) (wr:World):Prop:=
 ∃(a b:Nat) (ys:List BA) (A:OA) (c:Nat),v= .slice A b c/\i= .int .i64 a/\a<=ns/\Hid (ys=bE D++(P.take a).flatMap fun d=>aV d.2)/\Hid (ys=b)/\b<=137438953472+4096*a/\Hid (TwoS wr w A c ys A2 c2 ns)/\Below w w wr
def Jj (zs:List BA) (w:World) (v i:Value) (wr:World):Prop:=
 ∃(b a:Nat) (ys:List BA) (A:OA) (c:Nat),v= .slice A a c/\i= .int .i64 b/\b<=zs/\Hid (ys=cO (zs.take b))/\Hid (ys=a)/\a<=b/\wr.ownsRow w 9 1 (.slice A a c) a (sc ys)/\Below w w wr
theorem Jk (l y):cO (l++[y])=if l.getLast?=some y then cO l else cO l++[y]:=by
 unfold cO;have e:lsS (l++[y])=lsS l++[y.data.toList]:=by simp [lsS]
 have b:(lsS l).getLast?=some y.data.toList↔l.getLast?=some y:=by
  unfold lsS;rw [List.getLast?_map];constructor
  ·intro a;cases d:l.getLast? with
   | none=>rw [d] at a;cases a
   | some g=>
   rw [d] at a;injection a with a;rw [fD a]
  intro a;rw [a];rfl
 rw [e,qh];by_cases a:l.getLast?=some y
 ·rw [if_pos a,if_pos (b.2 a)]
 rw [if_neg a,if_neg (fun f=>a (b.1 f)),p8];rfl
theorem xq (J:RSto w gs gr D) (v0:OkG kac kab D) (Z:ai geS D.l=some P) (T1:P.length<=kae) (U1:D.l.length<=137438953472):
  Calls Tryz.prog 30 #[.pointer (some gs)] w fun d w'=> ∃(ys:List BA) (A:OA) (c:Nat),Hid (ys=idsS D P)/\d= .returned (.slice A ys.length c)/\w'.ownsRow w 9 1 (.slice A ys.length c) ys.length (sc ys)/\Below w w w':=by
 have w0:OkW D:=v0.mono (lR _) (by decide);have m1:=J.cell;have x0:=qI (tN J.dk w0);have y0:=kf D;go_in;go_wp2_with fail;refine x0.mono ?_;rintro d V1 ⟨xs,z0,A0,a0,rfl,b0,K⟩;have B0:=J.below K;have n1:=K.size;have C0:=qI (mA B0 w0);have o1:xs.length<=D.l:=by rw [a0];exact y0
 clear x0 m1 y0;go_wp2_with fail;refine C0.mono ?_;rintro d p1 ⟨f,A2,c2,D0,rfl,c0,d0⟩;have E0:=K.next d0;have F0:Hid (f=P.map Prod.fst):=by unfold Hid;rw [D0];exact mB Z
 have G0:f.length=P:=by rw [F0,g7]
 have H0:TwoS p1 w z0 A0 xs A2 c2 f:=⟨az b0 d0,c0.base n1,fun k e0 q1=>by
  have W1:=(cZ b0 k e0).2;have r1:=(cZ c0 k q1).1;omega⟩
 have I0:=qI G0;have X1:f.length<=kae:=qO;clear D0 C0 G0 b0 c0;go_wp2_with fail;go_loopw [3,5] (fun t i wr=>Ji D P A2 c2 f w t i wr) (fun _ i _=>f-(intOf i).toNat)
 case atStart=>exact ⟨0,xs.length,xs,z0,A0,rfl,rfl,zL,qI (by rw [a0];simp),rfl,qO,H0,E0⟩
 case round=>
  clear H0 E0 K d0 a0 o1 B0;obtain ⟨k,g,ys,A,c,rfl,rfl,e0,f0,h,J0,u,g0⟩:=hrel;have s1:=qiJ (k+1);by_cases K0:k<f
  ·have t1:=ltI k f.length;have u1:=zeI k;have v1:k<P:=by have:=I0.out;omega
   obtain ⟨a,L⟩: ∃a,P[k]?=some a:=⟨P[k],gE v1⟩;obtain ⟨r1,L0,M0,h0,w1,Y1⟩:=xh v0 Z L;have v:=J.below g0;have N0:=v.cell;obtain ⟨x,y,rfl,i0,j⟩:=(d8 u.out.two).at_ qO;have q:wr.cell? ⟨x,y+k,none⟩=some (.string a.1):=j _ _ (by rw [sc,F0,w9,m7,L];rfl);have j0:=jA v.dk.drew a.1 (by unfold maxLen;omega) qO (fun Z1 M=>by rw [M0] at M;injection M with M;rw [<-M];omega);rw [L0] at j0;have O0:=qI j0;have N:Hid ((P.take (k+1)).flatMap (fun a=>aV a.2)=(P.take k).flatMap (fun a=>aV a.2)++aV a.2):=by
    unfold Hid;rw [t7,L,I9];simp
   have P0:=mI h0;have Q0:=qI h0;have x1:=qI P0.2.2;clear j L L0 M0 h0 j0 P0 Z;go_wp2_with fail;go_region_held3 (fun R0=>R0.cell? gs=some (.pointer (some gr))/\R0.cell? ⟨x,y+k,none⟩=some (.string a.1)) (first | exact ⟨N0,q⟩ | exact ⟨S0,O⟩ | go_keep)
    ((go_at_call 90;(with_reducible refine O0.out.mono ?_);rintro d z ⟨T0,U0,V0,W0,rfl,B,n⟩;have Q:Below wr wr z:=⟨n.os,n.tape,n.output,n.size,n.block⟩;have S0:=(v.below Q).cell;have O:=((Q.cell (p:=⟨x,y+k,none⟩) i0).trans q)))
   have k0:=dz B;have l0:=qI (pX U0 T0 V0 z (d8 B) k0.1 k0.2 (by rw [W0];exact w1));rw [show ba geS T0=some a.2 by rw [W0];exact Q0.out] at l0;have R:=g0.next Q;have X0:=qI (u.out.below Q);clear Q0 O0 N0 q S0 O B k0 u;go_wp2_with fail;refine l0.mono ?_;rintro d y1 ⟨o,l,C,E,Y0,rfl,Z0,z1⟩;have A1:=R.next o;have a1:=qI (X0.out.below o);have m0:=qI (IS C l E y1 (d8 Z0.1) z1 (by rw [Y0];exact x1.out));have b1:=py (ptp l);have B1:(ptp l).length=l:=by simp [ptp]
   obtain ⟨zs,p⟩:=gX (aV (ptp l));rw [<-p] at m0 b1;have C1:zs.length<=4096:=qO;have D1:Hid (zs=aV a.2):=by unfold Hid;rw [p,Y0]
   clear l0 Z0 X0 b1 B1 p;go_wp2_with fail;refine m0.mono ?_;rintro d a2 ⟨E1,F1,rfl,S,r⟩;have c1:=A1.next r;have b2:=c1.size;have d1:=qI (a1.out.below r);have F:=d1.out.one;rw [h] at F;clear m0 a1;go_wp2_with (at_builtin;refine kB rfl _ _ 38 9 (.string ⟨#[]⟩) 16 rfl q9 ib rfl w.heap.size (.slice A g c) g (sc ys) rfl F _ E1 zs.length F1 (pc zs) rfl (d8 S) (kJ zs) (by unfold maxLen;omega) (by omega) (by omega) ?_;intro T U G1 n0 o0 e1 H1 _ _);have I1:=qI (d1.out.apps (zs:=zs) (A':=T) (c':=U) (by rw [h];exact n0) (by rw [h];exact e1) (by rw [h];exact H1.out));go_wp2_with fail;exact ⟨⟨k+1,g+zs,ys++zs,T,U,rfl,by go_num,qO,qI (by rw [N,f0,D1,g9]),qI (by rw [b7,h]),qO,I1,c1.trans o0⟩,by simp [intOf];omega⟩
  have f1:P.take k=P:=i9 (by have:=I0.out;omega);have g1:ys=bE D++P.flatMap fun a=>aV a.2:=by rw [f0,f1]
  have F:=u.out.one;have p0:=qI (wU A ys c wr (d8 F) (by have:=h.out;omega));rw [h] at p0;have h1:=qI g1;clear f1 g1 F;go_wp2_with fail;refine p0.mono ?_;rintro d z ⟨zs,U0,V0,rfl,p,B,n⟩;have R:=g0.next n;have i1:=R.size;have C1:zs<=137438953472+4096*k:=by rw [p,Jl,h];exact J0
  have J1:Hid (cO zs=idsS D P):=by unfold Hid;rw [p,h1];exact Jh D P
  clear p0 h1 p u f0;go_wp2_with fail;go_loopw [10,11] (fun t i wr=>Jj zs z t i wr) (fun _ i _=>zs-(intOf i).toNat)
  case atStart=>exact ⟨0,0,[],none,0,rfl,rfl,zL,rfl,rfl,lR _,j9 _ _ _ _,bR _ _⟩
  case round=>
   obtain ⟨k,g,G,C,E,rfl,rfl,e0,q0,r0,J0,j1,o⟩:=hrel;have s1:=qiJ (k+1);by_cases K0:k<zs
   ·have t1:=ltI k zs.length;have u1:=zeI k;obtain ⟨b,H⟩: ∃b,zs[k]?=some b:=⟨zs[k],gE K0⟩;obtain ⟨x,y,rfl,i0,j⟩:=((d8 B).below o).at_ qO;have q:=j _ _ (by rw [pc,m7,H];rfl);have s0:=qI (Jk (zs.take k) b);have N:zs.take (k+1)=zs.take k++[b]:=by rw [t7,H];rfl
    rw [<-N] at s0;have K1:=r9 i0 o.size;clear N;go_upto_region 14 with (fail);go_cut [67] (fun t L1=> ∃V:Bool,t= .bool V/\Hid (V=false↔(zs.take k).getLast?=some b)/\Below wr wr L1)
    case first=>
     rcases p7 k with I | I
     ·have e:Hid (true=false↔(zs.take k).getLast?=some b):=by
       unfold Hid;rw [I];simp
      have M1:((k:Int)==0)=true:=by rw [I];rfl
      clear j H I;go_quiet (fail);go_wp2_with fail;go_meet;exact ⟨true,rfl,e,(bR _ _).drewN' _⟩
     have M1:((k:Int)==0)=false:=beq_eq_false_iff_ne.2 qO;obtain ⟨m,N1⟩: ∃m,k=m+1:=⟨k-1,qO⟩;have d2:IntKind.i64.wrap (k-1)=(m:Int):=by rw [qJ qO];omega
     have e2:=ltI m zs.length;have f2:=zeI m;obtain ⟨W,t0⟩: ∃W,zs[m]?=some W:=⟨zs[m],gE qO⟩;have O:=j _ _ (by rw [pc,m7,t0];rfl);have X:(zs.take k).getLast?=some W:=by
      rw [NC,b9,Oj qO,w7,if_pos qO,show k-1=m by omega];exact t0
     clear j H I N1 t0;by_cases s:b=W
     ·have e:Hid ((zs.take k).getLast?=some b):=by unfold Hid;rw [X,s]
      have c2:=eM s;clear X s;go_quiet (fail);go_wp2_with fail;go_meet;exact ⟨false,rfl,⟨fun _=>e.out,fun _=>rfl⟩,(bR _ _).drewN' _⟩
     have e:Hid (true=false↔(zs.take k).getLast?=some b):=by
      unfold Hid;rw [X];simp;exact fun d=>s d.symm
     have c2:=eN s;clear X s;go_quiet (fail);go_wp2_with fail;go_meet;exact ⟨true,rfl,e,(bR _ _).drewN' _⟩
    case rest=>
    obtain ⟨V,rfl,Y,r⟩:=hcut;have u0:=o.next r;have S:=az j1 r;have O:=(r.cell (p:=⟨x,y+k,none⟩) K1).trans q;have k1:=bAl wc (.cells #[b] 9);have O1:=az S k1;have v:=NX wc 9 (.string b);have g2:=u0.size;clear q j H;cases V with
    | true=>
     have e:Hid (cO (zs.take (k+1))=cO (zs.take k)++[b]):=by
      unfold Hid;rw [s0,if_neg fun P1=>by have:=Y.2 P1;cases this]
     clear Y;go_wp2_with (at_builtin;refine kB rfl _ _ 38 9 (.string ⟨#[]⟩) 16 rfl q9 ib rfl z.heap.size (.slice C g E) g (sc G) rfl O1 _ _ 1 1 [.string b] rfl v (by intro h2 Q1;obtain rfl:=i7.1 Q1;rfl) (by unfold maxLen;omega) (by omega) (by simp;omega) ?_;intro T U G1 n0 o0 e1 _ _ _);go_wp2_with fail;refine ⟨⟨k+1,g+1,G++[b],T,U,rfl,by go_num,qO,qI (by rw [e,q0]),qI (by rw [b7,r0];rfl),qO,?_,(u0.next k1).trans o0⟩,by simp [intOf];omega⟩;rw [iX];exact n0
    | false=>
    have e:Hid (cO (zs.take (k+1))=cO (zs.take k)):=by
     unfold Hid;rw [s0,if_pos (Y.1 rfl)]
    clear Y;go_wp2_with fail;exact ⟨⟨k+1,g,G,C,E,rfl,by go_num,qO,qI (by rw [e,q0]),r0,qO,S,u0⟩,by simp [intOf];omega⟩
   have l1:zs.take k=zs:=i9 qO;have R1:Hid (G=idsS D P):=by unfold Hid;rw [q0,l1];exact J1.out
   clear l1;go_wp2_with fail;go_ret;have S1:=r0.out;subst S1;exact ⟨G,C,E,R1,rfl,j1.base i1,R.trans (o.mono i1)⟩
end
