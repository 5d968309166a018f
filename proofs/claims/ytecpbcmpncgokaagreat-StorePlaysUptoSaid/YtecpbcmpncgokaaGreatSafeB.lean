/- Walks and laws. Conditions: as stated. -/
import Derived.Test.YtecpbcmpncgokaaGreatSumA
import Derived.Test.YtecpbcmpncgokaaGreatOnce
set_option maxRecDepth 99999
set_option maxHeartbeats 25600000
set_option linter.all false
open Go.IntKind renaming u32->PU,u8->P8
open Go.Proofs.Tryz renaming prog->an
open Go.RowKit Go.Dol
namespace Go.Dol
def dig (n:Nat):UInt8:=if n<10 then UInt8.ofNat (48+n) else UInt8.ofNat (87+n)
def cq (l:LU):LU:=l.flatMap fun a=>[dig (a.toNat/16),dig (a.toNat%16)]
theorem gd (l):(cq l).length=2*l.length:=by
 induction l with
 | nil=>rfl
 | cons b l a=>unfold cq at a ⊢; rw [List.flatMap_cons,b7,a,List.length_cons];simp;omega
theorem zA (l c):cq (l++[c])=cq l++[dig (c.toNat/16),dig (c.toNat%16)]:=by
 unfold cq;rw [I9];simp
theorem Rd.two (w:World) (T x y):Rd (w.alloc (.cells #[.int .u8 x.toNat,.int .u8 y.toNat] T)) (w+1) 1 (some ⟨w,0,none⟩) 2 (bc [x,y]):=by
 refine ⟨by simp [bc],fun _=>⟨w,0,rfl,qO,fun a d b=> ?_⟩⟩;have e:a<2:=by have:=(c9.1 b).1;simpa [bc] using this
 have c:=cell_of_row (w.alloc (.cells #[.int .u8 x.toNat,.int .u8 y.toNat] T)) w (0+a) #[.int .u8 x.toNat,.int .u8 y.toNat] T (0,0) (heap_alloc_new w _);rw [c,x9];simpa [bc] using b
def aN (x:Nat):Int:=if 48<=x/\x<=57 then (x:Int)-48 else if 97<=x/\x<=102 then (x:Int)-87 else -1
theorem ot (k) (b:k<16):aN (dig k).toNat=k:=by
 have c: ∀a:Fin 16,aN (dig a.val).toNat=a.val:=by decide
 exact c ⟨k,b⟩
theorem MH (x) (b:x<256) (c: ∀j,j<16->(dig j).toNat≠x):aN x= -1:=by
 have d: ∀a:Fin 256,(∀j:Fin 16,(dig j.val).toNat≠a.val)->aN a.val= -1:=by decide+kernel
 exact d ⟨x,b⟩ (fun j=>c j.val j.isLt)
theorem xX {P} {b:Func} {p:Tmp} {ty} (c:b.results= #[.cell p ty]) (tmps w a v) (d:tmps.getD p undef= .pointer (some a)) (e:(loadVar ty a).run P w= .ok v w):
  (results b tmps).run P w= .ok v w:=by
 have f:tmps[p]?.getD undef= .pointer (some a):=by simpa using d
 simp [results,c,f,asAddr,e]
theorem wW {n:BA} (a:n.size=0):(n.toList==([]:LU))=true:=by
 rw [t8,beq_iff_eq];exact nZ (by rw [aC];exact a)
theorem wX {n:BA} (a:n.size≠0):(n.toList==([]:LU))=false:=by
 rw [t8];refine beq_eq_false_iff_ne.2 fun b=>a ?_;rw [<-aC,b];rfl
theorem Tw.new1 {w w' w1 g m} (a:Tw w w1 g m) {x} (b:w1.grownBy w' (some x)) (i:w<=x):Tw w w' g m:=
 ⟨b.os.trans a.os,b.tape.trans a.tape,b.output.trans a.output,lT a.size b.size,fun c d f h=>(b.block c (r9 d a.size) (fun e=>by injection e with e;omega)).trans (a.block c d f h)⟩
theorem gz {W x T cs} (h:Blk W x T cs) {l} (hl:eC W l) (o):Blk (W.putObj l o) x T cs:=z99
end Go.Dol
namespace Go.Proofs.YtecpbcmpncgokaaGreat
theorem kz (k) (d:k<16): ∀a:k<(⟨#[48,49,50,51,52,53,54,55,56,57,97,98,99,100,101,102]⟩:BA).size,(⟨#[48,49,50,51,52,53,54,55,56,57,97,98,99,100,101,102]⟩:BA)[k]'a=dig k:=by
 intro a;have e: ∀c:Fin 16,(⟨#[48,49,50,51,52,53,54,55,56,57,97,98,99,100,101,102]⟩:BA)[c.val]?=some (dig c.val):=by decide
 have b:=e ⟨k,d⟩;simp only at b;rw [getElem?_pos _ k a] at b;injection b
theorem re {w ops o a K Q} {j:Prop} (k:o.guard=none) (s x)
  (l:o.op= .call { callee:=.builtin .append,args:=#[s,x],argTypes:=#[36,36] })
  (base v n xs) (p:a.eval s=v) (d:w.ownsRow base 5 1 v n (bc xs))
  (B A m c news) (q:a.eval x= .slice A m c) (e:Rd w B 1 A m (bc news))
  (D:n+m<=kaa) (hbase:base<=w.heap.size)
  (r: ∀(b:LU) (A':OA) (c':Nat) (w':World),Hid (b=xs++news)->w'.ownsRow base 5 1 (.slice A' b.length c') b.length (bc b)->Below base w w'->w.grownBy w' v.ownBlock->
   b.length<=c'->c'<=maxLen->K (a.put o.dst (.slice A' b.length c')) w'):if Region.wanted o (yielded ops a.tmps)=true then Oper.wp an o a w K Q else j:=by
 have t:Region.wanted o (yielded ops a.tmps)=true:=by simp [Region.wanted,k]
 rw [if_pos t];refine hG w s x _ l base _ _ 1 1 q7 eh rfl (by decide) v n (bc xs) p d B A m c (bc news) q e (fW _) (by unfold maxLen;omega) qO hbase ?_;intro A' c' w' f g u h y;have E:n=xs:=by have:=d.1;rw [bC] at this;omega
 have F:m=news:=by have:=e.len;rw [bC] at this;omega
 have i:n+m=(xs++news).length:=by rw [b7];omega
 rw [<-ez,i] at f;rw [i] at u h ⊢;exact r _ A' c' w' rfl f ((bR _ _).grown g hbase (fun z C=>(d.lt z C).1)) g h y
def zB (l:LU) (c:World) (out i:Value) (wr:World):Prop:=
 ∃(d:Nat) (a:LU) (e:OA) (b:Nat),out= .slice e a b/\i= .int .i64 d/\d<=l/\Hid (a=cq (l.take d))/\wr.ownsRow c 5 1 (.slice e a b) a (bc a)/\Below c c wr/\a<=b/\b<=maxLen
open Go.RowKit Go.Dol
theorem kx {s:BA} {l:LU} (a:l=s.data.toList) {k} (c:k<l.length) (b:k<s.size):(s[k]'b).toNat=(l[k]).toNat:=by
 subst a;rfl
end Go.Proofs.YtecpbcmpncgokaaGreat
namespace Go.Proofs.YtecpbcmpncgokaaGreat
theorem MI (x:Int) (k:Nat) (a:Int) (w) (b:a=k) (d:0<=x) (e:x<4294967296) (f:0<k) (g:k<32):
  Calls an 249 #[.int .u32 x,a] w fun c w'=>c= .returned (.int .u32 (iP x k))/\ ∃n,w'=w.drewN n:=by
 subst b;have h:=qiJ (32-k);have i:(32-(k:Int)).toNat=32-k:=qO;go_in;go_wp2_with fail;go_quiet (fail);go_wp2_with fail;go_ret;exact ⟨rfl,nq,rfl⟩
open Go.RowKit Go.Dol
theorem zC:(an.info? 128).map (fun i=>(i.zero,i.size,i.bytes))=some (some (.int .u32 0),1,4):=qkR
def upW (l:LU) (k:Nat):List Int:=(List.range k).map (ea l)
theorem MJ (l k):upW l (k+1)=upW l k++[ea l k]:=by
 unfold upW;rw [List.range_succ,p8];rfl
theorem MK (l:LU) (i:Nat) (a:4*i+3<l):ea l i=((l[4*i]).toNat:Int)+256*((l[4*i+1]).toNat:Int)+65536*((l[4*i+2]).toNat:Int)+kah*((l[4*i+3]).toNat:Int):=by
 unfold ea;rw [l8 qO,l8 qO,l8 qO,l8 a];have b:4*i+1+1=4*i+2:=rfl;simp only [Nz,Nw,leN,List.foldr,b];omega
def ML (l:LU) (w:World) (v i:Value) (wr:World):Prop:=
 ∃(k:Nat) (b:OA) (a:Nat),v= .slice b k a/\i= .int .i64 k/\k<=8/\k<=a/\wr.ownsRow w 128 1 (.slice b k a) k (wc (upW l k))/\Below w w wr
def MM (S a:List Int) (b c:List Value) (g d:Nat) (T:TypeId) (w:World) (i:Value) (wr:World):Prop:=
 ∃r:Nat,i= .int .i64 r/\r<=8/\Blk wr g T (wc (rounds S a r)++b)/\Blk wr d T (wc a++c)/\w.grownBy wr (some g)
def MN (S a:List Int) (r:Nat) (b c:List Value) (g d:Nat) (T:TypeId) (w:World) (i:Value) (wr:World):Prop:=
 ∃k:Nat,i= .int .i64 k/\k<=8/\Blk wr g T (wc (inner S a r k)++b)/\Blk wr d T (wc a++c)/\w.grownBy wr (some g)
theorem MO (g n8 S tail cs A l n c w) (b0:Words S) (H:Blk w g 128 (wc S++tail)) (y0:8<=cs) (I:Rd w w.heap.size 1 A n (bc l)) (c0:n=32) (d0:n8=8):
  Calls an 192 #[.slice (some ⟨g,0,none⟩) n8 cs,.slice A n c] w fun J w'=>J= .returned (.tuple #[])/\Blk w' g 128 (wc (sumB S l)++tail)/\w.grownBy w' (some g):=by
 subst c0;subst d0;have e0:Hid (l.length=32):=qI (by have:=I.len;rw [bC] at this;omega);have M:=H.lt;obtain ⟨f,t,rfl,z,N⟩:=I.at_ qO;have C:=qI N;clear N;go_in;go_wp2_with fail;go_loopw [4,5] (fun o i wr=>ML l w o i wr) (fun _ i _=>8-(intOf i).toNat)
 case atStart=>exact ⟨0,none,0,rfl,rfl,qO,qO,⟨by simp [wc,upW],.inl ⟨rfl,by simp⟩⟩,bR _ _⟩
 case round=>
  obtain ⟨a,z0,A0,rfl,rfl,B0,C0,D,s⟩:=hrel;have O:=s.size;by_cases f0:a<8
  ·have P:4*a+3<l:=by rw [e0];omega
   have Q:=MK l a P;obtain ⟨m,K⟩:=gX ((l[4*a]).toNat);obtain ⟨d,v⟩:=gX ((l[4*a+1]).toNat);obtain ⟨e,x⟩:=gX ((l[4*a+2]).toNat);obtain ⟨k,y⟩:=gX ((l[4*a+3]).toNat);have D0:m<256:=by have:=(l[4*a]).toNat_lt;omega
   have E0:d<256:=by have:=(l[4*a+1]).toNat_lt;omega
   have F0:e<256:=by have:=(l[4*a+2]).toNat_lt;omega
   have G0:k<256:=by have:=(l[4*a+3]).toNat_lt;omega
   have H0:wr.cell? ⟨f,t+4*a,none⟩=some (.int .u8 m):=by rw [s.cell (p:=⟨f,_,none⟩) z,K];exact C.out (4*a) _ (bu l _ qO)
   have I0:wr.cell? ⟨f,t+(4*a+1),none⟩=some (.int .u8 d):=by rw [s.cell (p:=⟨f,_,none⟩) z,v];exact C.out (4*a+1) _ (bu l _ qO)
   have J0:wr.cell? ⟨f,t+(4*a+2),none⟩=some (.int .u8 e):=by rw [s.cell (p:=⟨f,_,none⟩) z,x];exact C.out (4*a+2) _ (bu l _ qO)
   have K0:wr.cell? ⟨f,t+(4*a+3),none⟩=some (.int .u8 k):=by rw [s.cell (p:=⟨f,_,none⟩) z,y];exact C.out (4*a+3) _ (bu l _ qO)
   rw [<-K,<-v,<-x,<-y] at Q;obtain ⟨o,R⟩: ∃o:Nat,o=m+256*d+65536*e+kah*k:=⟨_,rfl⟩;have g0:Hid (ea l a=(o:Int)):=qI qO;have h0:=qI R;clear Q K v x y P R;have L0:PU.wrap m=m:=by rw [x8];omega
   have M0:PU.wrap d=d:=by rw [x8];omega
   have N0:PU.wrap e=e:=by rw [x8];omega
   have O0:PU.wrap k=k:=by rw [x8];omega
   have P0:PU.wrap (256*d)=256*(d:Int):=by rw [x8];omega
   have Q0:PU.wrap (65536*e)=65536*(e:Int):=by rw [x8];omega
   have R0:PU.wrap (kah*k)=kah*(k:Int):=by rw [x8];omega
   have S0:PU.wrap (m+256*d)=(m:Int)+256*d:=by rw [x8];omega
   have T0:PU.wrap (m+256*d+65536*e)=(m:Int)+256*d+65536*e:=by rw [x8];omega
   have U0:PU.wrap (m+256*d+65536*e+kah*k)=(o:Int):=by rw [x8];have:=h0.out;omega
   have V0:=qiJ (4*a);have W0:=qiJ (4*a+1);have X0:=qiJ (4*a+2);have Y0:=qiJ (4*a+3);have Z0:(4*(a:Int)).toNat=4*a:=qO;have a1:(4*(a:Int)+1).toNat=4*a+1:=qO;have b1:(4*(a:Int)+2).toNat=4*a+2:=qO;have c1:(4*(a:Int)+3).toNat=4*a+3:=qO;have d1:(0:Int)<=4*(a:Int):=qO;have e1:4*(a:Int)<32:=qO;have f1:4*(a:Int)+1<32:=qO;have g1:4*(a:Int)+2<32:=qO;have h1:4*(a:Int)+3<32:=qO;have i1:(0:Int)<=4*(a:Int)+1:=qO;have j1:(0:Int)<=4*(a:Int)+2:=qO;have k1:(0:Int)<=4*(a:Int)+3:=qO;go_wp2_with fail;go_region_held3 (fun w'=>w'.cell? ⟨f,t+4*a,none⟩=some (.int .u8 m)/\w'.cell? ⟨f,t+(4*a+1),none⟩=some (.int .u8 d)/\w'.cell? ⟨f,t+(4*a+2),none⟩=some (.int .u8 e)/\w'.cell? ⟨f,t+(4*a+3),none⟩=some (.int .u8 k)) (first | go_keep | (go_split_ands;refine ⟨?_,?_,?_,?_⟩<;>(rw [z2.cell (p:=⟨f,_,none⟩) z];assumption)))
    ((refine gB (by rfl) (.tmp 13) (.tmp 47) 261 128 _ 4 (by rfl) Tryz.underlying261 zC rfl w.heap.size _ a (wc (upW l a)) (by rfl) (E7 (w:=World.drew wr) D _) (wr+1) _ 1 1 [.int .u32 o] (by rfl) (NX wr _ _).drew (by simp [Value.oneCell']) (by unfold maxLen;omega) qO (by simp;omega) ?_;intro i0 j0 w' k0 z2 l1 l0 z5))
   go_wp2_with fail;refine ⟨⟨a+1,i0,j0,rfl,by go_num,f0,l0,?_,s.trans (((bR _ _).alloc O _).drew.trans z2)⟩,by simp [intOf];omega⟩;rw [MJ,g0];have:wc (upW l a++[(o:Int)])=wc (upW l a)++[.int .u32 o]:=by simp [wc]
   rw [this];exact k0
  have E:a=8:=qO;rw [E] at D;have m0:=qI E;obtain ⟨B,F,rfl,n0,hbk⟩:=zD D qO;replace hbk:Blk wr B 128 (wc (eD l)++F):=hbk;clear E D;have T:=zl l;obtain ⟨j,U⟩:=gH (eD l);rw [<-U] at hbk T;have hbg:Blk wr g 128 (wc S++tail):=H.below s M;have hgr:w.grownBy wr (some g):=ax s _;have o0:g≠B:=qO;have m1: ¬((a:Int)<8):=qO;clear s I H O M n0;go_wp2_with fail;go_loopw [6] (fun i wr=>MM S j tail F g B 128 w i wr) (fun i _=>8-(intOf i).toNat)
  case atStart=>exact ⟨0,rfl,qO,hbg,hbk,hgr⟩
  case round=>
   clear hbg hbk hgr;obtain ⟨r,rfl,n1,hbg,hbk,hgr⟩:=hrel;by_cases o1:r<8
   ·have p0:=b0.rounds j r;have q0:=dtX ((r:Int)<8);go_wp2_with fail;go_loopw [7] (fun i wr=>MN (rounds S j r) j r tail F g B 128 w i wr) (fun i _=>8-(intOf i).toNat)
    case atStart=>exact ⟨0,rfl,qO,hbg,hbk,hgr⟩
    case round=>
     clear hbg hbk hgr;obtain ⟨b,rfl,E,hbg,hbk,hgr⟩:=hrel;by_cases V:b<8
     ·obtain ⟨u,G⟩:=gX (inner (rounds S j r) j r b);have L:Words u:=by rw [G];exact p0.inner j r b
      rw [<-G] at hbg;obtain ⟨d,v⟩:=gX (bn u b);obtain ⟨e,x⟩:=gX (bn j ((b+r)%8));obtain ⟨k,y⟩:=gX (bn u ((b+1)%8));have p1:wr.cell? ⟨g,b,none⟩=some (.int .u32 d):=by rw [hbg.cell,v];exact gC L tail V
      have q1:wr.cell? ⟨B,(b+r)%8,none⟩=some (.int .u32 e):=by rw [hbk.cell,x];exact gC T F (PG _ qO)
      have r1:wr.cell? ⟨g,(b+1)%8,none⟩=some (.int .u32 k):=by rw [hbg.cell,y];exact gC L tail (PG _ qO)
      have s1:=hbg.free b;have W:=zq .xor d e;have r0:=qI G;have s0:=qI v;have t0:=qI x;have u0:=qI y;clear G v x y;have t1:=qiJ (b+1);have u1:((b:Int)+1).tmod 8=((b:Int)+1)%8:=q8 qO;have v1:(0:Int)<=((b:Int)+1)%8:=qO;have w1:((b:Int)+1)%8<8:=qO;have x1:(((b:Int)+1)%8).toNat=(b+1)%8:=qO;have y1:=qiJ (b+r);have z1:PU.wrap (b+r)=(b:Int)+r:=by rw [x8];omega
      have A1:((b:Int)+r).tmod 8=((b:Int)+r)%8:=q8 qO;have B1:(((b:Int)+r)%8).toNat=(b+r)%8:=qO;have C1:(0:Int)<=((b:Int)+r)%8:=qO;have D1:((b:Int)+r)%8<a:=by have:=m0.out;omega
      have E1:=qiJ (3*b);have F1:=qiJ (5+3*b);go_wp2_with fail;go_quiet ((go_at_call 249;exact Pr (MI _ (5+3*b) _ _ qO W.1 W.2 qO qO)));go_wp2_with fail;have X:(iP (bits .xor .u32 d e) (5+3*b)+k*2246822507+((b:Int)+r))%kak=fq u j r b:=by
       rw [s0,t0,u0];rfl
      have v0:=qI X;clear X;refine ⟨⟨b+1,by go_num,qO,?_,(hbk.drewN nq).far (p:=⟨g,b,none⟩) (fun J=>o0 J.symm) _,ae (ik hgr nq) _ _⟩,by simp [intOf];omega⟩;have Y:=(hbg.drewN nq).set b (.int .u32 (fq u j r b));rw [mW u tail (by rw [L.1];exact V)] at Y;rw [v0];have w0:inner (rounds S j r) j r (b+1)=u.set b (fq u j r b):=by rw [r0];rfl
      rw [w0];exact Y
     have Z:b=8:=qO;have HK8:=qI Z;have G1: ¬((b:Int)<8):=qO;clear Z;exact z151
   have a0:r=8:=qO;have x0:=qI a0;have q0: ¬((r:Int)<8):=qO;clear a0;go_wp2_with fail;go_end0;refine ⟨rfl,?_,hgr⟩;rw [U,x0] at hbg;exact hbg
open Go.RowKit Go.Dol
def MP (l:LU) (B:Nat) (w:World) (b:Value) (wr:World):Prop:=
 ∃(c:Nat) (a:LU) (d:OA) (e:Nat),b= .slice d a e/\Hid (a=l++1::List.replicate c 0)/\Hid (a.length=l+1+c)/\c<=dv l.length/\wr.ownsRow B 5 1 (.slice d a e) a (bc a)/\Below B w wr
def MQ (e:LU) (n B:Nat) (w:World) (b x i:Value) (wr:World):Prop:=
 ∃(c d:Nat) (a:LU) (f:OA) (g:Nat),b= .slice f a g/\x= .int .u64 d/\i= .int .i64 c/\c<=8/\d<=n/\Hid (a=e++Dol.leB c n)/\Hid (a.length=e+c)/\Hid (d=n/256^c)/\wr.ownsRow B 5 1 (.slice f a g) a (bc a)/\Below B w wr
def MR (d:LU) (B:Nat) (w:World) (b i:Value) (wr:World):Prop:=
 ∃(c:Nat) (a:LU) (e:OA) (f:Nat),b= .slice e a f/\i= .int .i64 c/\c<=32/\Hid (a=d++List.replicate c 0)/\Hid (a.length=d+c)/\wr.ownsRow B 5 1 (.slice e a f) a (bc a)/\Below B w wr
def MS (w:World) (s i:Value) (wr:World):Prop:=
 ∃(a:Nat) (c:OA) (b:Nat),s= .slice c a b/\i= .int .i64 a/\a<=8/\a<=b/\wr.ownsRow w 128 1 (.slice c a b) a (wc (first.take a))/\Below w w wr
def MT (b:LU) (d:List Value) (g:Nat) (w:World) (i:Value) (wr:World):Prop:=
 ∃(a:Nat) (c:List Int),i= .int .i64 a/\a<=b/\a%32=0/\Words c/\Hid (bt c (b.drop a)=bt first b)/\Blk wr g 128 (wc c++d)/\w.grownBy wr (some g)
def MU (S:List Int) (w:World) (out i:Value) (wr:World):Prop:=
 ∃(a:Nat) (l:LU) (b:OA) (c:Nat),out= .slice b l c/\i= .int .i64 a/\a<=8/\Hid (l=dh (S.take a))/\wr.ownsRow w 5 1 (.slice b l c) l (bc l)/\Below w w wr
theorem _root_.Go.Dol.Rd.newN (w:World) (T cs):Rd (w.alloc (.cells cs.toArray T)) (w+1) 1 (some ⟨w,0,none⟩) cs.length cs:=by
 refine ⟨by simp,fun _=>⟨w,0,rfl,qO,fun a d b=> ?_⟩⟩;have c:=(o9 w T cs).cell (0+a);rw [c,x9];exact b
theorem MV (x) (a:x<4294967296):bc (Dol.leB 4 x)=[.int .u8 (x%256:Nat),.int .u8 (x/256%256:Nat),.int .u8 (x/65536%256:Nat),.int .u8 (x/16777216:Nat)]:=by
 simp only [Dol.leB,bc,List.map_cons,List.map_nil,NG,Og];simp;omega
theorem MW (k) (b:k<8):bn first k=((k:Int)+1)*2654435769%kak:=by
 have c: ∀a:Fin 8,bn first a.val=((a.val:Int)+1)*2654435769%kak:=by decide
 exact c ⟨k,b⟩
theorem MX (k) (b:k<8):first.take (k+1)=first.take k++[bn first k]:=by
 have a:k<first:=by rw [iQ.1];exact b
 rw [n9 a];simp [bn,gE a]
theorem jz (A l c w) (f1:Rd w w.heap.size 1 A l.length (bc l)) (n2:l.length<=140737488355200):
  Calls an 123 #[.slice A l c] w fun O w'=> ∃P,Hid (P=aw l)/\O= .returned (.string ⟨P.toArray⟩)/\Below w w w':=by
 go_in;go_wp2_with (at_builtin;refine bQ rfl (.tmp 12) (.tmp 13) rfl w.heap.size _ 0 [] rfl ⟨by simp [bc],.inl ⟨rfl,rfl⟩⟩ w.heap.size A l.length c l rfl f1 (by omega) (lR _) ?_);intro W o2 p2 g1 X w0 Y _ _ q2 r2;have h1:W.length=l:=by simp [X.out]
 have s2:=Y.size;go_wp2_with (at_builtin;refine cY rfl (.tmp 15) (.tmp 16) rfl w.heap.size _ W.length W rfl w0 rfl (by decide) (by decide) (by omega) (by omega) ?_);intro v Z i1 j1 k1 ed x0 y0 z0 _ _ t2 u2;have A0:Hid (Z=l++1::List.replicate 0 0):=by
  unfold Hid;have:=x0.out;have l1:v=1:=eu (n:=1) ed rfl;rw [this,l1,X];rfl
 have m1:Hid (Z.length=l+1+0):=by
  unfold Hid;rw [A0];simp
 have B0:=Y.trans z0;clear h1 w0 Y z0 X x0 ed;go_wp2_with fail;go_loopw [3] (fun r wr=>MP l w w r wr) (fun r _=>l+1+dv l.length-hH r)
 case atStart=>exact ⟨0,Z,i1,j1,rfl,A0,m1,zL,y0,B0⟩
 case round=>
  clear y0 B0;obtain ⟨Q,k,n1,o1,rfl,C0,E,v2,g,e⟩:=hrel;have x:=e.size;have a0:Hid (dv l.length=(24+64-(l%32+1))%32):=rfl;obtain ⟨q,D0⟩:=gX (k.length%32);have p1:(k:Int)%32=q:=qO;have w2:(k.length:Int).tmod 32=(q:Int):=by rw [q8 qO];exact p1
  have x2:k.length<=140737488355240:=by
   have:=E.out;have:=a0.out;omega
  have E0:=qI D0;clear D0;by_cases b0:q=24
  ·have q1:=qI b0;have r1:((q:Int)!=24)=false:=by rw [b0];rfl
   have c0:Hid (Q=dv l):=by
    unfold Hid;have:=E0.out;have:=q1.out;have:=a0.out;have:=E.out;omega
   have y2:IntKind.u64.wrap l=(l:Int):=by rw [Oc];omega
   clear b0;go_wp2_with fail;go_loopw [3,4,5] (fun r a i wr=>MQ k l w w r a i wr) (fun _ _ i _=>8-(intOf i).toNat)
   case atStart=>exact ⟨0,l.length,k,n1,o1,rfl,rfl,rfl,qO,lR _,by simp [Hid,Dol.leB],by simp [Hid],by simp [Hid],g,e⟩
   case round=>
    clear g e x;obtain ⟨F,G,H,s1,t1,rfl,rfl,rfl,A2,B2,F0,G0,R,g,e⟩:=hrel;have x:=e.size;have C2:H.length<=140737488355248:=by
     have:=G0.out;omega
    by_cases D2:F<8
    ·have u1:(F:Int)<8:=qO;have E2:(G:Int)%256<256:=qO;have F2:IntKind.u64.wrap (G/256)=(G:Int)/256:=by rw [Oc];omega
     go_wp2_with (at_builtin;refine cY rfl (.tmp 32) (.tmp 36) rfl w.heap.size _ H.length H rfl g rfl (by omega) (by omega) (by omega) (by omega) ?_);intro v I d0 e0 v1 ed J f0 g0 _ _ w1 x1;go_wp2_with fail;refine ⟨⟨F+1,G/256,I,d0,e0,rfl,by go_num,by go_num,qO,qO,?_,?_,?_,f0,e.trans g0⟩,by simp [intOf];omega⟩
     ·have y1:=eu (n:=G%256) ed qO;unfold Hid;rw [J,F0,y1,R,rb,g9]
     ·unfold Hid;rw [J,b7,G0];rfl
     unfold Hid;rw [R,Og,Ns]
    have u1: ¬(F:Int)<8:=qO;have z1:Hid (F=8):=by unfold Hid;omega
    go_wp2_with fail;go_loopw [3,6] (fun r i wr=>MR H w w r i wr) (fun _ i _=>32-(intOf i).toNat)
    case atStart=>exact ⟨0,H,s1,t1,rfl,rfl,qO,by simp [Hid],by simp [Hid],g,e⟩
    case round=>
     clear g e x;obtain ⟨K,d,G2,S,rfl,rfl,H2,H0,I0,g,e⟩:=hrel;have x:=e.size;have I2:d.length<=140737488355288:=by
      have:=I0.out;omega
     by_cases J2:K<32
     ·have A1:(K:Int)<32:=qO;go_wp2_with (at_builtin;refine cY rfl (.tmp 44) (.tmp 45) rfl w.heap.size _ d.length d rfl g rfl (by decide) (by decide) (by omega) (by omega) ?_);intro v B1 C1 D1 K2 ed J0 E1 F1 _ _ L2 M2;go_wp2_with fail;refine ⟨⟨K+1,B1,C1,D1,rfl,by go_num,qO,?_,?_,E1,e.trans F1⟩,by simp [intOf];omega⟩
      ·have h0:v=0:=by
        exact z152
       unfold Hid;rw [J0,H0,h0,g9,Pd]
      unfold Hid;rw [J0,b7,I0];rfl
     have A1: ¬(K:Int)<32:=qO;have K0:K=32:=qO;have i0:Hid (d=l++dK l l):=by
      unfold Hid dK;rw [H0,F0,C0,c0,z1,K0];simp
     have G1:Hid (d.length%32=0):=by
      unfold Hid;rw [i0,b7];exact zo _ _
     have L0:=d8 g;have N2:d<=S:=by obtain ⟨_,_,h,O2,_⟩:=fA g;injection h with _ _ h;omega
     clear K0 g;have M0: ∀L:LU,L=dh (bt first d).1->Hid (L=aw l):=fun L h=>by
      unfold Hid;rw [h,Md,i0]
     have H1:=qI M0;clear M0 i0;go_wp2_with fail;obtain ⟨j0,k0⟩:=gX wr;rw [<-k0] at L0 e x;rw [<-k0];clear k0;go_loopw [7,8] (fun I1 i wr=>MS j0 I1 i wr) (fun _ i _=>8-(intOf i).toNat)
     case atStart=>exact ⟨0,none,0,rfl,rfl,qO,qO,⟨by simp [wc],.inl ⟨rfl,by simp⟩⟩,bR _ _⟩
     case round=>
      obtain ⟨b,J1,N0,rfl,rfl,P2,Q2,l0,y⟩:=hrel;have T:=y.size;by_cases O0:b<8
      ·have K1:(b:Int)<8:=qO;have R2:PU.wrap (b+1)=(b:Int)+1:=by rw [x8];omega
       go_wp2_with (at_builtin;refine eF rfl (.tmp 51) (.tmp 56) 261 128 _ 4 rfl Tryz.underlying261 zC rfl j0.heap.size _ b (wc (first.take b)) rfl (l0.alloc _) (wr+1) _ 1 1 [.int .u32 (bn first b)] rfl (by rw [MW b O0];exact NX wr _ _) (by simp [Value.oneCell']) (by unfold maxLen;omega) (by omega) (by simp;omega) ?_);intro L1 M1 U N1 m0 _ O1 S2;go_wp2_with fail;refine ⟨⟨b+1,L1,M1,rfl,by go_num,qO,O1,?_,y.trans (((bR _ _).alloc T _).trans m0)⟩,by simp [intOf];omega⟩;rw [MX b O0];have:wc (first.take b++[bn first b])=wc (first.take b)++[.int .u32 (bn first b)]:=by simp [wc]
       rw [this];exact N1
      have K1: ¬(b:Int)<8:=qO;have n0:b=8:=qO;have P0:=qI n0;have Q0:wr.ownsRow j0 128 1 (.slice J1 b N0) b (wc first):=by
       have O:first.take b=first:=i9 (by rw [n0,iQ.1];exact lR _);rwa [O] at l0
      obtain ⟨M,o0,rfl,R0,o⟩:=zD Q0 qO;obtain ⟨P1,p0⟩:=gX wr;rw [<-p0] at o y T;clear n0 l0 Q0;go_wp2_with fail;rw [<-p0];clear p0;go_loopw [9] (fun i wr=>MT d o0 M P1 i wr) (fun i _=>d-(intOf i).toNat)
      case atStart=>exact ⟨0,first,rfl,zL,rfl,iQ,by simp [Hid],o,gR _ _⟩
      case round=>
       clear o;obtain ⟨f,z,rfl,T2,q0,s,r0,o,N⟩:=hrel;have Q1:=N.size;by_cases U2:f<d
       ·have R:=G1.out;have S0:f+32<=d:=qO;have T0:=y.trans (ak N R0 T);have R1:=L0.below T0;have hcut:=(R1.more (B':=wr.heap.size) T0.size).cut (lo:=f) (hi:=f+32) (cap:=S) qO S0 qO;rw [if_neg qO,s9,s9,dW,dx,NN] at hcut;have V2:(f:Int)+32<=S:=qO;have W2: ¬S=f:=qO;have U0:=qiJ (f+32);have S1:=ltI f d.length;have T1:=qI q0;clear R q0;go_wp2_with fail
        ((with_reducible refine (MO M b z o0 N0 _ ((d.drop f).take 32) 32 _ wr s o qO hcut rfl P0.out).mono ?_);rintro O U ⟨rfl,m0,U1⟩)
        go_wp2_with fail;refine ⟨⟨f+32,_,rfl,S0,by have:=T1.out;omega,s.sumB _,?_,m0,aq N U1⟩,by simp [intOf];omega⟩;unfold Hid;rw [<-r0,fR (l:=d.drop f) (by rw [b8];omega),OT]
       have S1: ¬(f:Int)<d:=qO;have V1:Hid (z=(bt first d).1):=by
        unfold Hid;rw [<-r0,p9 qO,fQ (by simp)]
       have s0:=e.trans ((y.trans (ak N R0 T)).mono x);clear q0 r0 N y;go_wp2_with fail;obtain ⟨U,t0⟩:=gX wr;rw [<-t0] at o s0 Q1;rw [<-t0];clear t0;have V0:=o.lt;go_loopw [10,11] (fun L i wr=>MU z U L i wr) (fun _ i _=>8-(intOf i).toNat)
       case atStart=>exact ⟨0,[],none,0,rfl,rfl,qO,rfl,⟨by simp [bc],.inl ⟨rfl,rfl⟩⟩,bR _ _⟩
       case round=>
        obtain ⟨j,m,W1,X1,rfl,rfl,X2,u0,W0,V⟩:=hrel;have Y1:=V.size;by_cases v0:j<8
        ·have Z1:(j:Int)<8:=qO;have a2:wr.cell? ⟨M,j,none⟩=some (.int .u32 (bn z j)):=by rw [(o.below V V0).cell];exact gC s o0 v0
         have b2:=s.get v0;obtain ⟨a,X0⟩: ∃a:Nat,a=(bn z j).toNat:=⟨_,rfl⟩;have Y0:bn z j=(a:Int):=qO;have c2:a<kak:=qO;rw [Y0] at a2;have d2:=qI X0;have e2:m=4*j:=by rw [u0];exact zy s.1 qO
         have Y2:m.length<=32:=qO;obtain ⟨B,Z0⟩: ∃t:Nat,t=a%256:=⟨_,rfl⟩;obtain ⟨C,a1⟩: ∃t:Nat,t=a/256%256:=⟨_,rfl⟩;obtain ⟨D,b1⟩: ∃t:Nat,t=a/65536%256:=⟨_,rfl⟩;obtain ⟨u,c1⟩: ∃t:Nat,t=a/kah:=⟨_,rfl⟩;have f2:Hid (bc (Dol.leB 4 a)=[.int .u8 B,.int .u8 C,.int .u8 D,.int .u8 u]):=by
          unfold Hid;rw [MV a c2,Z0,a1,b1,c1]
         have g2:(a:Int)%256=B:=qO;have U0:(a:Int)/256%256=C:=qO;have h2:(a:Int)/65536%256=D:=qO;have Z2:(a:Int)/kah=u:=qO;have a3:(a:Int).tmod 256=(B:Int):=by rw [q8 qO];exact g2
         have b3:((a:Int)/256).tmod 256=(C:Int):=by rw [q8 qO];exact U0
         have c3:((a:Int)/65536).tmod 256=(D:Int):=by rw [q8 qO];exact h2
         have g1:PU.wrap (a/256)=(a:Int)/256:=by rw [x8];omega
         have k1:PU.wrap (a/65536)=(a:Int)/65536:=by rw [x8];omega
         have d3:PU.wrap u=(u:Int):=by rw [x8];omega
         have e3:(j:Int)<b:=by have:=P0.out;omega
         have f3:P8.wrap B=(B:Int):=by rw [NR];omega
         have g3:P8.wrap C=(C:Int):=by rw [NR];omega
         have h3:P8.wrap D=(D:Int):=by rw [NR];omega
         have i3:P8.wrap u=(u:Int):=by rw [NR];omega
         clear X0 Y0 e2 Z0 a1 b1 c1 b2;go_wp2_with fail;go_region_held3 (fun w'=>w'.cell? ⟨M,j,none⟩=some (.int .u32 a)) (first | go_keep | (rw [z2.cell (p:=⟨M,_,none⟩) V0];assumption))
          ((refine re (by rfl) (.tmp 75) (.tmp 102) (by rfl) U _ m m (by rfl) (E7 (w:=World.drew wr) W0 _) (wr+1) _ 4 4 (Dol.leB 4 a) (by rfl) (by rw [f2];exact (Rd.newN wr _ [.int .u8 B,.int .u8 C,.int .u8 D,.int .u8 u]).drew) qO (by simp;omega) ?_;intro P i2 j2 w' k2 l2 z2 j3 z5 k3))
         go_wp2_with fail;refine ⟨⟨j+1,P,i2,j2,rfl,by go_num,qO,?_,l2,V.trans (((bR _ _).alloc Y1 _).drew.trans z2)⟩,by simp [intOf];omega⟩;unfold Hid;rw [k2,u0,zz (by rw [s.1];exact v0),<-d2]
        have Z1: ¬(j:Int)<8:=qO;have d1:j=8:=qO;have m2:Hid (m=aw l):=by
         refine H1.out m ?_;rw [u0,d1,i9 (by rw [s.1];exact lR _),V1]
        clear d1;go_wp2_with (refine fU rfl (.tmp 104) rfl wr.heap.size W1 m X1 m rfl (d8 W0) ?_);go_ret;exact ⟨m,m2,rfl,s0.trans (V.mono s0.size)⟩
  have r1:((q:Int)!=24)=true:=by simp;omega
  have c0:Q<dv l.length:=by
   have:=E0.out;have:=a0.out;have:=E.out;omega
  go_wp2_with (at_builtin;refine cY rfl (.tmp 22) (.tmp 23) rfl w.heap.size _ k.length k rfl g rfl (by decide) (by decide) (by omega) (by omega) ?_);intro v I d0 e0 v1 ed J f0 g0 _ _ w1 x1;go_wp2_with fail;have e1:I.length=l+1+(Q+1):=by rw [J,b7,E];rfl
  have h0:v=0:=by
   exact z152
  refine ⟨⟨Q+1,I,d0,e0,rfl,?_,e1,c0,f0,e.trans g0⟩,?_⟩
  ·unfold Hid;rw [J,h0,C0,Pd];simp
  show l+1+dv l.length-I<l+1+dv l.length-k;rw [e1,E];omega
end Go.Proofs.YtecpbcmpncgokaaGreat
namespace Go.Proofs.YtecpbcmpncgokaaGreat
open Go.RowKit Go.Dol Go.Shelf
attribute [local go_sem] Oper.semAt_some
theorem xY (w x k) (a:w.cell? ⟨x,0,none⟩=some (.int .i64 k)):(loadVar 30 ⟨x,0,none⟩).run an w= .ok (.int .i64 k) w:=by
 simp [go_sem,a]
section
variable {w w':World} {g m:Nat} {D:Dk}
theorem Dsk.keepB (f:Dsk w g m D) {x T cs} (a:Blk w x T cs) (h:T≠145) (i:T≠5) (c:w.grownBy w' (some x)):Dsk w' g m D:=by
 obtain ⟨j,d,e,k⟩:=f;have l:some g≠some x:=fun b=>by
  injection b with b;subst b;unfold Blk at d a;rw [d] at a;injection a with a;injection a with _ a;exact h a.symm
 have n:some m≠some x:=fun b=>by
  injection b with b;exact e.blk_ne a b.symm
 exact ⟨j,d.grown c l,e.grown c n,k.keep c (v8 a i (zL))⟩
end
section
variable {w w':World} {g m:Nat} {D:Dk}
theorem Other.no {W B l} (d:eC W l) (e:B<=l):Other W B (some l):=by
 intro h b;injection b with b;subst b;refine ⟨e,fun i j a=> ?_⟩;obtain ⟨k,f,c⟩:=d;rw [f] at a;injection a with a;rw [a] at c;cases c
theorem Dsk.put (b:Dsk w g m D) {l} (a:eC w l) (c:m≠l) (o):Dsk (w.putObj l o) g m D:=by
 obtain ⟨d,e,f,h⟩:=b;exact ⟨d,gz e a o,f.keepB (NM c),h.keep (grownBy_putObj' w l o) (Other.no a (zL))⟩
theorem Kh (A k c w):Calls an 164 #[.slice A k c] w fun a w'=>a= .returned (.func (.func 235) #[] #[.pointer (some w)])/\w'=w.alloc (.cells #[.slice A k c] 36):=z38
structure SvI (w:World) (g m x3:Nat) (D:Dk) (n:BA) (pre:List Chunk) (W:World):Prop where
 b0:Blk W w 25 [.pointer (some g)]
 b2:Blk W (w+1+1) 9 [.string (shd n)]
 b3: ∃u,Blk W x3 36 [u]
 tw:Tw w W g m
 dk:Dsk W g m (aR D (shd n) (pre.map (·.l))).2
structure SvOn (w:World) (g m x3:Nat) (D:Dk) (n:BA) (pre:List Chunk) (W:World):Prop where
 i:SvI w g m x3 D n pre W
 b1:Blk W (w+1) 30 [.int .i64 0]
 ok:(aR D (shd n) (pre.map (·.l))).1=0
structure SvX (w:World) (g m x3:Nat) (D:Dk) (n:BA) (pre:List Chunk) (W:World):Prop where
 i:SvI w g m x3 D n pre W
 b1:Blk W (w+1) 30 [.int .i64 (aR D (shd n) (pre.map (·.l))).1]
 ok:(aR D (shd n) (pre.map (·.l))).1≠0
section
variable {x3:Nat} {n:BA} {pre:List Chunk} {W:World}
theorem SvI.alloc (a:SvI w g m x3 D n pre W) (o):SvI w g m x3 D n pre (W.alloc o):=
 have b:Below W W (W.alloc o):=(bR _ _).alloc (lR _) _
 ⟨a.b0.alloc o,a.b2.alloc o,by obtain ⟨c,d⟩:=a.b3;exact ⟨c,d.alloc o⟩,a.tw.step (B7 b),a.dk.below b⟩
theorem SvI.put (a:SvI w g m x3 D n pre W) (l o) (b:eC W l) (c:w<=l) (f:m<w):SvI w g m x3 D n pre (W.putObj l o):=
 ⟨gz a.b0 b o,gz a.b2 b o,by obtain ⟨d,e⟩:=a.b3;exact ⟨d,gz e b o⟩,a.tw.new1 (grownBy_putObj' W l o) c,a.dk.put b qO o⟩
theorem SvI.cell (a:SvI w g m x3 D n pre W) (u) (d:w+1+1<x3):SvI w g m x3 D n pre (W.setCell x3 u):=by
 obtain ⟨e,b⟩:=a.b3;have c:W.grownBy (W.setCell x3 u) (some x3):=ae (gR W _) 0 _;exact ⟨a.b0.far (p:=⟨x3,0,none⟩) (by show w≠x3;omega) u,a.b2.far (p:=⟨x3,0,none⟩) (by show w+1+1≠x3;omega) u,⟨u,b.set 0 u⟩,a.tw.new1 c qO,a.dk.keepB b (by decide) (by decide) c⟩
end
theorem qA {W k D' u} (c:Dsk W g m D') (d:Tw w W g m) (a:Blk W (w+1) 30 [u]) (tmps) (e:tmps.getD 6 undef= .pointer (some ⟨w+1,0,none⟩)):
  ∃v,(results Tryz.f99 tmps).run an (W.setCell ⟨w+1,0,none⟩ (.int .i64 k))= .ok v (W.setCell ⟨w+1,0,none⟩ (.int .i64 k))/\da w g m (k,D') (.returned v) (W.setCell ⟨w+1,0,none⟩ (.int .i64 k)):=by
 have f:=a.set 0 (.int .i64 k);have b:W.grownBy (W.setCell ⟨w+1,0,none⟩ (.int .i64 k)) (some (w.heap.size+1)):=ae (gR W _) 0 _;exact ⟨_,xX (p:=6) (ty:=30) qkR _ _ ⟨w+1,0,none⟩ (.int .i64 k) e (xY _ _ _ (by rw [f.cell];rfl)),rfl,c.keepB a (by decide) (by decide) b,d.new1 b qO⟩
theorem qB {W k D' Dd u tmps} (b:Dsk W g m D') (c:Tw w W g m) (d:Blk W (w+1) 30 [.int .i64 k]) (a:W.heap[Dd]?=some (.deferred u)) (f:m<w) (h:w.heap.size<=Dd) (e:tmps.getD 6 undef= .pointer (some ⟨w+1,0,none⟩)):
  ∃v,(results Tryz.f99 tmps).run an (W.putObj Dd (.deferred none))= .ok v (W.putObj Dd (.deferred none))/\da w g m (k,D') (.returned v) (W.putObj Dd (.deferred none)):=
 ⟨_,xX (p:=6) (ty:=30) qkR _ _ ⟨w+1,0,none⟩ (.int .i64 k) e (xY _ _ _ (by rw [(gz d ⟨_,a,rfl⟩ _).cell];rfl)),rfl,b.put ⟨_,a,rfl⟩ qO _,c.new1 (grownBy_putObj' _ _ _) qO⟩
theorem tv (h:Dsk w g m D) (E:OkW D) (n) (u:n.size<=140737488355328) (A b c) (U2:b.length<=140737488355328) (T1:D.l.length+1<=kac) (r1:b.length<=140737488355264) (B) (U1:Far w B A b) (V1:b.length<=c) (W1:c<=maxLen) (V2:B<=w) (e0:B<=g) (B0:B<=m):
  Calls an 99 #[.pointer (some g),.string n,.slice A b c] w (da w g m (ao D n b)):=by
 have X1:n.size+1<=maxLen:=by unfold maxLen;omega
 have f0:(shd n).size<=maxLen:=by rw [gQ];exact X1
 have O0:=(bR w w).alloc (lR _) (.cells #[.pointer (some g)] 25);have P0:=O0.alloc O0.size (.cells #[i0] 30);have s1:=P0.alloc P0.size (.cells #[.string (shd n)] 9);have t1:=((o9 w 25 [.pointer (some g)]).alloc (.cells #[i0] 30)).alloc (.cells #[.string (shd n)] 9);have Q0:=(o9 (w.alloc (.cells #[.pointer (some g)] 25)) 30 [.int .i64 0]).alloc (.cells #[.string (shd n)] 9);have R0:=o9 ((w.alloc (.cells #[.pointer (some g)] 25)).alloc (.cells #[i0] 30)) 9 [.string (shd n)];rw [u7] at Q0;rw [u7,u7] at R0;obtain ⟨g0,O⟩:=gX (((w.alloc (.cells #[.pointer (some g)] 25)).alloc (.cells #[i0] 30)).alloc (.cells #[.string (shd n)] 9));have S0:Blk g0 w 25 [.pointer (some g)]:=by rw [O];exact t1
 have T0:Blk g0 (w+1) 30 [.int .i64 0]:=by rw [O];exact Q0
 have U0:Blk g0 (w+1+1) 9 [.string (shd n)]:=by rw [O];exact R0
 have V0:Below w w g0:=by rw [O];exact s1
 have W0:=h.below V0;have u1:=qI (jj W0 E.ord (shd n) (fun b Y1=>E.small' Y1));obtain ⟨W2,h0⟩:=h.lt;clear t1 Q0 R0 O0 P0 s1;change g0=((w.alloc (.cells #[.pointer (some g)] 25)).alloc (.cells #[i0] 30)).alloc (.cells #[.string (n++⟨#[126]⟩)] 9) at O;refine (callsIn_wide (n:=6)).1 ?_;refine callsIn_of_wp_marks Tryz.func99 rfl trivial ?_ rfl;simp only [Tryz.ntmps99,List.size_toArray,List.length_cons,List.length_nil,Nat.reduceAdd,Nat.reduceSub,Array.replicate_succ,Array.replicate_zero,List.push_toArray,List.append_toArray,List.nil_append,List.cons_append];gi_wp2;rw [<-O];clear O;refine ⟨trivial,?_⟩;refine (callsIn_wide.2 u1.out).mono ?_;rintro o Z1 ⟨a2,X2,Y2,Z2,rfl,b2,U⟩;have j0:=S0.below U S0.lt;have hY4:=T0.below U T0.lt;have k0:=U0.below U U0.lt;have hD4:=W0.below U;have ht4:=B7 (g:=g) (m:=m) (V0.trans (U.mono V0.size));have c2:=j0.c 0;have X0:=hY4.c 0;have z2:=hY4.free 0;have d2:=k0.c 0;clear S0 T0 U0 W0 U b2 u1;obtain ⟨v1,l0⟩:=gX ((aU D (shd n)).2);rw [<-l0];cases P:ab (shd n) with
 | false=>
  have HF:Hid (ao D n b=(1,D)):=if_pos (.inl P);have r:v1=1:=by rw [l0];unfold aU;rw [if_pos P]
  subst r;clear l0 P;gi_wp2;refine ⟨trivial,?_⟩;exact z263
 | true=>
 have a3:(v1==1)=false:=beq_eq_false_iff_ne.2 (by rw [l0];unfold aU;rw [if_neg (by rw [P];decide)];cases aa D.l (shd n)<;>simp);clear l0;by_cases V:n.size=0
 ·have HF:Hid (ao D n b=(1,D)):=if_pos (.inr (.inl V));have e2:=wW V;clear P V;gi_wp2;refine ⟨trivial,?_⟩;exact z263
 have e2:=wX V;have x:=xU n Z1 qO;have eS:decide (n.data.toList.getLast?=some 126)=bi n:=rfl;rw [eS] at x;have s:Hid (ao D n b=if bi n=true then (1,D) else if D.dark=true then (5,D) else if (aa D.l (shd n)).isSome=true then (if (aB D (shd n)).1≠0 then aB D (shd n) else cR (aB D (shd n)).2 n b) else cR D n b):=by
  unfold Hid ao;cases b3:bi n
  ·rw [if_neg (by rw [P];simp [V])];rfl
  rw [if_pos (.inr (.inr rfl))];rfl
 clear P V eS;obtain ⟨tl,w1⟩:=gX (bi n);rw [<-w1] at x s;have x1:=qI x;clear x w1;gi_wp2;refine ⟨trivial,?_⟩;refine (callsIn_wide.2 x1.out).mono ?_;rintro o Y0 ⟨rfl,m0⟩;obtain rfl:=m0.symm;cases tl with
 | true=>
  have HF:Hid (ao D n b=(1,D)):=s.out;clear s;exact z263
 | false=>
 have Z0:=qI (BN hD4);obtain ⟨f2,y1⟩:=gX D.dark;rw [<-y1] at Z0 s;clear y1;gi_wp2;refine ⟨trivial,?_⟩;refine (callsIn_wide.2 Z0.out).mono ?_;rintro o Y0 ⟨rfl,m0⟩;obtain rfl:=m0.symm;cases f2 with
 | true=>
  have HF:Hid (ao D n b=(5,D)):=s.out;clear s;exact z263
 | false=>
 have a1:=qI (jf hD4 E.ord (shd n) f0);obtain ⟨g2,b1⟩:=gH ((aa D.l (shd n)).isSome);rw [<-b1] at a1 s;gi_wp2;refine ⟨trivial,?_⟩;refine (callsIn_wide.2 a1.out).mono ?_;rintro o Y0 ⟨rfl,m0⟩;obtain rfl:=m0.symm;gi_upto_if 36 with (fail);gi_cut [] from 70 (fun n0=> ∃a:Dk,Hid (ao D n b=cR a n b)/\Hid ((aa a.l (shd n)).isSome=false)/\OkW a/\a.l.length+1<=3518437208880/\Dsk n0 g m a/\Tw w n0 g m/\Blk n0 w 25 [.pointer (some g)]/\Blk n0 (w+1) 30 [.int .i64 0]/\Blk n0 (w+1+1) 9 [.string (shd n)])
 case first=>
  cases g2 with
  | false=>
   gi_wp2;gi_meet;exact ⟨D,s.out,b1.symm,E,T1,hD4,ht4,j0,hY4,k0⟩
  | true=>
  have o0:=E.rem (shd n);have c1:(aB D (shd n)).1=0->(aa (aB D (shd n)).2.l (shd n)).isSome=false/\(aB D (shd n)).2.l.length+1<=kac:=by
   intro d;obtain ⟨h2,i2⟩:=pi E.ord d;refine ⟨by rw [h2];rfl,?_⟩;rw [i2];have:=lU D.l (shd n);omega
  have d1:=oj hD4 E (shd n) f0;obtain ⟨C0,a,z1⟩: ∃C0 a,aB D (shd n)=(C0,a):=⟨_,_,rfl⟩;rw [z1] at o0 c1 d1 s;have j2:=qI d1;have k2:=qI c1;clear d1 c1 z1;gi_wp2;refine ⟨trivial,?_⟩;refine (callsIn_wide.2 j2.out).mono ?_;rintro o Y0 ⟨rfl,W,D0⟩;have X:=j0.keepB (D0.block _ j0.lt qO qO);have y:=hY4.keepB (D0.block _ hY4.lt qO qO);have Q:=k0.keepB (D0.block _ k0.lt qO qO);have Y:=ht4.step D0;have l2:=X.c 0;have m2:=y.c 0;have n2:=y.free 0;have e:=Q.c 0;by_cases d:C0=0
  ·obtain ⟨A1,o2⟩:=k2.out d;have HF:Hid (ao D n b=cR a n b):=by unfold Hid;rw [s];simp [d]
   have p2:=qI A1;subst d;clear s A1;gi_wp2;gi_meet;exact ⟨a,HF,p2,o0,o2,W,Y,X,y,Q⟩
  have B1:=beq_eq_false_iff_ne.2 d;have HF:Hid (ao D n b=(C0,a)):=by unfold Hid;rw [s];simp [d]
  clear s d;gi_wp2;rw [HF];exact qA W Y y _ (by rfl)
 case rest=>
 as_aux_lemma=>
 clear j0 hY4 k0 c2 X0 d2 z2 hD4 ht4 s b1 a1 Z0 x1;obtain ⟨a,C1,D1,o0,E1,W,Y,X,y,Q⟩:=hcut;have l2:=X.c 0;have m2:=y.c 0;have n2:=y.free 0;have e:=Q.c 0;have F1:=qI (BM W);gi_wp2;refine ⟨trivial,?_⟩;refine (callsIn_wide.2 F1.out).mono ?_;rintro o e1 ⟨rfl,R⟩;obtain rfl:=R.symm;have f1:=xT n (b.length:Int) wc u qO qO;rw [show max (b.length:Int) 0=b by omega] at f1;have G1:=qI f1;obtain ⟨H1,g1⟩:=gX (frD a);have E0:Hid (ao D n b=if H1<16+((n.size:Int)+1)+b then (4,a) else ev a n b):=by unfold Hid;rw [g1];exact C1.out
 rw [<-g1];clear f1 g1 C1 F1;by_cases Z:H1<16+((n.size:Int)+1)+b
 ·have q2:=dT Z;have HF:=qI (E0.out.trans (if_pos Z));clear E0 Z;gi_wp2;refine ⟨trivial,?_⟩;refine (callsIn_wide.2 G1.out).mono ?_;rintro o e1 ⟨rfl,R⟩;obtain rfl:=R.symm;gi_wp2;rw [HF];exact qA W Y y _ (by rfl)
 have q2:=qF Z;have h1:=qI (E0.out.trans (if_neg Z));clear E0 Z;gi_wp2;refine ⟨trivial,?_⟩;refine (callsIn_wide.2 G1.out).mono ?_;rintro o e1 ⟨rfl,R⟩;obtain rfl:=R.symm;have F0:=Kh A b c wc;obtain ⟨K,p0⟩:=gX (wc.alloc (.cells #[.slice A b c] 36));rw [<-p0] at F0;have a0:Below wc wc K:=by rw [p0];exact (bR _ _).alloc (lR _) _
 have i1:Blk K wc 36 [.slice A b c]:=by rw [p0];exact o9 _ _ _
 have I1:K.heap.size=wc+1:=by rw [p0];simp
 clear p0;have r2:=X.below a0 X.lt;have s2:=y.below a0 y.lt;have t2:=Q.below a0 Q.lt;have u2:=W.below a0;have v2:=(Y).step (B7 a0);have w2:=Q.lt;have x2:=U1.tw (Y) (h.others e0 B0).1 (h.others e0 B0).2;have y2:=x2.below a0;obtain ⟨e,J1⟩:=gX wc.heap.size;rw [<-J1] at F0 i1 I1 w2;have c3:e<K:=qO;clear J1 I1;have A2:=qI F0;clear F0;gi_wp2;refine ⟨trivial,?_⟩;refine (callsIn_wide.2 A2.out).mono ?_;rintro o e1 ⟨rfl,R⟩;obtain rfl:=R.symm;gi_wp2;have B2: ∀{A K1 L1:World},ChK B e A K1->ChK B e K1 L1->ChK B e A L1:=fun h G0=>⟨fun S b0=>G0.1 S (h.1 S b0),fun A l q0=>G0.2 A l (h.2 A l q0)⟩;have C2: ∀f l j,K.heap.size<=l->eC f l->ChK B e f (f.putObj l j):=fun f l j j1 u=>⟨fun S b0=>gz b0 u j,fun A a2 q0=>q0.keep (grownBy_putObj' f l j) (Other.no u qO)⟩;have D2:=Kg Fence.wide 5 trivial rfl qO e B b A c K i1 y2 V1 W1 qO;have E2:SvOn w g m e a n [] K:=⟨⟨r2,t2,⟨_,i1⟩,v2,u2⟩,s2,rfl⟩;refine Ke (p:=52) (q:=11) rfl qO (gf:=235) (lb:=#[.pointer (some e)]) rfl trivial (enters_of Tryz.func235 qkR rfl) D2 qO B2 C2 (bR _ _) (SvOn w g m e a n) (SvX w g m e a n)
  (fun v f j h=>⟨h.i.alloc j,h.b1.alloc j,h.ok⟩)
  (fun v f l j j1 u h=>⟨h.i.put l j u qO h0,gz h.b1 u j,h.ok⟩)
  (fun v f S h=>⟨h.i.cell S qO,h.b1.far (p:=⟨e,0,none⟩) (by show w+1≠e;omega) S,h.ok⟩)
  (fun v f l j j1 u h=>⟨h.i.put l j u qO h0,gz h.b1 u j,h.ok⟩)
  (fun v k1 f l j j1 u l1=>⟨l1.1,l1.2.1.keep (grownBy_putObj' f l j) (Other.no u qO),l1.2.2⟩)
  E2 ?assign ?body ?done ?stop
 case assign=>
  intro l k1 f d3 E;gi_wp2;exact E
 case body=>
  intro l v k1 f r0 F2;obtain ⟨s0,M1,N1⟩:=k1;obtain ⟨⟨L,M,⟨O1,H0⟩,t0,z⟩,T,F⟩:=r0;obtain ⟨e3,G2,_,_,f3,P1⟩:=F2;have m1:=wZ (c:=s0) F;have u0:Hid ((v++[(⟨s0,M1,N1⟩:Chunk)]).map (·.l)=v.map (·.l)++[s0]):=qI (by simp);obtain ⟨G,N⟩:=gX ((aR a (shd n) (v.map (·.l))).2);have I0:OkW G:=by rw [N];exact o0.pre D1 E1 r1 P1
  clear P1;rw [<-N] at z m1;have H2:=qI (Cg z I0 (shd n) f0 B M1 s0 N1 G2 e0);have I2:=L.c 0;have X0:=M.c 0;obtain ⟨H,d⟩:=gX ((aF G (shd n) s0).1);have v0:=qI m1;have I:=qI d;clear m1 N;simp only [List.setIfInBounds_toArray,List.set_cons_succ,List.set_cons_zero,Chunk.val];gi_wp2;refine ⟨trivial,?_⟩;refine (CallsIn.inRound l (callsIn_wide.2 H2.out)).mono ?_;rintro o C ⟨rfl,c0,k⟩;rw [<-I];have w0:=L.keepB (k.block _ L.lt qO qO);have r:=T.keepB (k.block _ T.lt qO qO);have J0:=M.keepB (k.block _ M.lt qO qO);have Q1:=H0.keepB (k.block _ H0.lt qO qO);have J2:KeepsFrom K f C:=⟨k.size,fun G0 j g3 R1 h3=>(k.block G0 (j7.1 R1).1 qO qO).trans R1⟩;have i3:ChK B e f C:=⟨fun S b0=>b0.keepB (k.block e b0.lt qO qO),fun A l q0=>q0.tw k (z.others e0 B0).1 (z.others e0 B0).2⟩;have x0:=t0.step k;have K2:=w0.c 0;have L2:=r.c 0;have M2:=r.free 0;by_cases t:H=0
  ·have n1:=qI t;rw [t];clear d t;gi_wp2;refine ⟨⟨w0,J0,⟨_,Q1⟩,x0,?_⟩,r,?_⟩
   ·rw [u0,v0];exact c0
   rw [u0,v0,<-I];exact n1.out
  have B1:=beq_eq_false_iff_ne.2 t;have n1:=qI t;clear d t;gi_wp2;have J:C.grownBy (C.setCell ⟨w+1,0,none⟩ (.int .i64 H)) (some (w.heap.size+1)):=ae (gR C _) 0 _;refine ⟨J2.trans (KeepsFrom.of_grownBy J (fun j3 o=>by injection o with o;omega)),⟨⟨w0.far (p:=⟨w+1,0,none⟩) (by show w.heap.size≠w+1;omega) _,J0.far (p:=⟨w+1,0,none⟩) (by show w.heap.size+1+1≠w+1;omega) _,⟨_,Q1.far (p:=⟨w+1,0,none⟩) (by show e≠w+1;omega) _⟩,x0.new1 J qO,?_⟩,?_,?_⟩⟩
  ·rw [u0,v0];exact c0.keepB r (by decide) (by decide) J
  ·rw [u0,v0,<-I];exact r.set 0 _
  rw [u0,v0,<-I];exact n1.out
 case done=>
  intro y0 N2 f O2 x r0 z0;obtain ⟨⟨L,M,⟨O1,H0⟩,t0,z⟩,T,F⟩:=r0;change N2.map (·.l)=aS b at x;rw [x] at z F;obtain ⟨G,N⟩:=gX ((aR a (shd n) (aS b)).2);have I0:OkW G:=by rw [N];exact o0.pre D1 E1 r1 (List.append_nil _).symm
  have K0:Hid (ev a n b=eG G n):=qI (by unfold ev;rw [if_neg (by rw [F];simp),N]);rw [<-N] at z;have P2:=qI (Cb z I0 (shd n) f0);have I2:=L.c 0;have X0:=M.c 0;obtain ⟨H,d⟩:=gX ((bd G (shd n)).1);obtain ⟨d0,L0⟩:=gH ((bd G (shd n)).2);have Q2:OkW d0:=by rw [L0];exact I0.sync _
  have I:=qI d;clear N x F;gi_wp2;refine ⟨trivial,?_⟩;refine (callsIn_wide.2 P2.out).mono ?_;rintro o C ⟨rfl,c0,k⟩;rw [<-I];rw [<-L0] at c0;have w0:=L.keepB (k.block _ L.lt qO qO);have r:=T.keepB (k.block _ T.lt qO qO);have J0:=M.keepB (k.block _ M.lt qO qO);have x0:=t0.step k;have o1:=(k.block _ (j7.1 z0).1 qO qO).trans z0;have K2:=w0.c 0;have k3:=J0.c 0;have L2:=r.c 0;have M2:=r.free 0;by_cases t:H=0
  ·have HF:Hid (eG G n=bx d0 (shd n) n):=by
    unfold Hid eG;rw [if_neg (by rw [<-I,t];simp),<-L0]
   have R2:=qI (Cj c0 Q2 (shd n) n f0 qO);rw [t];clear d t;gi_wp2;refine ⟨trivial,?_⟩;refine (callsIn_wide.2 R2.out).mono ?_;rintro o M0 ⟨rfl,S2,p1⟩;have N0:=r.keepB (p1.block _ r.lt qO qO);have ht4:=x0.step p1;have T2:=(p1.block _ (j7.1 o1).1 qO qO).trans o1;have l3:=N0.c 0;have m3:=N0.free 0;gi_wp2;rw [h1,K0,HF];have J:M0.grownBy (M0.setCell ⟨w+1,0,none⟩ (.int .i64 (bx d0 (shd n) n).1)) (some (w.heap.size+1)):=ae (gR M0 _) 0 _;have q1:=N0.set 0 (.int .i64 (bx d0 (shd n) n).1);have A0:(M0.setCell ⟨w+1,0,none⟩ (.int .i64 (bx d0 (shd n) n).1)).heap[y0]?=some (.deferred (some [])):=(F9 _ _ _ _ (by show y0≠w+1;omega)).trans T2;exact ⟨by simp,.inl ⟨_,_,rfl,run_takeDeferred A0,qB (S2.keepB N0 (by decide) (by decide) J) (ht4.new1 J qO) q1 A0 h0 qO (by rfl)⟩⟩
  have B1:=beq_eq_false_iff_ne.2 t;have HF:Hid (eG G n=(H,d0)):=by
   unfold Hid eG;rw [if_pos (by rw [<-I];exact t),I,L0]
  clear d t;gi_wp2;rw [h1,K0,HF];have J:C.grownBy (C.setCell ⟨w+1,0,none⟩ (.int .i64 H)) (some (w.heap.size+1)):=ae (gR C _) 0 _;have q1:=r.set 0 (.int .i64 H);have A0:(C.setCell ⟨w+1,0,none⟩ (.int .i64 H)).heap[y0]?=some (.deferred (some [])):=(F9 _ _ _ _ (by show y0≠w+1;omega)).trans o1;exact ⟨by simp,.inl ⟨_,_,rfl,run_takeDeferred A0,qB (c0.keepB r (by decide) (by decide) J) (x0.new1 J qO) q1 A0 h0 qO (by rfl)⟩⟩
 case stop=>
  intro y0 v f O2 x r0 z0;obtain ⟨⟨L,M,⟨O1,H0⟩,t0,z⟩,T,F⟩:=r0;obtain ⟨H,d⟩:=x;have S1:aR a (shd n) (aS b)=aR a (shd n) (v.map (·.l)):=by rw [d];exact xc F
  have K0:Hid (ev a n b=aR a (shd n) (v.map (·.l))):=qI (by unfold ev;rw [S1,if_pos F]);clear S1 d F;gi_wp2;rw [h1,K0];exact ⟨by simp,.inl ⟨_,_,rfl,run_takeDeferred z0,qB z t0 T z0 h0 qO (by rfl)⟩⟩
end
