/- Walks and laws. Conditions: as stated. -/
import Derived.Test.YtecpbcmpncgokaaGreatDeltaA
set_option maxRecDepth 99999
set_option maxHeartbeats 25600000
set_option linter.all false
open List renaming length->PK
open Go.Proofs.Tryz renaming prog->an
open Go.RowKit Go.Dol
namespace Go.Dol
def RevTo (l r:LU) (k:Nat):Prop:=r.length=l/\ ∀a,a<l.length->r[a]?=if a<k\/l-k<=a then l[l.length-1-a]? else l[a]?
theorem RevTo.zero (l):RevTo l l 0:=⟨rfl,fun a b=>by rw [if_neg qO]⟩
theorem RevTo.step {l r k x y} (h:RevTo l r k) (o:k+1<l-k) (i:r[k]?=some x) (j:r[l-1-k]?=some y):RevTo l ((r.set k y).set (l-1-k) x) (k+1):=by
 obtain ⟨m,b⟩:=h;refine ⟨by simpa using m,fun a n=> ?_⟩;have e:=b k qO;rw [if_neg qO,i] at e;have f:=b (l-1-k) qO;rw [if_neg qO,j] at f;rw [List.getElem?_set,List.getElem?_set];by_cases c:l-1-k=a
 ·rw [if_pos c,if_pos (by simp;omega),if_pos qO,<-c,show l.length-1-(l-1-k)=k by omega];exact e
 rw [if_neg c];by_cases d:k=a
 ·rw [if_pos d,if_pos qO,if_pos qO,<-d];exact f
 rw [if_neg d,b a n];by_cases g:a<k\/l-k<=a
 ·rw [if_pos g,if_pos qO]
 rw [if_neg g,if_neg qO]
theorem RevTo.end {l r k} (c:RevTo l r k) (e:l<=2*k+1):r=l.reverse:=by
 obtain ⟨f,d⟩:=c;apply N8;intro b;rcases D8 b l.length with a | a
 ·rw [d b a,NY a];split
  ·rfl
  congr 1;omega
 rw [C8 qO,C8 (by rw [NB];omega)]
theorem AW {w base e A c n xs} (i:w.ownsRow base e 1 (.slice A n c) n xs) (q:0<n):
  ∃g d,A=some ⟨g,0,none⟩/\Blk w g e (xs++d)/\base<=g/\(xs++d).length=c/\n<=c/\c<=maxLen:=by
 rcases i.2 with ⟨a,_⟩ | ⟨g,r,b,a,j,k,l,m,o,p⟩
 ·injection a with a f s;omega
 injection a with a _ f;subst f;have h:xs++b.toList.drop (n*1)=b.toList:=by rw [<-p,r8]
 refine ⟨g,b.toList.drop (n*1),a,?_,j,?_,l,m⟩
 ·rw [h];exact k
 rw [h,v7,o,s9]
theorem AX {w base e g c n xs tail} (b:Blk w g e (xs++tail)) (d:base<=g) (a:(xs++tail).length=c) (f:xs.length=n) (h:c<=maxLen):w.ownsRow base e 1 (.slice (some ⟨g,0,none⟩) n c) n xs:=by
 refine ⟨qO,.inr ⟨g,c,(xs++tail).toArray,rfl,d,b,?_,h,by simpa using a,?_⟩⟩
 ·rw [<-a,b7];omega
 rw [s9,<-f];simp
def eJ (base:LU) (size:Nat) (b p:LU):Option (LU×LU):=
 match ad p with
 | none=>none
 | some (a,c)=>
  if a%2=0 then
   if a/2+1<=size-b/\a/2+1<=c then some (b++c.take (a/2+1),c.drop (a/2+1)) else none
  else
   match ad c with
   | none=>none
   | some (d,e)=>if a/2+1<=size-b/\d+(a/2+1)<=base then some (b++(base.drop d).take (a/2+1),e) else none
theorem Bl {base size o p} (e:p≠[]) (a:eJ base size o p=none):dGo base size o p=none:=by
 unfold eJ at a;cases b:ad p with
 | none=>exact rG e b
 | some f=>
 obtain ⟨g,h⟩:=f;rw [b] at a;simp only at a;by_cases c:g%2=0
 ·rw [if_pos c] at a;rw [ja b c];split at a
  ·cases a
  rw [if_neg (by assumption)]
 rw [if_neg c] at a;cases d:ad h with
 | none=>exact nC b qO d
 | some i=>
 obtain ⟨j,k⟩:=i;rw [d] at a;simp only at a;rw [jb b qO d];split at a
 ·cases a
 rw [if_neg (by assumption)]
theorem Bm {base size o p o' p'} (a:eJ base size o p=some (o',p')):dGo base size o p=dGo base size o' p'/\o'.length<=size/\p'.length<p.length:=by
 unfold eJ at a;cases b:ad p with
 | none=>rw [b] at a;cases a
 | some h=>
 obtain ⟨i,j⟩:=h;have l:=bL b;rw [b] at a;simp only at a;by_cases f:i%2=0
 ·rw [if_pos f] at a;rw [ja b f];split at a
  ·rename_i g;injection a with a;injection a with c d;rw [if_pos g,c,d];refine ⟨rfl,?_,?_⟩
   ·rw [<-c,b7,b9];omega
   rw [<-d,b8];omega
  cases a
 rw [if_neg f] at a;cases e:ad j with
 | none=>rw [e] at a;cases a
 | some k=>
 obtain ⟨m,n⟩:=k;have q:=bL e;rw [e] at a;simp only at a;rw [jb b qO e];split at a
 ·rename_i g;injection a with a;injection a with c d;rw [if_pos g,c,d];refine ⟨rfl,?_,?_⟩
  ·rw [<-c,b7,b9];omega
  rw [<-d];omega
 cases a
end Go.Dol
namespace Go.Proofs.YtecpbcmpncgokaaGreat
theorem nL (A a c A2 b c2 w B B2) (hr:Rd w B 1 A a.length (bc a)) (hr2:Rd w B2 1 A2 b.length (bc b)) (ha:a.length<=kaa) (e:b.length<=kaa):
  Calls an 284 #[.slice A a c,.slice A2 b c2] w fun d w'=>d= .returned (.int .i64 (begins a b:Nat))/\ ∃n,w'=w.drewN n:=by
 go_in;go_wp2_with fail;go_loopw [5] (fun n wr=>rS a b w n wr) (fun n _=>a-(intOf n).toNat)
 case atStart=>exact ⟨0,0,rfl,qO,qO,fun j hj=>by omega,rfl⟩
 case round=>
  exact z216
def AY (l:LU) (a:List Value) (g:Nat) (w:World) (i j:Value) (wr:World):Prop:=
 ∃(k:Nat) (r:LU),i= .int .i64 (k:Nat)/\j= .int .i64 (l-1-k)/\2*k<=l/\Hid (RevTo l r k)/\Blk wr g 5 (bc r++a)/\w.grownBy wr (some g)
theorem AZ (g l tail c w) (s:Blk w g 5 (bc l++tail)) (F:0<l.length) (G:l.length<=kaa):
  Calls an 298 #[.slice (some ⟨g,0,none⟩) l c] w fun u w'=>u= .returned (.tuple #[])/\Blk w' g 5 (bc l.reverse++tail)/\w.grownBy w' (some g):=by
 go_in;go_wp2_with fail;go_loopw [2,3] (fun i v wr=>AY l tail g w i v wr) (fun i _ _=>l-(intOf i).toNat)
 case atStart=>exact ⟨0,l,rfl,by go_num,qO,RevTo.zero l,s,gR w _⟩
 case round=>
  clear s;obtain ⟨k,f,rfl,rfl,H,j,e,t⟩:=hrel;have m:=j.1;have I:=qiJ (k+1);have J:=qiJ (l-1-k-1);by_cases x:k+1<l-k
  ·have y:=dtX ((k:Int)<l-1-k);have z:(k:Int)<l-1-k:=qO;obtain ⟨b,n⟩: ∃b,f[k]?=some b:=⟨_,gE qO⟩;obtain ⟨a,o⟩:=gX (l-1-k);obtain ⟨d,q⟩: ∃d,f[a]?=some d:=⟨_,gE qO⟩;have r:=j.out.step x n (by rw [<-o];exact q);rw [<-o] at r;have A:=qI r;have K:wr.cell? ⟨g,k,none⟩=some (.int .u8 b.toNat):=by rw [e.cell,G9 (by simp [bc];omega)];simp [bc,n]
   have L:wr.cell? ⟨g,a,none⟩=some (.int .u8 d.toNat):=by rw [e.cell,G9 (by simp [bc];omega)];simp [bc,q]
   have M:=e.free k;have z2:=e.free a;have N:k≠a:=qO;have O:((l:Int)-1-k).toNat=a:=qO;have P:(0:Int)<=(l:Int)-1-k:=qO;have Q:=ltI k l.length;have B:=qI m;clear r n q o m;go_wp2_with fail;go_region;go_wp2_with fail;refine ⟨⟨k+1,(f.set k d).set a b,by go_num,congrArg (Value.int IntKind.i64) qO,qO,A,?_,fa (ae (ae t k _) a _)⟩,by simp [intOf];omega⟩;have C:=((e.set k (.int .u8 d.toNat)).set a (.int .u8 b.toNat)).drew;have D:(((bc f++tail).set k (.int .u8 d.toNat)).set a (.int .u8 b.toNat))=bc ((f.set k d).set a b)++tail:=by
    have:=B.out;rw [Oq _ _ (by simp [bc];omega),Oq _ _ (by simp [bc];omega)];simp [bc,List.map_set]
   rw [<-D];exact C
  have y:=dfX ((k:Int)<l-1-k);have z: ¬(k:Int)<l-1-k:=qO;have E:=qI (j.out.end qO);clear m;go_wp2_with fail;go_end0;rw [<-E];exact ⟨rfl,e,t⟩
theorem Ba (A c w):Calls an 298 #[.slice A 0 c] w fun a w'=>a= .returned (.tuple #[])/\w=w':=by
 go_in;go_wp2_with fail;refine wp_loop_rounds 1 ?_;rw [rounds_succ];go_wp2_with fail;go_end0;exact ⟨rfl,rfl⟩
theorem Bb (A l c w) (q:Rd w w.heap.size 1 A l.length (bc l)) (i:l.length<=kaa):
  Calls an 285 #[.slice A l c] w (ep 5 w l.reverse):=by
 go_in;go_wp2_with fail;refine (iW A l c w q i).mono ?_;rintro j k ⟨b,m,d,e,rfl,f,h,r,s⟩;have t:b.length<=kaa:=by rw [e];exact i
 rcases p7 b.length with a | a
 ·have u:=nZ a;subst u;have v:Hid (l=[]):=e.symm;clear a e;go_wp2_with fail;refine (Ba m d k).mono ?_;rintro j x ⟨rfl,rfl⟩;go_wp2_with fail;go_ret;exact ⟨[],m,d,by rw [v];rfl,rfl,f,h,r,s⟩
 obtain ⟨g,y,rfl,z,n,o,B,p⟩:=AW f a;have C:=qI o;clear o f;go_wp2_with fail;refine (AZ g b y d k z a t).mono ?_;rintro j x ⟨rfl,D,E⟩;go_wp2_with fail;go_ret;refine ⟨b.reverse,some ⟨g,0,none⟩,d,by rw [e];rfl,by rw [NB];rfl,?_,h.trans (ak E n h.size),by rw [NB];exact B,p⟩;refine AX D n ?_ (bC _) p;have:=C.out;simp [bc] at this ⊢;exact this
theorem nM:Go.Maps.Keyed an 344:=
 Go.Maps.Keyed.of_law (deep_law_laid (m:=2) qkR (by decide) (of_decide_eq_true qkR) qkR (by rw [J9]))
theorem rZ (K) (a:K.length=16): ∃b,keyOf an 344 (kvB K)=some b:=
 sa (n:=16) J9 qkR qkR z8 qkR ⟨an.types.size-1,by kernel_rfl⟩ K a
theorem sb (w):(zeroValue 3).run an w= .ok i0 w:=qkR
theorem _root_.Go.Dol.rd_of_blk {w g T cs n} (a:Blk w g T cs) (c:cs.length=n):Rd w (g+1) 1 (some ⟨g,0,none⟩) n cs:=
 ⟨qO,fun _=>⟨g,0,rfl,qO,fun d e b=>by rw [x9,a.cell];exact b⟩⟩
def Bc (b:LU) (w:World) (d:Ending) (w':World):Prop:=
 ∃a c,d= .returned (.map (some w.heap.size))/\MapL an 344 w' w c/\Hid (Idx b a c/\16*a<=b.length/\b.length<16*a+16)/\Below w w w'
def Bd (b:LU) (w:World) (k:Value) (wr:World):Prop:=
 ∃(n a:Nat) (c:List (Value×Value)),k= .int .i64 (a:Nat)/\Hid (a=16*n)/\a<=b/\MapL an 344 wr w c/\Hid (Idx b n c)/\Below w w wr
theorem Be (A b c w) (Q:Rd w w.heap.size 1 A b.length (bc b)) (f0:b.length<=kaf) (R:b.length<=c) (S:c<=maxLen):
  Calls an 299 #[.slice A b c] w (Bc b w):=by
 go_in;have T:=@run_makeMap an;go_wp2_with fail;clear T;have j:MapL an 344 (w.alloc (.map #[] 0)) w []:=Pn w;have l:Below w w (w.alloc (.map #[] 0)):=(bR _ w).alloc (lR _) _;obtain ⟨g0,y⟩:=gX (w.alloc (.map #[] 0));rw [<-y] at j l ⊢;clear y;go_loopw [4] (fun k wr=>Bd b w k wr) (fun k _=>b+1-(intOf k).toNat)
 case atStart=>exact ⟨0,0,[],rfl,rfl,zL,j,Idx.nil b,l⟩
 case round=>
  clear j l;obtain ⟨d,a,n,rfl,e,h0,z,o,g⟩:=hrel;have U:=qiJ (a+16);by_cases p:a+16<=b
  ·have V:=dtX ((a:Int)+16<=b);have W:(a:Int)+16<=b:=qO;have B:=Q.below g;obtain ⟨m,q,X,C,j0,k0,⟨D,l0,m0⟩,_,_,_,Y⟩:=fx (lo:=a) (hi:=a+16) (a:Int) ((a:Int)+16) rfl qO B qO p R S;have E:m.length=16:=qO;have Z:(Instr.arrayAt 344 (.slice q m X)).run an wr= .ok (.pointer q) wr:=run_arrayAt wr _ _ 16 _ _ _ J9 qO;have r:Hid (m=(b.drop (16*d)).take 16):=by unfold Hid;rw [C,e,show 16*d+16-16*d=16 by omega]
   have h:=qI E;clear E C;have s:Hid ((bc m).length=16):=qI (by rw [bC];exact h.out);have F:=o9 wr 344 (bc (List.replicate 16 (0:UInt8)));have G:=bAl wr (.cells (bc (List.replicate 16 (0:UInt8))).toArray 344);go_wp2_with (first | (refine jd rfl 344 _ rfl q rfl _ m (bc m) _ D (by have:=h.out;omega) J9 rfl (by rw [h];kernel_rfl) ?_) | (refine dy rfl 344 _ _ rfl wr.heap.size (bc m) rfl rfl 344 (bc (List.replicate 16 (0:UInt8))) F (by rw [s];kernel_rfl) (by rw [s];rfl) (fW _) ?_));intro w5 a0 H;have t:=G.trans (ak H (lR _) (by simp));have i:=z.belowW t;have u:=g.trans (t.mono g.size);have I:=rd_of_blk a0 s.out;obtain ⟨n0,J⟩:=rZ m h.out;clear F G H t Y Z D B U;rcases i.look nM Pu (sb w5) J true with ⟨K,f⟩ | ⟨L,M,f⟩
   ·have b0:(Instr.lookup 341 (.map (some w.heap.size)) (.agg (bc m).toArray) true).run an w5= .ok (.tuple #[i0,false]) w5:=f;obtain ⟨v,c0,N,d0,O,P⟩:=i.update nM Pu J (.int .i64 (a:Nat));have o0:(Instr.mapUpdate 341 (.map (some w.heap.size)) (.agg (bc m).toArray) (.int .i64 (a:Nat))).run an w5= .ok () c0:=N;have x:Hid (Idx b (d+1) v):=by
     unfold Hid;have:=o.out.put (al':=v) (by rw [<-r];exact K) (by rw [<-r,<-e];exact O);exact this
    have e0:=u.trans (ak P (lR _) u.size);clear f N K O i P;go_wp2_with (refine jd rfl 344 _ rfl _ rfl _ 16 (bc m) _ I (by decide) J9 rfl qkR ?_);exact ⟨⟨d+1,a+16,v,by go_num,by unfold Hid;rw [e];omega,p,d0,x,e0⟩,by simp [intOf];omega⟩
   have b0:(Instr.lookup 341 (.map (some w.heap.size)) (.agg (bc m).toArray) true).run an w5= .ok (.tuple #[L,true]) w5:=f;have x:Hid (Idx b (d+1) n):=o.out.met (v:=L) (by rw [<-r];exact M);clear f M;go_wp2_with (refine jd rfl 344 _ rfl _ rfl _ 16 (bc m) _ I (by decide) J9 rfl qkR ?_);exact ⟨⟨d+1,a+16,n,by go_num,by unfold Hid;rw [e];omega,p,i,x,u⟩,by simp [intOf];omega⟩
  have V:=dfX ((a:Int)+16<=b);have W: ¬(a:Int)+16<=b:=qO;go_wp2_with fail;go_ret;exact ⟨d,n,rfl,z,⟨o.out,by have:=e.out;omega,by have:=e.out;omega⟩,g⟩
def Wr (w:World) (base g:Nat) (l:LU):Prop:=
 ∃a b,Blk w g 328 [.slice a l b]/\Rd w w 1 a l (bc l)/\base<=g/\l.length<=b/\b<=maxLen/\(0<l.length-> ∀c,au a=some c->base<=c)
theorem kO {w:World} {base b e size A n c xs} (h:w.ownsRow b e size (.slice A n c) n xs) (a:base<=b):0<n-> ∀k,au A=some k->base<=k:=by
 intro d k hk;exact z51
def nO (w:World) (base g:Nat) (l:LU) (b:Ending) (w':World):Prop:=
 b= .returned (.tuple #[])/\(∃a,Hid (a=l)/\Wr w' base g a)/\w.grownBy w' (some g)
theorem Wr.belowW {w w' base g l} (c:Wr w base g l) (a:Below w.heap.size w w'):Wr w' base g l:=by
 obtain ⟨d,e,b,f,h,i⟩:=c;exact ⟨d,e,b.below a b.lt,f.aliveD a,h,i⟩
theorem nP (base g n k:Nat) (l w) (h:Wr w base g l) (K:n<=kaf) (L:k<=kaf) (M:l.length+18<=kaa):
  Calls an 286 #[.pointer (some g),n,k] w (nO w base g (l++bB n k)):=by
 by_cases a:n=0
 ·subst a;go_in;go_wp2_with fail;go_end0;exact ⟨rfl,⟨l,by simp [Hid,bB],h⟩,gR w _⟩
 obtain ⟨j,m,b,o,q,N,O,_⟩:=h;have r:=b.c 0;have s:=b.lt;have P:=dtX (0<(n:Int));have Q:=ltI 0 n;have R:0<n:=qO;have S:=qiJ (n-1);have T:IntKind.i64.wrap (2*(n-1))=2*((n:Int)-1):=qJ qO;have U:IntKind.i64.wrap (2*(n-1)+1)=2*((n:Int)-1)+1:=qJ qO;have t:Hid (aj (2*((n:Int)-1)+1)=2*(n-1)+1):=by unfold Hid aj;omega
 have u:Hid (aj (k:Int)=k):=by unfold Hid aj;omega
 have v:=qI a;clear a;go_in;go_wp2_with fail;refine (dL j l m _ w o qO).mono ?_;rintro x y ⟨d,z,A,e1,rfl,B,e,V,W⟩;have X:d.length<=l+9:=by
  exact z269
 go_wp2_with fail;refine (dL z d A _ y (d8 B) qO).mono ?_;rintro x C ⟨D,E,F,G,rfl,f,H,I,J⟩;have i:=e.next H;have c:=b.below i s;have Y:=c.c 0;have z2:=c.free 0;have Z:=e.size;clear r;go_wp2_with fail;go_end0;refine ⟨rfl,⟨D,?_,E,F,c.set 0 _,?_,q,I,J,kO f qO⟩,ae (ax i _) 0 _⟩
 ·unfold Hid bB;rw [G,e1,t,u,if_neg v.out,g9]
 exact d8 (fX f (ae (gR C _) 0 _) qO)
theorem sd (base g l A2 x c2 w) (h:Wr w base g l) (m:Rd w w.heap.size 1 A2 x.length (bc x)) (K:l.length+9+x<=kaa):
  Calls an 300 #[.pointer (some g),.slice A2 x c2] w (nO w base g (l++aH x)):=by
 rcases p7 x.length with a | a
 ·have n:=nZ a;subst n;clear a;go_in;go_wp2_with fail;go_end0;exact ⟨rfl,⟨l,by simp [Hid,aH],h⟩,gR w _⟩
 obtain ⟨o,q,b,r,s,L,M,_⟩:=h;have t:=b.c 0;have u:=b.lt;have N:=dtX (0<(x:Int));have v:Hid (x≠[]):=fun f=>by rw [f] at a;simp at a
 have O:=qiJ (x-1);have P:IntKind.i64.wrap (2*(x-1))=2*((x:Int)-1):=qJ qO;have y:Hid (aj (2*((x:Int)-1))=2*(x-1)):=by unfold Hid aj;omega
 go_in;go_wp2_with fail;refine (dL o l q _ w r qO).mono ?_;rintro f z ⟨c,Q,R,i,rfl,A,d,S,T⟩;have U:c.length<=l+9:=by
  rw [i,b7];have:=aJ 8 (aj (2*((x:Int)-1))) (by have:=eE (2*((x:Int)-1));unfold av at this;omega);omega
 have B:=m.aliveD d;go_wp2_with (at_builtin;refine bQ rfl (.tmp 16) (.tmp 17) rfl w.heap.size _ c.length c rfl A z.heap.size A2 x.length c2 x rfl B (by omega) d.size ?_);intro C D E F G j H _ _ I J;have k:=d.trans H;have e:=b.below k u;have V:=e.c 0;have z2:=e.free 0;clear t;go_wp2_with fail;go_end0;refine ⟨rfl,⟨C,?_,D,E,e.set 0 _,?_,s,I,J,kO j (by omega)⟩,ae (ax k _) 0 _⟩
 ·unfold Hid aH;rw [G,i,y,if_neg v.out,g9]
 exact d8 (fX j (ae (gR F _) 0 _) qO)
def Bf (T b m:LU) (base g:Nat) (w:World) (e i:Value) (wr:World):Prop:=
 ∃(a c:Nat) (d:LU),e= .int .i64 c/\i= .int .i64 a/\c<=a/\a<=m/\Hid (T=d++cS b m a c)/\Wr wr base g d/\w.grownBy wr (some g)
theorem Bg (base g l A b c A2 m c2 w) (n:Wr w base g l) (I:Rd w base 1 A b.length (bc b)) (V:Rd w base 1 A2 m.length (bc m))
  (x0:b.length<=kah) (y0:m.length<=kah) (z0:l.length<=16777241) (W:b.length<=c) (X:c<=maxLen) (y:m.length<=c2) (z:c2<=maxLen):
  Calls an 287 #[.pointer (some g),.slice A b c,.slice A2 m c2] w (nO w base g (l++eZ b m)):=by
 have Y:Hid ((eZ b m).length<=16777220):=by unfold Hid eZ;have:=rQ x0 y0 m 0 0 (lR _) (zL);omega
 obtain ⟨o,f⟩:=gX (l++eZ b m);have Z:Hid (o.length<=33554461):=by unfold Hid;rw [f,b7];have:=Y.out;omega
 rw [<-f];have a0:Hid (o=l++cS b m 0 0):=by unfold Hid;rw [f,rW]
 clear f Y;have j1:base<=g/\g<w:=by obtain ⟨_,_,B,_,A0,_⟩:=n;exact ⟨A0,B.lt⟩
 go_in;go_wp2_with fail;refine (Be A b c w (I.more qO) qO W X).mono ?_;rintro r J ⟨k1,l1,rfl,b0,C,p⟩;have m1:=p.size;have B:=n.belowW p;have B0:=I.below (p.mono qO);have C0:=V.below (p.mono qO);have D0:=ax p (some g);clear n p I V;obtain ⟨K,c0⟩:=gX w.heap.size;rw [<-c0] at b0 ⊢;have E0:some K≠some g:=by intro r;injection r;omega
 clear c0;go_wp2_with fail;go_loopw [7,8] (fun F0 i wr=>Bf o b m base g J F0 i wr) (fun _ i _=>m-(intOf i).toNat)
 case atStart=>exact ⟨0,0,l,rfl,rfl,lR _,zL,a0,B,gR J _⟩
 case round=>
  clear B a0 z0;obtain ⟨a,j,l,rfl,rfl,G0,d0,f,D,k⟩:=hrel;have n1:l.length<=33554461:=by have:=Z.out;have n:=congrArg PK f.out;rw [b7] at n;omega
  have H0:=k.size;have e0:=B0.grown k qO (fun L M=>by injection M;omega);have s:=C0.grown k qO (fun L M=>by injection M;omega);have f0:=b0.grown k E0;have o1:=qiJ (a+16);by_cases I0:a+16<=m
  ·have J0:=dtX ((a:Int)+16<=m);have K0:(a:Int)+16<=m:=qO;obtain ⟨d,q,N,t,L0,M0,⟨u,N0,O0⟩,_,_,_,g0⟩:=fx (lo:=a) (hi:=a+16) (a:Int) ((a:Int)+16) rfl qO s qO I0 y z;have O:d.length=16:=qO;have P0:(Instr.arrayAt 344 (.slice q d N)).run an wr= .ok (.pointer q) wr:=run_arrayAt wr _ _ 16 _ _ _ J9 qO;have h0:Hid (d=(m.drop a).take 16):=by unfold Hid;rw [t,show a+16-a=16 by omega]
   have E:=qI O;obtain ⟨p1,Q0⟩:=rZ d O;clear O t;rcases f0.look nM Pu (sb wr) Q0 true with ⟨j0,v⟩ | ⟨R0,k0,v⟩
   ·have S0:(Instr.lookup 341 (.map (some K)) (.agg (bc d).toArray) true).run an wr= .ok (.tuple #[i0,false]) wr:=v;have h:Hid (o=l++cS b m (a+1) j):=by
     unfold Hid;rw [f,nK qO (C.1.miss C.2.2 (by rw [<-h0];exact j0))]
    clear v j0;go_wp2_with (refine jd rfl 344 _ rfl q rfl _ d (bc d) _ u (by have:=E.out;omega) J9 rfl (by rw [E];kernel_rfl) ?_);exact ⟨⟨a+1,j,l,rfl,by go_num,qO,qO,h,D,k⟩,by simp [intOf];omega⟩
   obtain ⟨e,T0,P⟩: ∃e:Nat,R0= .int .i64 (e:Nat)/\cG b (m.drop a)=some e:=C.1.hit C.2.1 (by rw [b8];omega) (by rw [<-h0];exact k0);subst T0;have S0:(Instr.lookup 341 (.map (some K)) (.agg (bc d).toArray) true).run an wr= .ok (.tuple #[(e:Nat),true]) wr:=v;have l0:=ij P;have h:Hid (o=l++(aH ((m.drop j).take (a-j))++(bB (begins (b.drop e) (m.drop a)) e++cS b m (a+begins (b.drop e) (m.drop a)) (a+begins (b.drop e) (m.drop a))))):=by
    unfold Hid;rw [f,rX qO P]
   clear v k0 P;obtain ⟨Q,U0,V0,m0,q1,r1,⟨n0,s1,t1⟩,_,_,_,W0⟩:=cm (k:=e) (e:Int) rfl e0 qO W X;obtain ⟨R,X0,Y0,o0,u1,v1,⟨p0,w1,x1⟩,_,_,_,Z0⟩:=cm (k:=a) (a:Int) rfl s d0 y z;rw [<-m0,<-o0] at h l0;go_wp2_with (refine jd rfl 344 _ rfl q rfl _ d (bc d) _ u (by have:=E.out;omega) J9 rfl (by rw [E];kernel_rfl) ?_);go_quiet ((go_at_call 284;exact Pr (nL U0 Q V0 X0 R Y0 _ base base (n0.drewN _) (p0.drewN _) qO qO)));have a1:=eI Q R;obtain ⟨S,q0⟩:=gX (begins Q R);rw [<-q0] at a1 h l0 ⊢;obtain ⟨F,x⟩:=gX (wr.drewN nq);rw [<-x];have r0:Wr F base g l:=by rw [x];exact D.belowW ((bR _ _).drewN' nq)
   have s0:J.grownBy F (some g):=by rw [x];exact ik k nq
   have t0:Rd F base 1 A2 m (bc m):=by rw [x];exact s.drewN nq
   have y1:=s0.size;clear x D k H0 s e0 g0 W0 Z0 P0 u n0 p0 q0 m0 o0 f0;obtain ⟨L,b1,c1,u0,z1,A1,⟨v0,B1,C1⟩,_,_,_,d1⟩:=fx (lo:=j) (hi:=a) (j:Int) (a:Int) rfl rfl t0 G0 d0 y z;rw [<-u0] at h;go_wp2_with fail;refine (sd base g l b1 L c1 F r0 (v0.more qO) qO).mono ?_;rintro r w0 ⟨rfl,⟨G,H,T⟩,U⟩;have D1:G.length<=33554461:=by
    have n:=congrArg PK h.out;have e1:=congrArg PK H.out;have:=Z.out;simp only [b7] at n e1;omega
   clear d1 v0 u0 r0 t0;go_wp2_with fail;refine (nP base g S e G w0 T qO qO qO).mono ?_;rintro r E1 ⟨rfl,⟨f1,g1,h1⟩,i1⟩;go_wp2_with fail;refine ⟨⟨a+S,a+S,f1,by go_num,by go_num,lR _,qO,?_,h1,aq s0 (aq U i1)⟩,by simp [intOf];omega⟩;unfold Hid;rw [h,g1,H];simp only [g9]
  have J0:=dfX ((a:Int)+16<=m);have K0: ¬(a:Int)+16<=m:=qO;obtain ⟨d,q,N,t,L0,M0,⟨u,N0,O0⟩,_,_,_,g0⟩:=cm (k:=j) (j:Int) rfl s qO y z;have h:Hid (o=l++aH d):=by unfold Hid;rw [f,AV _ _ _ (lR _) qO,t]
  clear f t;go_wp2_with fail;refine (sd base g l q d N wr D (u.more qO) qO).mono ?_;rintro r w0 ⟨rfl,⟨G,H,T⟩,U⟩;go_wp2_with fail;go_end0;exact ⟨rfl,⟨G,by unfold Hid;rw [h];exact H.out,T⟩,aq D0 (aq k U)⟩
def Bh (b w:World) (l:LU) (d:Ending) (w':World):Prop:=
 ∃(a:LU) (c:OA) (e:Nat),Hid (a=l)/\d= .returned (.slice c a e)/\Rd w' w' 1 c a (bc a)/\Below b b w'/\Below w w w'
theorem se (A l c w3 w) (d:Rd w3 w3.heap.size 1 A l.length (bc l)) (a:Below w3.heap.size w3 w) (e:l.length<=kaa):
  Calls an 285 #[.slice A l c] w (Bh w3 w l.reverse):=by
 refine (Bb A l c w (d.aliveD a) e).mono ?_;rintro k m ⟨f,g,h,i,rfl,j,b,n,o⟩;exact ⟨f,g,h,i,rfl,d8 j,a.trans (b.mono a.size),b⟩
def Bi (w:World) (l:LU) (e:Ending) (w':World):Prop:=
 ∃(a:LU) (b:OA) (c:Nat),Hid (a=l)/\e= .returned (.slice b a c)/\Rd w' w' 1 b a (bc a)/\Below w w w'/\a<=c/\c<=maxLen/\(0<a.length-> ∀d,au b=some d->w.heap.size<=d)
theorem Bj (A b c A2 t c2 w) (y:Rd w w.heap.size 1 A b.length (bc b)) (z:Rd w w.heap.size 1 A2 t.length (bc t))
  (T:b.length<=kah) (M0:t.length<=kah) (U:b.length<=c) (V:c<=maxLen) (W:t.length<=c2) (X:c2<=maxLen):
  Calls an 271 #[.slice A b c,.slice A2 t c2] w (Bi w (eg b t)):=by
 have B:Hid (aj (b.length:Int)=b):=kN qO;have Y:Hid (aj (t.length:Int)=t):=kN qO;have hcost:Hid ((eg b t).length<=16777241):=by unfold Hid;have:=rR (base:=b) (target:=t) T M0;omega
 obtain ⟨N0,C⟩:=gH (eg b t);rw [<-C] at hcost ⊢;go_in;go_wp2_with fail;refine (dL none [] 0 _ w L8 (by decide)).mono ?_;rintro a O0 ⟨Z,P0,Q0,i,rfl,a0,D,A1,B1⟩;have C1:Z.length<=9:=by
  rw [i,B,List.nil_append];exact aJ 8 _ qO
 go_wp2_with fail;refine (dL P0 Z Q0 _ O0 (d8 a0) qO).mono ?_;rintro a e ⟨d,q,r,b0,rfl,E,c0,R0,S0⟩;have F:Hid (d=num b.length++num t):=by unfold Hid;rw [b0,i,B,Y,List.nil_append]
 have D1:d.length<=18:=by rw [F,b7];have:=aJ 8 b qO;have:=aJ 8 t qO;omega
 have s:=D.next c0;have d0:=d8 E;have T0:=kO E D.size;clear b0 i B Y a0 E D c0;go_wp2_with fail;have u:Wr (e.alloc (.cells #[.slice q d r] 328)) w e d:=⟨q,r,o9 e _ [_],d0.aliveD ((bR _ _).alloc (lR _) _),s.size,R0,S0,T0⟩;have j:Below w w (e.alloc (.cells #[.slice q d r] 328)):=s.alloc s.size _;obtain ⟨l,e0⟩:=gX e.heap.size;obtain ⟨U0,f0⟩:=gX (e.alloc (.cells #[.slice q d r] 328));rw [<-e0] at u ⊢;rw [<-f0] at u j ⊢;clear e0 f0 d0 s;have g0:=y.aliveD j;have h0:=z.aliveD j;refine (nL A b c A2 t c2 U0 _ _ g0 h0 qO qO).mono ?_;rintro a f ⟨rfl,i0,G⟩;have H:=eI b t;obtain ⟨p,I⟩:=gH (begins b t);rw [<-I] at H ⊢;clear g0 h0;have v:Below w w f:=by rw [G];exact j.drewN' i0
 have j0:Wr f w l d:=by rw [G];exact u.belowW ((bR _ _).drewN' i0)
 have k0:=y.aliveD v;have l0:=z.aliveD v;clear G j u;obtain ⟨m,V0,W0,m0,E1,F1,⟨n0,G1,H1⟩,_,_,_,X0⟩:=cm (k:=p) (p:Int) rfl k0 H.1 U V;obtain ⟨o,Y0,Z0,o0,I1,J1,⟨p0,K1,L1⟩,_,_,_,a1⟩:=cm (k:=p) (p:Int) rfl l0 H.2 W X;go_wp2_with fail;go_cut [7] (fun b1 c1=>b1= .int .i64 (ends m o:Nat)/\Below f f c1)
 case first=>
  go_region_with
   ((first | (go_at_call 285;refine (se V0 m W0 f _ n0 (by first | exact bR _ _ | exact (bR _ _).drew) qO).mono ?_;rintro a M1 ⟨J,d1,e1,q0,rfl,r0,g,_⟩;have N1:J.length<=kah:=(by rw [q0,NB];omega)) | (go_at_call 285;refine (se Y0 o Z0 f _ p0 (by first | exact g | exact g.drew) qO).mono ?_;rintro a s0 ⟨K,f1,g1,t0,rfl,u0,L,v0⟩;have O1:K.length<=kah:=(by rw [t0,NB];omega);have w0:=(by first | exact r0.aliveD v0 | exact r0.drew.aliveD v0)) | (go_at_call 284;refine (nL d1 J e1 f1 K g1 _ s0 s0 (by first | exact w0 | exact w0.drew) (by first | exact u0 | exact u0.drew) qO qO).mono ?_;rintro a x0 ⟨rfl,P1,rfl⟩)))
  all_goals
   go_wp2_with fail;go_meet;refine ⟨?_,?_⟩
   ·have i:begins J K=ends m o:=by rw [q0,t0];rfl
    rw [i]
   first
    | exact L.drewN' _
    | exact (L.drewN' _).drew
    | exact L.drew.drewN' _
    | (trace_state;fail)
 case rest=>
  obtain ⟨rfl,g⟩:=hcut;have h1:=kL m o;obtain ⟨a,M⟩:=gX (ends m o);rw [<-M] at h1 ⊢;have y0:Hid (a=ends (b.drop p) (t.drop p)):=by unfold Hid;rw [M,m0,o0]
  have z0:=j0.belowW g;have N:=v.trans (g.mono v.size);clear M X0 a1 n0 p0 m0 o0 k0 l0 g j0;go_wp2_with fail;refine (nP w l p 0 d wc z0 qO qO qO).mono ?_;rintro A0 x0 ⟨rfl,⟨O,P,Q⟩,B0⟩;have i1:O.length<=16777241:=by
   have j1:=congrArg PK P.out;have:=rP (n:=p) qO;rw [b7] at j1;omega
  have R:w<=l:=by obtain ⟨_,_,_,_,h,_⟩:=Q;exact h
  have x:=N.trans (ak B0 R N.size);clear B0 z0 N;obtain ⟨C0,k1,l1,D0,Q1,R1,⟨E0,m1,n1⟩,_,_,_,o1⟩:=fx (lo:=p) (hi:=t-a) (p:Int) ((t:Int)-a) rfl qO z qO qO W X;have F0:Hid (N0=O++(eZ b C0++bB a (b-a))):=by
   unfold Hid;rw [C,rY b t I.out y0.out,P,F,D0,show t-a-p=t-p-a by omega,rW];simp only [g9]
  clear D0 P F I y0 C;go_wp2_with fail;refine (Bg w l O A b c k1 C0 l1 x0 Q (y.below x) (E0.below x) T qO i1 U V m1 n1).mono ?_;rintro A0 p1 ⟨rfl,⟨G0,e8,H0⟩,I0⟩;have J0:=x.trans (ak I0 R x.size);have S1:G0.length<=16777241:=by
   have h:=congrArg PK F0.out;exact z77
  have K0:(b:Int)-a=((b-a:Nat):Int):=qO;have S:=nP w l a (b-a) G0 p1 H0 qO qO qO;rw [<-K0] at S;clear K0 o1 I0 Q E0 H0;go_wp2_with fail;refine S.mono ?_;rintro A0 T1 ⟨rfl,⟨q1,r1,s1,t1,u1,v1,_,w1,x1,y1⟩,L0⟩;have z1:=J0.trans (ak L0 R J0.size);have U1:=u1.c 0;clear S L0;go_wp2_with fail;go_ret;refine ⟨q1,s1,t1,?_,rfl,v1,z1,w1,x1,y1⟩;unfold Hid;rw [F0,r1,e8,g9]
end Go.Proofs.YtecpbcmpncgokaaGreat
namespace Go.Proofs.YtecpbcmpncgokaaGreat
attribute [local irreducible] wpStill
def Bn (w:World) (g:Nat) (c d e:Value) (e0:Int) (r:Option (Nat×LU)) (f:Ending) (w':World):Prop:=
 match r with
 | none=>f= .returned (.int .i64 0)/\Blk w' g 333 [c,eL,d,e,.int .i64 2]/\w.grownBy w' (some g)
 | some (i,j)=> ∃(a:LU) (h:OA) (b:Nat),Hid (a=j)/\f= .returned (.int .i64 (i:Nat))/\Blk w' g 333 [c,.slice h a b,d,e,e0]/\
   w'.ownsRow w 5 1 (.slice h a b) a (bc a)/\w.grownBy w' (some g)/\a<=b/\b<=maxLen
theorem sf (g A p c vb vo vs w) (d:Blk w g 333 [vb,.slice A p.length c,vo,vs,i0]) (n:Rd w w.heap.size 1 A p.length (bc p)) (o:p.length<=kaa) (q:p<=c):
  Calls an 288 #[.pointer (some g)] w (Bn w g vb vo vs 0 (ad p)):=by
 have l:=d.c 1;have f:=d.lt;go_in;go_wp2_with fail;refine (fu A p c w n o q).mono ?_;intro C m e;rcases ht:ad p with _ | ⟨D,E⟩
 ·rw [ht] at e;obtain ⟨rfl,b⟩:=e;have a:=d.below b f;have r:=a.c 1;have s:=a.c 4;have t:=a.free 1;have u:=a.free 4;have h:=qI ht;clear ht l;go_wp2_with fail;go_ret;rw [h];exact ⟨rfl,(a.set 1 eL).set 4 (.int .i64 2),ae (ae (ax b _) 1 _) 4 _⟩
 rw [ht] at e;obtain ⟨i,j,k,v,rfl,x,b,y,z⟩:=e;have a:=d.below b f;have r:=a.c 1;have s:=a.c 4;have t:=a.free 1;have u:=a.free 4;have h:=qI ht;clear ht l;go_wp2_with fail;go_ret;rw [h];have B:m.grownBy ((m.setCell ⟨g,1,none⟩ (.slice j i k)).setCell ⟨g,4,none⟩ (.int .i64 0)) (some g):=ae (ae (gR _ _) 1 _) 4 _;exact ⟨i,j,k,v,rfl,(a.set 1 (.slice j i k)).set 4 (.int .i64 0),fX x B f,ae (ae (ax b _) 1 _) 4 _,y,z⟩
theorem Bo (g vb vo vs w) (b:Blk w g 333 [vb,eL,vo,vs,.int .i64 2]):
  Calls an 288 #[.pointer (some g)] w fun d w'=>d= .returned (.int .i64 0)/\Blk w' g 333 [vb,eL,vo,vs,.int .i64 2]/\w.grownBy w' (some g):=by
 have f:=b.c 1;have h:=b.lt;go_in;go_wp2_with fail;refine (fu none [] 0 w L8 (by decide) (by decide)).mono ?_;rintro d i ⟨rfl,e⟩;have a:=b.below e h;have j:=a.c 1;have k:=a.c 4;have l:=a.free 1;have m:=a.free 4;clear f;go_wp2_with fail;go_ret;exact ⟨rfl,(a.set 1 eL).set 4 (.int .i64 2),ae (ae (ax e _) 1 _) 4 _⟩
def nQ (v:Value):Prop:=∃ a b c,v= .slice a b c
def je (w:World) (g:Nat):Prop:=∃ b a c d,Blk w g 333 [b,a,c,d,.int .i64 2]/\nQ a
theorem sg (g vb vp vo vs A n c at' m w) (a:Blk w g 333 [vb,vp,vo,vs,.int .i64 2]) (b:nQ vp):
  Calls an 301 #[.pointer (some g),.slice A n c,.int .i64 at',.int .i64 m] w fun d w'=>d= .returned (.tuple #[])/\je w' g/\w.grownBy w' (some g):=by
 have e:=a.c 4;have f:=a.free 4;go_in;go_wp2_with fail;go_quiet (fail);go_wp2_with fail;refine bodyPost_ret (results_none (by rfl) _ _ _) rfl ?_;exact ⟨rfl,⟨vb,vp,vo,vs,(a.drewN nq).set 4 (.int .i64 2),b⟩,ae (ik (gR w (some g)) nq) 4 _⟩
theorem nR (g vb vp Ao) (b e size:Nat) (A) (n c a m:Nat) (w) (hblk:Blk w g 333 [vb,vp,.slice Ao b e,size,i0]) (hv:nQ vp) (q:b<=size) (r:size<=kag) (s:n<=kaa)
  (h: ¬(a<=n/\m<=n-a/\m<=size-b)):
  Calls an 301 #[.pointer (some g),.slice A n c,a,m] w fun f w'=>f= .returned (.tuple #[])/\je w' g/\w.grownBy w' (some g):=by
 have t:=hblk.c 2;have u:=hblk.c 3;have v:=hblk.c 4;have x:=hblk.free 4;have y:=qiJ (size-b);by_cases i:a<=n
 ·have j:=dfX (n<a);have k:=dfX ((n:Int)<a);have z:=qiJ (n-a);by_cases d:m<=n-a
  ·have l:=dfX ((n:Int)-a<m);have o: ¬(n:Int)-a<m:=qO;have B:=dtX ((size:Int)-b<m);have C:(size:Int)-b<m:=qO;clear h d;exact z33
  have l:=dtX ((n:Int)-a<m);have o:(n:Int)-a<m:=qO;clear h d;exact z33
 have j:=dtX (n<a);have D:=ltI n a;have k:=dtX ((n:Int)<a);clear h i;exact z33
def sh (base g:Nat) (i j:Value) (size:Nat) (k:OA) (l m:Nat) (r:LU) (w:World) (n:Ending) (w':World):Prop:=
 n= .returned (.tuple #[])/\ ∃(a:LU) (e:OA) (b:Nat),Hid (a=r)/\Blk w' g 333 [i,j,.slice e a b,size,i0]/\
  w'.ownsRow base 5 1 (.slice e a b) a (bc a)/\Below base w w'/\a<=b/\b<=maxLen/\
  Hid (∀(c:OA) (f d:Nat) (h:List Value),Seg w base 5 1 c f d h->Apart c d (.slice k l m)->Seg w' base 5 1 c f d h/\Apart c d (.slice e a b))
theorem nS (base g vb vp o Ao) (b size:Nat) (A x c at' m w) (e:Blk w g 333 [vb,vp,.slice Ao o.length b,size,i0])
  (k:w.ownsRow base 5 1 (.slice Ao o.length b) o.length (bc o)) (l:Rd w w 1 A x.length (bc x)) (G:x.length<=c) (H:c<=maxLen) (I:base<=g) (k0:o<=size) (l0:size<=kaj) (m0:x.length<=kaa)
  (J:at'<=x.length) (K:m<=x.length-at') (L:m<=size-o):
  Calls an 301 #[.pointer (some g),.slice A x c,.int .i64 at',.int .i64 m] w (sh base g vb vp size Ao o b (o++(x.drop at').take m) w):=by
 have n:=e.c 2;have M:=e.c 3;have N:=e.c 4;have n0:=qiJ (size-o);have o0:=qiJ (x-at');have p0:=qiJ (at'+m);have O:=dfX (x<at');have P:=dfX ((x:Int)<at');have Q:=dfX ((x:Int)-at'<m);have R:=dfX ((size:Int)-o<m);obtain ⟨q,r,S,s,q0,r0,⟨t,s0,t0⟩,_,_,_,u0⟩:=fx (lo:=at') (hi:=at'+m) (at':Int) ((at':Int)+m) rfl qO l qO qO G H;have T:Hid (q=(x.drop at').take m):=by unfold Hid;rw [s,NN]
 have U:o.length+q<=kaa:=qO;clear s J K L;go_in;go_wp2_with fail;go_quiet (fail);obtain ⟨a,d⟩:=gX (w.drewN nq);rw [<-d];have j:Blk a g 333 [vb,vp,.slice Ao o b,size,i0]:=by rw [d];exact e.drewN nq
 have u:a.ownsRow base 5 1 (.slice Ao o b) o (bc o):=by rw [d];exact k
 have V:Rd a a 1 r q (bc q):=by rw [d];exact t.drewN nq
 have W:Below base w a:=by rw [d];exact (bR _ _).drewN' nq
 have X:Hid (∀(A:OA) (f c:Nat) (h:List Value),Seg w base 5 1 A f c h->Seg a base 5 1 A f c h):=by rw [d];exact fun A f c h Y=>Y.drewN nq
 have n:=j.c 2;have Z:base<=a:=by have:=j.lt;omega
 clear d e k l t M N O P Q R;go_wp2_with fail;have a0:some g≠(Value.slice Ao o b).ownBlock:=fun b0=>own_ne u j (by decide) b0.symm;have v0:(World.drew a).cell? ⟨g,2,none⟩=some (.slice Ao o b):=n;go_region_law ((refine nT (by rfl) (.tmp 48) (.tmp 54) (by rfl) base _ o o (by rfl) (w:=World.drew a) u _ r q S q (by rfl) V.drew U Z ?_;intro v y z B c0 d0 e0 C f0 g0 h0;have i:=(j.drew).grown C a0;have w0:=i.c 2;have x0:=i.free 2))
 all_goals
  go_wp2_with fail;go_end0;have D:B.grownBy (B.setCell ⟨g,2,none⟩ (.slice y v z)) (some g):=ae (gR _ _) _ _;refine ⟨rfl,v,y,z,by unfold Hid;rw [c0,T],i.set 2 _,aE d0 i (by decide) D,(W.trans ((bR base a).drew.trans e0)).setCell (p:=⟨g,2,none⟩) I _,g0,h0,?_⟩;intro A f c h j0 E;have F:=X.out A f c h j0;exact ⟨fy (F.drew.keepR C E) i (by decide) D,E.app F.drew (lR _) f0.out⟩
def nU (w:World) (base g:Nat) (f:Value) (p a:LU) (size:Nat):Prop:=
 ∃(b c:OA) (d e:Nat),Blk w g 333 [f,.slice b p d,.slice c a e,size,i0]/\Seg w base 5 1 b p d (bc p)/\
  w.ownsRow base 5 1 (.slice c a e) a (bc a)/\Apart b d (.slice c a e)
def Bp (base g:Nat) (c:Value) (size:Nat) (r:Option (LU×LU)) (w:World) (d:Ending) (w':World):Prop:=
 d= .returned (.tuple #[])/\Below base w w'/\match r with | none=>je w' g | some (e,f)=> ∃a b,Hid (a=e/\b=f)/\nU w' base g c b a size
theorem kP {w w':World} {row} (a:w.drew.grownBy w' row):w.grownBy w' row:=⟨a.os,a.tape,a.output,a.size,a.block⟩
theorem kQ {g A p c vb vo vs w} (b:Blk w g 333 [vb,.slice A p.length c,vo,vs,i0]) (d:Rd w w.heap.size 1 A p.length (bc p)) (e:p.length<=kaa) (f:p<=c) (h:ad p=none):
  Calls an 288 #[.pointer (some g)] w fun i w'=>i= .returned (.int .i64 0)/\Blk w' g 333 [vb,eL,vo,vs,.int .i64 2]/\w.grownBy w' (some g):=by
 have a:=sf g A p c vb vo vs w b d e f;rw [h] at a;exact a
def Br (w:World) (g:Nat) (d e f:Value) (n:Nat) (q:LU) (h:Ending) (w':World):Prop:=
 ∃(a:LU) (c:OA) (b:Nat),Hid (a=q)/\h= .returned (.int .i64 (n:Nat))/\Blk w' g 333 [d,.slice c a b,e,f,i0]/\
   w'.ownsRow w 5 1 (.slice c a b) a (bc a)/\w.grownBy w' (some g)/\a<=b/\b<=maxLen
theorem gM {g n A p q c vb vo vs w} (b:Blk w g 333 [vb,.slice A p.length c,vo,vs,i0]) (d:Rd w w.heap.size 1 A p.length (bc p)) (e:p.length<=kaa) (f:p<=c) (h:ad p=some (n,q)):
  Calls an 288 #[.pointer (some g)] w (Br w g vb vo vs n q):=by
 have a:=sf g A p c vb vo vs w b d e f;rw [h] at a;exact a
theorem Bs (base g Ab b cb p o size w) (G:nU w base g (.slice Ab b.length cb) p o size) (U0:Rd w base 1 Ab b.length (bc b)) (d0:b.length<=kaa) (E0:b<=cb) (F0:cb<=maxLen)
  (e0:p.length<=kaa) (V:o<=size) (r0:size<=kaj) (h:base<=g):
  Calls an 289 #[.pointer (some g)] w (Bp base g (.slice Ab b cb) size (eJ b size o p) w):=by
 obtain ⟨f0,Z⟩:=gH (eJ b size o p);rw [<-Z];obtain ⟨r1,C,s1,D,E,J,W,s0⟩:=G;have g0:=J.2.1;have t1:=E.lt;rcases ht:ad p with _ | ⟨N,h0⟩
 ·have t0:Hid (f0=none):=by unfold Hid;rw [Z,eJ,ht]
  have O:=qI ht;clear ht;go_in;go_wp2_with fail;refine (kQ E J.rd e0 g0 O.out).mono ?_;rintro i j ⟨rfl,f,r⟩;have G0:=f.c 1;have u0:bits .and .i64 0 1=0:=by decide
  go_wp2_with fail;refine (sg g _ _ _ _ none 0 0 0 1 j f ⟨_,_,_,rfl⟩).mono ?_;rintro i d ⟨rfl,⟨K,t,u,v,a,v0⟩,l⟩;have w0:=a.c 4;go_wp2_with fail;go_end0;rw [t0];exact ⟨rfl,ak (aq r l) h qO,⟨K,t,u,v,a,v0⟩⟩
 have u1:N<=kag:=(ch ht).2;have x0:=bL ht;obtain ⟨e,j0⟩:=gX (N/2);have V0:(N:Int)/2=e:=qO;have v1:(N:Int).tdiv 2=(e:Int):=by rw [NW qO];exact V0
 have w1:e<=2305843009213693951:=qO;have H0:=qI j0;have x1:=qiJ (e+1);have a0:Hid ((e:Int)+1=((e+1:Nat):Int)):=by unfold Hid;omega
 have u0:=si N qO;by_cases P:N%2=0
 ·have F:Hid (f0=if e+1<=size-o/\e+1<=h0 then some (o++h0.take (e+1),h0.drop (e+1)) else none):=by
   unfold Hid;rw [Z,eJ,ht];simp only;rw [if_pos P,<-H0]
  rw [P] at u0;have O:=qI ht;clear ht P j0;go_in;go_wp2_with fail;refine (gM E J.rd e0 g0 O.out).mono ?_;rintro i j ⟨m,Q,R,L,rfl,f,H,r,S,k0⟩;have l0:=aE W E (by decide) r;have W0:=ON W (s7 H) (lR _);have I0:=(s7 H).lower (base':=base) qO;have I:=ak r h qO;have J0:m.length<p:=by rw [L];exact x0
  have G0:=f.c 1;rw [<-L] at F;clear H r s0 W J E;by_cases s:e+1<=size-o/\e+1<=m
  ·rw [if_pos s] at F;have n:=nS base g _ _ o C D size Q m R 0 (e+1) j f l0 I0.rd S k0 h V r0 qO qO qO s.1;rw [<-a0] at n;go_wp2_with fail;refine n.mono ?_;clear n;rintro i d ⟨rfl,X0,Y0,Z0,m0,a,M,b0,y1,z1,a1⟩;obtain ⟨K0,b1⟩:=a1.out _ _ _ _ I0 W0;have w0:=a.c 4;have G0:=a.c 1;have A1:=a.free 1;obtain ⟨L0,M0,N0,c1,B1,C1,⟨D1,E1,F1⟩,G1,O0,d1,H1⟩:=cm (k:=e+1) ((e:Int)+1) a0.out K0.rd s.2 S k0;have e1:=qI O0;clear O0;go_wp2_with fail;go_end0;rw [F];have y0:d.grownBy (d.setCell ⟨g,1,none⟩ (.slice M0 L0 N0)) (some g):=ae (gR _ _) 1 _;refine ⟨rfl,(I.trans b0).trans (ak y0 h (by have:=a.lt;omega)),X0,L0,⟨by rw [m0,y8],c1.out⟩,M0,Y0,N0,Z0,a.set 1 _,fy (d1.out _ _ K0) a (by decide) y0,aE M a (by decide) y0,b1.piece qO e1.out⟩
  rw [if_neg s] at F;have n:=nR g _ _ C o D size Q m R 0 (e+1) j f ⟨_,_,_,rfl⟩ V qO qO (fun G=>s ⟨G.2.2,qO⟩);rw [<-a0] at n;go_wp2_with fail;refine n.mono ?_;clear n;rintro i d ⟨rfl,⟨K,t,u,v,a,v0⟩,l⟩;have w0:=a.c 4;go_wp2_with fail;go_end0;rw [F];exact ⟨rfl,I.trans (ak l h (by have:=I.size;omega)),⟨K,t,u,v,a,v0⟩⟩
 have z0:N%2=1:=qO;rw [z0] at u0;have c0:Hid ( ∀X:World,∀t u v P0,Blk X g 333 [.slice Ab b cb,t,u,v,P0]->X.cell? g=some (.slice Ab b cb)):=fun X t u v P0 G=>by rw [G.cell];rfl
 rcases ht2:ad h0 with _ | ⟨x,Q0⟩
 ·have t0:Hid (f0=none):=by
   unfold Hid;rw [Z,eJ,ht];simp only;rw [if_neg P,ht2]
  have O:=qI ht;have A0:=qI ht2;clear ht ht2 P j0 z0;go_in;go_wp2_with fail;refine (gM E J.rd e0 g0 O.out).mono ?_;rintro i j ⟨m,Q,R,L,rfl,f,H,r,S,k0⟩;have I:=ak r h qO;have J0:m.length<p:=by rw [L];exact x0
  have n0:Hid (ad m=none):=by rw [L];exact A0.out
  have o0:=c0.out j _ _ _ _ f;have T:=d8 H;clear H r s0 W J E;go_wp2_with fail;go_region_with ((first
   | (go_at_call 288;refine (kQ (A:=Q) (p:=m) (c:=R) (by first | exact f | exact f.drew) (by first | exact T | exact T.drew) qO S n0.out).mono ?_;rintro i d ⟨rfl,a,l⟩;have o0:=c0.out d _ _ _ _ a)
   | (go_at_call 301;refine (sg g _ _ _ _ Ab b cb _ _ _ (by first | exact a | exact a.drew) ⟨_,_,_,rfl⟩).mono ?_;rintro i R0 ⟨rfl,⟨K,t,u,v,U,p0⟩,B0⟩;have w0:=U.c 4)))
  all_goals
   have f1:=f.lt;have S0:=a.lt;have Y:=I.trans ((ak (kP l) h qO:Below base j d).trans (ak B0 h qO));go_wp2_with fail;refine bodyPost_ret (results_none (by rfl) _ _ _) rfl ?_;rw [t0]
   first
    | exact ⟨rfl,Y,⟨K,t,u,v,U,p0⟩⟩
    | exact ⟨rfl,Y.drew,⟨K,t,u,v,U.drew,p0⟩⟩
 have F:Hid (f0=if e+1<=size-o/\x+(e+1)<=b then some (o++(b.drop x).take (e+1),Q0) else none):=by
  unfold Hid;rw [Z,eJ,ht];simp only;rw [if_neg P,ht2,<-H0]
 have O:=qI ht;have A0:=qI ht2;clear ht ht2 P j0 z0;go_in;go_wp2_with fail;refine (gM E J.rd e0 g0 O.out).mono ?_;rintro i j ⟨m,Q,R,L,rfl,f,H,r,S,k0⟩;have l0:=aE W E (by decide) r;have I:=ak r h qO;have J0:m.length<p:=by rw [L];exact x0
 have n0:Hid (ad m=some (x,Q0)):=by rw [L];exact A0.out
 have o0:=c0.out j _ _ _ _ f;have T:=d8 H;have f1:=f.lt;have q0:base<=j:=qO;clear H r s0 W J E;go_wp2_with fail;by_cases s:e+1<=size-o/\x+(e+1)<=b
 ·rw [if_pos s] at F;have n: ∀(y:OA) (z:Nat) (B:LU) (d q:World),Blk d g 333 [.slice Ab b cb,.slice y B z,.slice C o D,size,i0]->j.grownBy d (some g)->(q=d\/q=d.drew)->
    Calls an 301 #[.pointer (some g),.slice Ab b cb,x,.int .i64 (e+1)] q (sh base g (.slice Ab b cb) (.slice y B z) size C o D (o++(b.drop x).take (e+1)) q):=by
   intro y z B d q a l C0;rw [a0];have b0:=ak l h q0;have S0:=a.lt;have T0:Rd d d 1 Ab b (bc b):=((U0.below I).below b0).more qO;have M:=aE l0 f (by decide) l;rcases C0 with rfl | rfl
   ·exact nS base g _ _ o C D size Ab b cb x (e+1) q a M T0 E0 F0 h V r0 d0 qO qO s.1
   exact nS base g _ _ o C D size Ab b cb x (e+1) d.drew a.drew M T0.drew E0 F0 h V r0 d0 qO qO s.1
  have D0:=qI n;clear n;go_region_with ((first
   | (go_at_call 288;refine (gM (A:=Q) (p:=m) (c:=R) (by first | exact f | exact f.drew) (by first | exact T | exact T.drew) qO S n0.out).mono ?_;rintro i d ⟨B,y,z,m0,rfl,a,M,l,g1,h1⟩;have o0:=c0.out d _ _ _ _ a)
   | (go_at_call 301;refine (D0.out y z B d _ a (kP l) (by first | exact .inl rfl | exact .inr rfl)).mono ?_;rintro i R0 ⟨rfl,i1,j1,k1,l1,U,m1,Y,I1,J1,n1⟩)))
  all_goals
   have b0:=I.trans (ak (kP l) h q0);have o1:j.drew.ownsRow base 5 1 (.slice C o D) o (bc o):=l0;obtain ⟨p1,q1⟩:=n1.out _ _ _ _ ((s7 M).lower (base':=base) q0) (ON o1 (s7 M) (lR _));go_wp2_with fail;refine bodyPost_ret (results_none (by rfl) _ _ _) rfl ?_;rw [F];exact ⟨rfl,b0.trans Y,i1,B,⟨l1.out,m0.out⟩,y,j1,z,k1,U,p1,m1,q1⟩
 rw [if_neg s] at F;have n: ∀(y:OA) (z:Nat) (B:LU) (d q:World),Blk d g 333 [.slice Ab b cb,.slice y B z,.slice C o D,size,i0]->(q=d\/q=d.drew)->
   Calls an 301 #[.pointer (some g),.slice Ab b cb,x,.int .i64 (e+1)] q fun i X=>i= .returned (.tuple #[])/\je X g/\q.grownBy X (some g):=by
  intro y z B d q a C0;rw [a0];rcases C0 with rfl | rfl
  ·exact nR g _ _ C o D size Ab b cb x (e+1) q a ⟨_,_,_,rfl⟩ V qO d0 (fun G=>s ⟨G.2.2,qO⟩)
  exact nR g _ _ C o D size Ab b cb x (e+1) d.drew a.drew ⟨_,_,_,rfl⟩ V qO d0 (fun G=>s ⟨G.2.2,qO⟩)
 have D0:=qI n;clear n;go_region_with ((first
  | (go_at_call 288;refine (gM (A:=Q) (p:=m) (c:=R) (by first | exact f | exact f.drew) (by first | exact T | exact T.drew) qO S n0.out).mono ?_;rintro i d ⟨B,y,z,m0,rfl,a,M,l,g1,h1⟩;have o0:=c0.out d _ _ _ _ a)
  | (go_at_call 301;refine (D0.out y z B d _ a (by first | exact .inl rfl | exact .inr rfl)).mono ?_;rintro i R0 ⟨rfl,⟨K,t,u,v,U,p0⟩,B0⟩)))
 all_goals
  have S0:=a.lt;have Y:=I.trans ((ak (kP l) h q0:Below base j d).trans (ak B0 h qO));go_wp2_with fail;refine bodyPost_ret (results_none (by rfl) _ _ _) rfl ?_;rw [F];exact ⟨rfl,Y,⟨K,t,u,v,U,p0⟩⟩
def sj (r:Option (LU)) (b:LU) (d:Value) (size base g:Nat) (w:World) (k:Nat) (wr:World):Prop:=
 ((∃a c:LU,k=a.length+1/\nU wr base g d a c size/\c.length<=size/\size<=kaj/\a.length<=140737488355328/\Hid (r=dGo b size c a))\/(k=0/\je wr g/\Hid (r=none)))/\Below base w wr
theorem Bt (Ab b cb A l c most w) (b0:Rd w w.heap.size 1 Ab b.length (bc b)) (y0:b.length<=kaa) (z0:b.length<=cb) (A0:cb<=maxLen)
  (c0:Rd w w 1 A l.length (bc l)) (d0:l.length<=kaa) (e0:l.length<=c) (f0: ∀n q s r,ad l=some (n,q)->ad q=some (s,r)->(s:Int)<=most->s<=70368744177664):
  Calls an 273 #[.slice Ab b cb,.slice A l c,.int .i64 most] w (RetOpenN w (cH b l most)):=by
 obtain ⟨r,B⟩:=gH (cH b l most);rw [<-B];have e:=o9 w 333 [.slice Ab b cb,.slice A l c,eL,i0,i0];have o:=bAl w (.cells #[.slice Ab b cb,.slice A l c,eL,i0,i0] 333);have C:=c0.aliveD o;go_in;go_wp2_with fail;obtain ⟨g,HG⟩:=gH w.heap.size;obtain ⟨a1,g0⟩:=gX (w.alloc (.cells #[.slice Ab b cb,.slice A l c,eL,i0,i0] 333));change Blk (w.alloc (.cells #[.slice Ab b cb,.slice A l c,eL,i0,i0] 333)) _ _ _ at e;rw [<-g0] at e C o ⊢;rw [<-HG] at e o b0 ⊢;clear g0 c0;rcases ht:ad l with _ | ⟨n,q⟩
 ·have L:Hid (r=none):=by unfold Hid;rw [B,cH,ht]
  have v:=qI ht;clear ht;refine (kQ e C d0 e0 v.out).mono ?_;rintro x h0 ⟨rfl,j,D⟩;go_wp2_with fail;refine (Bo g _ _ _ h0 j).mono ?_;rintro x y ⟨rfl,a,t⟩;have j0:=a.c 3;have k0:=a.free 3;have f:=a.set 3 i0;have M:=f.c 4;go_wp2_with fail;go_ret2;rw [L];exact ⟨rfl,by rw [<-HG];exact o.trans (ak (aq D (ae t 3 _)) (lR _) (H7 e.lt))⟩
 have B0:=bL ht;have v:=qI ht;refine (gM e C d0 e0 ht).mono ?_;rintro x h0 ⟨N,b1,l0,E,rfl,j,O,D,m0,c1⟩;have P:=o.trans (ak D (lR _) (H7 e.lt));have d1:N.length<l:=by rw [E];exact B0
 clear ht C;rcases ht2:ad N with _ | ⟨size,n0⟩
 ·have L:Hid (r=none):=by
   unfold Hid;rw [B,cH,v];simp only;rw [<-E,ht2];split<;>rfl
  have Q:=qI ht2;clear ht2;go_wp2_with fail;refine (kQ j (d8 O) qO m0 Q.out).mono ?_;rintro x y ⟨rfl,a,t⟩;have j0:=a.c 3;have k0:=a.free 3;have f:=a.set 3 i0;have M:=f.c 4;go_wp2_with fail;go_ret2;rw [L];exact ⟨rfl,by rw [<-HG];exact P.trans (ak (ae t 3 _) (lR _) (H7 j.lt))⟩
 have R:size<=kag:=(ch ht2).2;have C0:=bL ht2;have D0:Hid ((size:Int)<=most->size<=kaj):=f0 n q size n0 v.out (by rw [<-E];exact ht2);have d:Hid (r=if n=b then (if (size:Int)<=most then dGo b size [] n0 else none) else none):=by
  unfold Hid;rw [B,cH,v];simp only;rw [<-E,ht2]
 have Q:=qI ht2;clear ht2 f0;go_wp2_with fail;refine (gM j (d8 O) qO m0 Q.out).mono ?_;rintro x y ⟨F,E0,o0,p0,rfl,a,q0,t,e1,f1⟩;have g1:F.length<N:=by rw [p0];exact C0
 rw [<-p0] at d;have j0:=a.c 3;have k0:=a.free 3;have f:=a.set 3 (.int .i64 size);have S:y.grownBy (y.setCell ⟨g,3,none⟩ (.int .i64 size)) (some g):=ae (gR _ _) 3 _;have T:=j.lt;have G:=P.trans (ak (aq t S) (lR _) (H7 T));have r0:=fX q0 S T;have s0:=(s7 r0).lower (base':=g) (H7 T);have M:=f.c 4;have F0:=f.c 3;by_cases U:n=b
 ·have G0:((n:Int)!=b)=false:=by simp;omega
  rw [if_pos U] at d;clear U;by_cases V:(size:Int)<=most
  ·rw [if_pos V] at d;have H0:=dfX (most<(size:Int));have I0:=D0.out V;have hinv:sj r b (.slice Ab b cb) size g g w (F.length+1) (y.setCell ⟨g,3,none⟩ (.int .i64 size)):=
    ⟨.inl ⟨F,[],rfl,⟨E0,none,o0,0,f,s0,⟨by simp [bc],.inl ⟨rfl,rfl⟩⟩,Apart.nil _ _⟩,zL,I0,qO,d⟩,G⟩
   have t0:=qI hinv;clear hinv f s0 r0 q0 a j t D P S e o O d;go_wp2_with fail;go_loopg [] (F.length+1) (fun J0 wr=>sj r b (.slice Ab b cb) size g g w J0 wr)
   case atStart=>exact t0.out
   case round=>
    clear t0 G M F0;obtain ⟨u,hbel⟩:=hrel;rcases u with ⟨p,k,rfl,u,K0,R,L0,H⟩ | ⟨rfl,u,hnone⟩
    ·have M0:=qI u;obtain ⟨N0,O0,P0,Q0,i,R0,W,S0⟩:=u;have l0:=i.c 1;have h1:=i.c 2;have o0:=i.c 3;have T0:=i.c 4;by_cases z:p.length=0
     ·have I:=nZ z;have X:=dfX (0<p.length);have i1:=dfX ((0:Int)<(p:Int));have u0:=dz W;by_cases J:k=size
      ·have m:Hid (r=some k):=by unfold Hid;rw [H,I,iZ,if_pos J]
       have U0:((k:Int)!=size)=false:=by simp;omega
       clear I J z;go_wp2_with fail;go_quiet (fail);go_wp2_with fail;go_ret2;rw [m];exact ⟨k,O0,Q0,rfl,rfl,by rw [<-HG];exact W,by rw [<-HG];exact hbel.drewN' nq,u0.1,u0.2⟩
      have m:Hid (r=none):=by unfold Hid;rw [H,I,iZ,if_neg J]
      have U0:((k:Int)!=size)=true:=by simp;omega
      clear I J z;go_wp2_with fail;go_quiet (fail);go_wp2_with fail;go_ret2;rw [m];exact ⟨rfl,by rw [<-HG];exact hbel.drewN' nq⟩
     have j1:=ltI 0 p.length;have X:=dtX (0<p.length);have V0:Hid (p≠[]):=fun h=>by rw [h] at z;simp at z
     have W0:=b0.below hbel;clear i R0 W S0;go_wp2_with fail;refine (Bs g g Ab b cb p k size wr M0.out W0 y0 z0 A0 L0 K0 R (lR _)).mono ?_;intro x k1 K;rcases htk:eJ b size k p with _ | ⟨l1,m1⟩
     ·rw [htk] at K;obtain ⟨rfl,Y,X0⟩:=K;have m:Hid (r=none):=by unfold Hid;rw [H,Bl V0.out htk]
      clear htk;go_wp2_with fail;go_roundg 0
      case measure=>omega
      case rel=>exact ⟨.inr ⟨rfl,X0,m⟩,hbel.trans Y⟩
     rw [htk] at K;obtain ⟨rfl,Y,v0,Z,w0,Y0⟩:=K;obtain ⟨rfl,rfl⟩:=w0.out;obtain ⟨x0,Z0,n1⟩:=Bm htk;have m:Hid (r=dGo b size v0 Z):=by unfold Hid;rw [H,x0]
     clear htk x0 w0;go_wp2_with fail;go_roundg (Z.length+1)
     case measure=>omega
     case rel=>exact ⟨.inl ⟨Z,v0,rfl,Y0,Z0,R,qO,m⟩,hbel.trans Y⟩
    obtain ⟨o1,p1,q1,r1,i,N0,a0,P0,rfl⟩:=u;have l0:=i.c 1;have T0:=i.c 4;by_cases s1:0<a0
    ·have X:=dtX (0<a0);exact z292
    have X:=dfX (0<a0);exact z292
  rw [if_neg V] at d;have H0:=dtX (most<(size:Int));have t1:most<(size:Int):=qO;go_wp2_with fail;go_ret2;rw [d];exact ⟨rfl,by rw [<-HG];exact G⟩
 have G0:((n:Int)!=b)=true:=by simp;omega
 rw [if_neg U] at d;go_wp2_with fail;go_ret2;rw [d];exact ⟨rfl,by rw [<-HG];exact G⟩
