/- Walks and laws. Conditions: as stated. -/
import Derived.Test.YtecpbcmpncgokaaGreatWordsA
set_option maxRecDepth 99999
set_option maxHeartbeats 25600000
set_option linter.all false
open UInt8 renaming ofNat->PJ
open Go.Proofs.Tryz renaming prog->an
open Go.RowKit Go.Dol
namespace Go.Dol
def num (n:Nat):LU:=if n<128 then [PJ n] else PJ (128+n%128)::num (n/128)
termination_by n
decreasing_by omega
theorem gD {n} (a:n<128):num n=[PJ n]:=by rw [num,if_pos a]
theorem iU {n} (a:128<=n):num n=PJ (128+n%128)::num (n/128):=by rw [num,if_neg qO]
theorem kC (n):0<(num n).length:=by
 rw [num];split<;>simp
theorem aJ: ∀(k n:Nat),n<128^(k+1)->(num n).length<=k+1
 | 0,n,a=>by
  rw [gD (by simpa using a)];simp
 | k+1,n,a=>by
  by_cases b:n<128
  ·rw [gD b];simp
  rw [iU qO,List.length_cons];have c:n/128<128^(k+1):=by
   rw [Nat.div_lt_iff_lt_mul qO];rw [Ns] at a;exact a
  have:=aJ k (n/128) c;omega
def dec:Nat->LU->Option (Nat×LU)
 | 0,_=>none
 | _+1,[]=>none
 | f+1,c::r=>if c.toNat<128 then some (c.toNat,r) else
   match dec f r with
   | none=>none
   | some (m,q)=>if m=0 then none else some (c.toNat%128+128*m,q)
def av:Nat:=4611686018427387903
def ad (b:LU):Option (Nat×LU):=
 match dec 9 b with
 | none=>none
 | some (a,c)=>if a<=av then some (a,c) else none
theorem zQ (f): ∀(n:Nat) (r:LU),n<128^(f+1)->dec (f+1) (num n++r)=some (n,r):=by
 induction f with
 | zero=>
  intro n r b;have a:n<128:=by simpa using b
  rw [gD a];simp [dec,a,NV (show n<256 by omega)]
 | succ c d=>
 intro n r b;by_cases a:n<128
 ·rw [gD a];simp [dec,a,NV (show n<256 by omega)]
 rw [iU qO];have e:n/128<128^(c+1):=by
  rw [Nat.div_lt_iff_lt_mul qO];rw [Ns] at b;exact b
 have g:(PJ (128+n%128)).toNat=128+n%128:=by rw [NG];omega
 rw [List.cons_append,dec,g,d (n/128) r e];simp only;rw [if_neg qO,if_neg qO];congr 2;omega
theorem nf: ∀(f:Nat) (b:LU) (n:Nat) (r:LU),dec f b=some (n,r)->b=num n++r/\n<128^f
 | 0,b,n,r,a=>by simp [dec] at a
 | f+1,[],n,r,a=>by simp [dec] at a
 | f+1,c::q,n,r,a=>by
  simp only [dec] at a;have m:0<128^f:=Nat.pow_pos qO;by_cases e:c.toNat<128
  ·rw [if_pos e] at a;obtain ⟨rfl,rfl⟩:=NK (K8 a);refine ⟨by rw [gD e];simp,?_⟩;rw [Ns];omega
  rw [if_neg e] at a;cases g:dec f q with
  | none=>rw [g] at a;cases a
  | some i=>
  obtain ⟨d,j⟩:=i;rw [g] at a;simp only at a;by_cases h:d=0
  ·rw [if_pos h] at a;cases a
  rw [if_neg h] at a;obtain ⟨rfl,rfl⟩:=NK (K8 a);obtain ⟨rfl,o⟩:=nf f q d j g;have p:=c.toNat_lt;refine ⟨?_,by rw [Ns];omega⟩;have k:128+(c.toNat%128+128*d)%128=c.toNat:=qO;have l:(c.toNat%128+128*d)/128=d:=qO;rw [iU (show 128<=c.toNat%128+128*d by omega),k,l];simp
theorem dV (n r) (a:n<=av):ad (num n++r)=some (n,r):=by
 have b:n<128^9:=by unfold av at a;omega
 rw [ad,zQ 8 n r b];simp [a]
theorem ch {b n r} (a:ad b=some (n,r)):b=num n++r/\n<=av:=by
 unfold ad at a;cases c:dec 9 b with
 | none=>rw [c] at a;cases a
 | some e=>
 obtain ⟨f,g⟩:=e;rw [c] at a;simp only at a;by_cases d:f<=av
 ·rw [if_pos d] at a;obtain ⟨rfl,rfl⟩:=NK (K8 a);exact ⟨(nf 9 b _ _ c).1,d⟩
 rw [if_neg d] at a;cases a
def acc (l:LU):Nat:=l.foldr (fun a b=>a.toNat%128+128*b) 0
theorem ng (l c):acc (l++[c])=acc l+128^l.length*(c.toNat%128):=by
 induction l with
 | nil=>simp [acc]
 | cons a l b=>
 have d:acc (a::l++[c])=a.toNat%128+128*acc (l++[c]):=rfl;have e:acc (a::l)=a.toNat%128+128*acc l:=rfl;rw [d,e,b,List.length_cons,Ns,Nat.mul_add,OH,Nat.mul_comm (128^l.length) 128,Nat.mul_assoc]
theorem zR (l):acc l<128^l.length:=by
 induction l with
 | nil=>simp [acc]
 | cons a l c=>
 have b:acc (a::l)=a.toNat%128+128*acc l:=rfl;rw [b,List.length_cons,Ns];omega
theorem rk: ∀(l:LU) (f:Nat) (r:LU),(∀c∈l,128<=c.toNat)->
  dec (l+f) (l++r)=match dec f r with
   | none=>none
   | some (m,q)=>if l≠[]/\m=0 then none else some (acc l+128^l.length*m,q)
 | [],f,r,_=>by
  have b:([]:LU).length+f=f:=by simp
  rw [b,List.nil_append];cases dec f r with
  | none=>rfl
  | some d=>simp [acc]
 | a::l,f,r,e=>by
  have b:(a::l).length+f=(l+f)+1:=by simp [List.length_cons];omega
  have i: ¬a.toNat<128:=by have:=e a (by simp);omega
  rw [b,List.cons_append];simp only [dec];rw [if_neg i,rk l f r (fun c j=>e c (by simp [j]))];cases dec f r with
  | none=>rfl
  | some d=>
  obtain ⟨m,q⟩:=d;have k:acc (a::l)=a.toNat%128+128*acc l:=rfl;have n:0<128^l.length:=Nat.pow_pos qO;by_cases g:m=0
  ·subst g;by_cases h:l=[]
   ·subst h;simp [acc]
   simp [h]
  have o: ¬(acc l+128^l.length*m=0):=by
   have:0<128^l.length*m:=Nat.mul_pos n qO;omega
  simp only [g,and_false,if_false,o];simp only [k,List.length_cons,Ns,Nat.mul_add];congr 2;rw [Nat.mul_comm (128^l.length) 128,Nat.mul_assoc];omega
theorem rl: ∀(f:Nat) (l:LU),(∀c∈l,128<=c.toNat)->dec f l=none
 | 0,l,_=>by cases l<;>rfl
 | f+1,[],_=>rfl
 | f+1,x::l,a=>by
  have b: ¬x.toNat<128:=by have:=a x (by simp);omega
  simp only [dec];rw [if_neg b,rl f l (fun c d=>a c (by simp [d]))]
theorem zS (l r f) (a:f<=l.length) (b: ∀c∈l,128<=c.toNat):dec f (l++r)=none:=by
 induction l generalizing f with
 | nil=>
  obtain rfl:f=0:=by simpa using a
  cases r<;>rfl
 | cons d l e=>
 cases f with
 | zero=>rfl
 | succ f=>
 have g: ¬d.toNat<128:=by have:=b d (by simp);omega
 simp only [List.cons_append,dec];rw [if_neg g,e f (by simpa using a) (fun c h=>b c (by simp [h]))]
def Pre (l:LU) (k:Nat):Prop:=k<=l/\ ∀a∈l.take k,128<=a.toNat
theorem Pre.zero (l):Pre l 0:=⟨zL,by simp⟩
theorem kD (l:LU) (k) (a:k<l.length):l.take (k+1)=l.take k++[l[k]]:=by rw [n9 a]
theorem Pre.succ {l k} (c:Pre l k) (b:k<l) (d:128<=(l[k]).toNat):Pre l (k+1):=
 ⟨b,fun e a=>by
  rw [kD l k b,l7] at a;rcases a with a | a
  ·exact c.2 e a
  ·rw [i7.1 a];exact d⟩
theorem nh {l} (a:Pre l 9):ad l=none:=by
 have b:=zS (l.take 9) (l.drop 9) 9 (by rw [b9];have:=a.1;omega) a.2;rw [r8] at b;unfold ad;rw [b]
theorem zT {l} (a:Pre l l.length):ad l=none:=by
 have b:=rl 9 l (by have:=a.2;rwa [y7] at this);unfold ad;rw [b]
theorem ni {l k} (f:Pre l k) (g:k<l) (j:k<9) (h:(l[k]).toNat<128):
  dec 9 l=if 0<k/\(l[k]).toNat=0 then none else some (acc (l.take k)+128^k*(l[k]).toNat,l.drop (k+1)):=by
 have d:(l.take k).length=k:=by rw [b9];omega
 obtain ⟨c,i⟩: ∃c,9=k+(c+1):=⟨8-k,qO⟩;have b:=rk (l.take k) (c+1) (l.drop k) f.2;rw [r8,d,<-i,l8 g] at b;rw [dec.eq_3,if_pos h] at b;simp only at b;rw [b];have:(l.take k≠[])↔0<k:=by
  rw [<-L9,d]
 by_cases a:0<k/\(l[k]).toNat=0
 ·rw [if_pos a,if_pos ⟨this.2 a.1,a.2⟩]
 rw [if_neg a,if_neg (fun e=>a ⟨this.1 e.1,e.2⟩)]
theorem nj {l k} (a:Pre l k) (b:k<l) (c:k<9) (d:0<k) (e:(l[k]).toNat=0):ad l=none:=by
 unfold ad;rw [ni a b c qO,if_pos ⟨d,e⟩]
theorem nk {l k} (c:Pre l k) (a:k<l) (d:k<9) (b:(l[k]).toNat<128) (e: ¬(0<k/\(l[k]).toNat=0)):
  ad l=if acc (l.take (k+1))<=av then some (acc (l.take (k+1)),l.drop (k+1)) else none:=by
 unfold ad;have f:(l.take k).length=k:=by rw [b9];omega
 rw [ni c a d b,if_neg e,kD l k a,ng,f,NV b]
theorem iV {l:LU} {k} (a:k<l.length):acc (l.take (k+1))=acc (l.take k)+128^k*((l[k]).toNat%128):=by
 have b:(l.take k).length=k:=by rw [b9];omega
 rw [kD l k a,ng,b]
theorem kE (l:LU) (k) (a:k<=l.length):acc (l.take k)<128^k:=by
 have:=zR (l.take k);rwa [b9,Oj a] at this
theorem zU {l k} (h:Pre l k) (a:k<l) (i:k<9) (e:(l[k]).toNat<128):
  (num (acc (l.take (k+1)))).length=k+1↔ ¬(0<k/\(l[k]).toNat=0):=by
 constructor
 ·intro n c;have f:=iV a;rw [c.2] at f;have d:=kE l k (H7 a);obtain ⟨b,rfl⟩: ∃b,k=b+1:=⟨k-1,qO⟩;have j:=aJ b (acc (l.take (b+1+1))) (by rw [f];simpa using d);omega
 intro c;have m:(l.take k).length=k:=by rw [b9];omega
 have g:=ni h a i e;rw [if_neg c] at g;have d:=(nf 9 _ _ _ g).1;rw [kD l k a,ng,m,NV e];have j:l=(num (acc (l.take k)+128^k*(l[k]).toNat)).length+(l-(k+1)):=by
  have:=congrArg List.length d;rwa [b7,b8] at this
 omega
def text (l:LU):LU:=num l.length++l
def bh (b:LU) (d:Int):Option (LU×LU):=
 match ad b with
 | none=>none
 | some (a,c)=>if (a:Int)<=d/\a<=c then some (c.take a,c.drop a) else none
theorem nl (l r most) (a:(l.length:Int)<=most) (b:l.length<=av):bh (text l++r) most=some (l,r):=by
 unfold bh text;rw [g9,dV _ _ b];simp [a]
theorem fT {b most l r} (a:bh b most=some (l,r)):b=text l++r/\(l.length:Int)<=most/\l.length<=av:=by
 unfold bh at a;cases d:ad b with
 | none=>rw [d] at a;cases a
 | some h=>
 obtain ⟨c,g⟩:=h;rw [d] at a;simp only at a;by_cases e:(c:Int)<=most/\c<=g
 ·rw [if_pos e] at a;obtain ⟨rfl,rfl⟩:=NK (K8 a);obtain ⟨rfl,i⟩:=ch d;have f:(g.take c).length=c:=by rw [b9];omega
  exact ⟨by rw [text,f,g9,r8],by rw [f];exact e.1,by rw [f];exact i⟩
 rw [if_neg e] at a;cases a
def aj (n:Int):Nat:=(min (max n 0) 4611686018427387903).toNat
theorem eE (n):aj n<=av:=by unfold aj av;omega
end Go.Dol
namespace Go.Proofs.YtecpbcmpncgokaaGreat
theorem iW (A l c w) (b:Rd w w.heap.size 1 A l.length (bc l)) (n:l.length<=kaa):
  Calls an 93 #[.slice A l c] w (ep 5 w l):=by
 have o:=rn;cases A with
 | none=>
  have d:=b.none_zero;obtain rfl:l=[]:=nZ d;go_in;go_wp2;go_ret;exact ⟨[],none,0,rfl,rfl,j9 _ _ _ _,bR _ _,lR _,by unfold maxLen;omega⟩
 | some a=>
 go_in;go_wp2_with (at_builtin;refine bQ rfl (.tmp 5) (.tmp 6) rfl w.heap.size _ 0 [] rfl (eY w) w.heap.size (some a) l.length c l rfl (b.alloc (lR _) _) (by omega) (by simp) ?_);intro e f g p h i j q r k m;go_wp2;go_ret;exact ⟨e,f,g,h,rfl,i,((bR _ _).alloc (lR _) _).trans j,k,m⟩
theorem ro (A l n c w) (a:n=l.length) (b:Rd w w.heap.size 1 A n (bc l)) (d:n<=kaa):
  Calls an 93 #[.slice A n c] w (ep 5 w l):=by
 subst a;exact iW A l c w b d
theorem zV (A l c A2 l2 c2 w) (f:Rd w w.heap.size 1 A l.length (bc l)) (g:Rd w w.heap.size 1 A2 l2.length (bc l2))
  (r:l.length+l2<=kaa):
  Calls an 238 #[.slice A l c,.slice A2 l2 c2] w (ep 5 w (l++l2)):=by
 go_in;go_wp2_with fail;refine (iW A l c w f qO).mono ?_;rintro s t ⟨a,u,v,b,rfl,h,d,x,y⟩;have z:a.length<=l:=by rw [b];exact lR _
 have i:=d.size;go_wp2_with (at_builtin;refine bQ rfl (.tmp 6) (.tmp 7) rfl w.heap.size _ a.length a rfl h w.heap.size A2 l2.length c2 l2 rfl (g.below d) (by omega) i ?_);intro j k m B e n o C D p q;go_wp2;go_ret;exact ⟨j,k,m,by unfold Hid at b e ⊢; rw [e,b],rfl,n,d.trans o,p,q⟩
theorem zW (A l c s w) (f:Rd w w.heap.size 1 A l.length (bc l))
  (q:l.length+s.size<=kaa):
  Calls an 272 #[.slice A l c,.string s] w (ep 5 w (l++s.data.toList)):=by
 go_in;go_wp2_with fail;refine (iW A l c w f qO).mono ?_;rintro r t ⟨a,u,v,b,rfl,g,d,x,y⟩;have z:a.length<=l:=by rw [b];exact lR _
 have h:=d.size;go_wp2_with (at_builtin;refine et rfl (.tmp 6) (.tmp 7) rfl w.heap.size _ a.length a rfl g s rfl (by omega) h ?_);intro i j k B e m n C o p;go_wp2;go_ret;exact ⟨i,j,k,by unfold Hid at b e ⊢; rw [e,b],rfl,m,d.trans n,o,p⟩
def zX (b:Nat) (w:World) (n v:Value) (wr:World):Prop:=
 ∃(a:Nat) (l:LU) (c:OA) (d:Nat),n= .int .i64 a/\v= .slice c l d/\wr.ownsRow w 5 1 (.slice c l d) l (bc l)/\Hid (l++num a=num b)/\Below w w wr/\a<=b
theorem rp (n): ∃M:Int,(∀w:World,(Builtin.max_ #[3,3] 3 #[.int .i64 n,.int .i64 0]).run an w= .ok (.int .i64 M) w)/\
  (∀w:World,(Builtin.min_ #[3,3] 3 #[.int .i64 M,.int .i64 4611686018427387903]).run an w= .ok (.int .i64 (aj n:Nat)) w):=by
 refine ⟨if 0>n then 0 else n,fun w=>run_max_int2 _ _ _ _ _ _ _,fun w=> ?_⟩;rw [run_min_int2];congr 2;unfold aj;split<;>split<;>omega
theorem dL (A l c n w) (D:Rd w w.heap.size 1 A l.length (bc l)) (Y:l.length+9<=kaa):
  Calls an 167 #[.slice A l c,.int .i64 n] w (ep 5 w (l++num (aj n))):=by
 obtain ⟨Z,E,u⟩:=rp n;obtain ⟨b,f⟩:=gX (aj n);have F:Hid (b<=av):=by rw [f];exact eE n
 rw [<-f] at u ⊢;clear f;go_in;go_wp2_with fail;clear E u;go_loopw [1,5] (fun g G wr=>zX b w g G wr) (fun g _ _=>(intOf g).toNat)
 case atStart=>exact ⟨b,[],none,0,rfl,rfl,j9 _ _ _ _,rfl,bR _ _,lR _⟩
 case round=>
  obtain ⟨m,a,a0,b0,rfl,rfl,v,h,i,c0⟩:=hrel;have H:a+(num m).length<=9:=by
   have I:(a++num m).length=(num b).length:=by rw [h]
   have x:=aJ 8 b (by have:=F.out;unfold av at this;omega);rw [b7] at I;omega
  have J:=kC m;have d0:a.length<=8:=qO;clear H J;have e0:=i.size;by_cases K:128<=m
  ·have f0:(128:Int)<=m:=qO;have y:=zY m;have z:0<=bits .or .u8 (m%256) 128:=qO;have B:bits .or .u8 (m%256) 128<256:=qO;have L:=qI y;clear y;go_wp2_with (at_builtin;refine cY rfl (.tmp 13) (.tmp 17) rfl w.heap.size _ a.length a rfl v rfl z B (by omega) (by omega) ?_);intro M d j k C o e p q N O P Q;clear z B;go_wp2_with fail;refine ⟨⟨m/128,d,j,k,by go_num,rfl,p,?_,i.trans q,qO⟩,by simp [intOf];omega⟩;have r:=eu o L.out;unfold Hid at*;rw [e,r,<-h,iU K];simp
  go_wp2_with (at_builtin;refine cY rfl (.tmp 20) (.tmp 23) rfl w.heap.size _ a.length a rfl v rfl (by omega) (by omega) (by omega) (by omega) ?_);intro M d j k C o e p q N O P Q;have s:=i.trans q;have t:=s.size;have g0:d.length<=9:=by rw [e,b7];simp;omega
  go_wp2_with fail;refine (zV A l c j d k C (D.belowW s (lR _) |>.more t) (d8 p) qO).mono ?_;rintro h0 i0 ⟨R,S,T,x,rfl,U,V,W,X⟩;go_wp2_with fail;go_ret;refine ⟨R,S,T,?_,rfl,U.base t,s.trans (V.mono t),W,X⟩;have r:=eu (n:=m) o qO;unfold Hid at*;rw [x,e,r,<-h,gD qO]
def zZ (d:Nat) (b:LU) (w:World) (n v:Value) (wr:World):Prop:=
 ∃(c:Nat) (l:LU) (e:OA) (a:Nat),n= .int .i64 c/\v= .slice e l a/\wr.ownsRow w 5 1 (.slice e l a) l (bc l)/\Hid (l++num c=b++num d)/\Below w w wr/\c<=d/\l<=a/\a<=maxLen
theorem cj (A l c n w) (u:Rd w w.heap.size 1 A l.length (bc l)) (W:l.length+9<=kaa):
  Calls an 120 #[.slice A l c,.int .i64 n] w (ep 5 w (l++num (aj n))):=by
 obtain ⟨X,F,v⟩:=rp n;obtain ⟨b,d⟩:=gX (aj n);have x:Hid (b<=av):=by rw [d];exact eE n
 rw [<-d] at v ⊢;clear d;go_in;go_wp2_with (at_builtin;refine bQ rfl (.tmp 9) (.tmp 10) rfl w.heap.size (.slice none 0 0) 0 [] rfl (j9 _ _ _ _) w.heap.size A l.length c l rfl u (by omega) (lR _) ?_);intro G H I Y y z B J K C D;clear F v u;go_wp2_with fail;go_loopw [1,5] (fun e L wr=>zZ b l w e L wr) (fun e _ _=>(intOf e).toNat)
 case atStart=>exact ⟨b,G,H,I,rfl,rfl,z,by unfold Hid;rw [y],B,lR _,C,D⟩
 case round=>
  clear y z B J K C D;obtain ⟨m,a,Z,a0,rfl,rfl,E,f,g,b0,M,N⟩:=hrel;have O:a+(num m).length<=l+9:=by
   have P:(a++num m).length=(l++num b).length:=by rw [f]
   have c0:=aJ 8 b (by have:=x.out;unfold av at this;omega);rw [b7,b7] at P;omega
  have Q:=kC m;have d0:a.length+1<=l+9:=qO;have e0:(m:Int)<=kag:=by have:=x.out;unfold av at this;omega
  clear O Q M N;have f0:=g.size;by_cases R:128<=m
  ·have g0:(128:Int)<=m:=qO;go_wp2_with (at_builtin;refine cY rfl (.tmp 14) (.tmp 19) rfl w.heap.size _ a.length a rfl E rfl (by omega) (by omega) (by omega) (by omega) ?_);intro S h i j T k o p q U V r s;go_wp2_with fail;refine ⟨⟨m/128,h,i,j,by go_num,rfl,p,?_,g.trans q,qO,r,s⟩,by simp [intOf];omega⟩;have t:=eu (n:=128+m%128) k (by omega);unfold Hid at*;rw [o,t,<-f,iU R];simp
  go_wp2_with (at_builtin;refine cY rfl (.tmp 23) (.tmp 26) rfl w.heap.size _ a.length a rfl E rfl (by omega) (by omega) (by omega) (by omega) ?_);intro S h i j T k o p q U V r s;go_wp2_with fail;go_ret;refine ⟨h,i,j,?_,rfl,p,g.trans q,r,s⟩;have t:=eu (n:=m) k qO;unfold Hid at*;rw [o,t,<-f,gD qO]
theorem rq {k} (a:k<=av):aj (k:Int)=k:=by unfold aj;unfold av at a;omega
theorem ia (A l c s w) (f:Rd w w.heap.size 1 A l.length (bc l)) (y:l.length+9+s.size<=kaa):
  Calls an 253 #[.slice A l c,.string s] w (ep 5 w (l++text s.data.toList)):=by
 have a:s.data.toList=s.size:=by rw [v7];rfl
 have Hm:Hid (s.size<=av):=qI (by unfold av;omega);have Hc:=qI (rq Hm);have g:=qI a;clear a;go_in;go_wp2_with fail;refine (dL A l c s.size w f qO).mono ?_;rintro i j ⟨b,k,m,e1,rfl,n,d,z,B⟩;have C:b.length<=l+9:=by
  exact z186
 have e:=d.size;go_wp2_with fail;refine (zW k b m s j (d8 n) qO).mono ?_;rintro i D ⟨o,q,r,e2,rfl,t,u,v,x⟩;go_wp2_with fail;go_ret;refine ⟨o,q,r,?_,rfl,t.base e,d.trans (u.mono e),v,x⟩;unfold Hid at*;rw [e2,e1,Hc,text,g,g9]
theorem gF (A l c s w) (e:Rd w w.heap.size 1 A l.length (bc l)) (u:l.length+9+s.size<=kaa):
  Calls an 121 #[.slice A l c,.string s] w (ep 5 w (l++text s.data.toList)):=by
 have b:s.data.toList=s.size:=by rw [v7];rfl
 have Hm:Hid (s.size<=av):=qI (by unfold av;omega);have Hc:=qI (rq Hm);have f:=qI b;clear b;go_in;go_wp2_with fail;refine (cj A l c s.size w e qO).mono ?_;rintro v x ⟨a,y,z,e1,rfl,g,d,B,C⟩;have D:a.length<=l+9:=by
  exact z186
 have i:=d.size;go_wp2_with (at_builtin;refine et rfl (.tmp 8) (.tmp 9) rfl w.heap.size _ a.length a rfl g s rfl (by omega) i ?_);intro j k m E n o q F r t;go_wp2;go_ret;refine ⟨j,k,m,?_,rfl,o,d.trans q,r,t⟩;unfold Hid at*;rw [n,e1,Hc,text,f,g9]
theorem nr (A1 l c1 A2 l2 c2 w B1 B2) (a:Rd w B1 1 A1 l.length (bc l)) (b:Rd w B2 1 A2 l2.length (bc l2)) (c:Hid (l=l2)):
  Calls an 24 #[.slice A1 l c1,.slice A2 l2 c2] w fun d w'=>d= .returned true/\w=w':=by
 obtain rfl:=c.out;go_in;go_wp2_with (first | refine fU rfl (.tmp 5) rfl B1 A1 _ c1 l rfl a ?_ | refine fU rfl (.tmp 7) rfl B2 A2 _ c2 l rfl b ?_);go_ret;exact ⟨by simp,rfl⟩
def Ac (l:LU) (n c i:Value):Prop:=
 ∃a b:Nat,n= .int .u64 b/\c= .int .i64 0/\i= .int .i64 a/\Pre l a/\a<=9/\Hid (b=acc (l.take a))
theorem fu (A l c w) (hr:Rd w w.heap.size 1 A l.length (bc l)) (U:l.length<=kaa) (hc:l.length<=c):
  Calls an 209 #[.slice A l c] w (rr 5 w (ad l)):=by
 go_in;go_wp2_with fail;go_step3;go_wp2_with fail;go_step3;go_wp2_with fail;go_loop [5,6,11] (fun I J i=>Ac l I J i) (fun _ _ i=>9-(intOf i).toNat)
 case atStart=>exact ⟨0,0,rfl,rfl,rfl,Pre.zero l,qO,by simp [Hid,acc]⟩
 case round=>
  obtain ⟨k,r,rfl,rfl,rfl,s,K,j⟩:=hrel;have z:=s.1;have HP:=qI s;clear s;by_cases hlt:k<l
  ·obtain ⟨b,off,rfl,V,B⟩:=hr.at_ qO;have L:=B k _ (bu l k hlt);obtain ⟨a,t⟩:=gX ((l[k]).toNat);have C:a<256:=by have:=(l[k]).toNat_lt;omega
   rw [<-t] at L;have d:=qI t;clear t B;by_cases D:k=9
   ·subst D;go_wp2_with fail;go_ret3;rw [nh HP.out];exact ⟨rfl,bR _ _⟩
   have m:k<9:=qO;clear D K;by_cases n:a<128
   ·by_cases E:a=0/\0<k
    ·obtain ⟨f,u⟩:=E;have M:=qI f;have F:(a:Int)<1:=qO;clear f;go_wp2_with fail;go_ret3;rw [nj HP.out hlt m u (by rw [<-d];exact M.out)];exact ⟨rfl,bR _ _⟩
    have v:bits .and .u8 a 127=(a:Int):=by rw [rt a C,NV n]
    obtain ⟨G,m',o,x,g⟩:=ru r a k m (by rw [j];exact kE l k z) n;have q:m'=acc (l.take (k+1)):=by rw [iV hlt,g,j,<-d,NV n]
    have HT:Hid (ad l=if m'<=av then some (m',l.drop (k+1)) else none):=by
     have:=nk HP.out hlt m (by rw [<-d];exact n) (by rw [<-d];omega);rwa [<-q] at this
    clear g q;have N:a=0/\k=0\/1<=a:=qO;clear E;rcases N with ⟨f,u⟩ | O
    ·have F:(a:Int)<1:=qO;have W:(k:Int)<1:=qO;have P:((k:Int)+1==0)=false:=beq_eq_false_iff_ne.2 qO;have X:bits .and .u8 0 127=0:=by decide
     have Y:bits .or .u64 (r:Int) 0=(m':Int):=by
      rw [f] at o;have Q:(0:Int)=G:=by rw [<-o];simp [Oc]
      rw [<-x,<-Q]
     clear f u v o x;exact z227
    have F:(1:Int)<=a:=qO;have Z:(a:Int)<128:=qO;have P:((k:Int)+1==0)=false:=beq_eq_false_iff_ne.2 qO;clear O;exact z227
   have v:=rt a C;obtain ⟨H,y⟩:=gX (a%128);have R:H<128:=qO;rw [<-y] at v;have S:=qI y;clear y;obtain ⟨G,m',o,x,g⟩:=ru r H k m (by rw [j];exact kE l k z) R;have q:Hid (m'=acc (l.take (k+1))):=by unfold Hid;rw [iV hlt,g,j,<-d,<-S]
   clear g;have T:Hid (Pre l (k+1)):=HP.out.succ hlt (by rw [<-d];omega);go_wp2_with fail;exact ⟨⟨k+1,m',rfl,rfl,by go_num,T.out,qO,q⟩,by simp [intOf];omega⟩
  exact z268
def Af (l:LU) (n p i:Value):Prop:=
 ∃(a b:Nat) (c:Int),n= .int .i64 b/\p= .int .i64 c/\i= .int .i64 a/\Pre l a/\a<=9/\Hid (b=acc (l.take a))/\Hid (a<9->c=((128^a:Nat):Int))
theorem Ag (m y k:Nat) (b:k<8\/k=8/\y<=63) (d:m<128^k) (e:y<128):
  ∃a:Nat,(y:Int)*((128^k:Nat):Int)=(a:Int)/\a=128^k*y/\m+a<=av:=by
 refine ⟨128^k*y,by rw [Int.mul_comm];simp,rfl,?_⟩;unfold av;rcases b with b | ⟨rfl,f⟩
 ·have c:128^k<=128^7:=NL (by decide) qO;have g:128^k*y<=128^7*127:=Nat.mul_le_mul c qO;omega
 omega
theorem Ah {l k} (b:Pre l k) (a:k<l) (c:k=8) (e:63<(l[k]).toNat%128):ad l=none:=by
 subst c;by_cases d:(l[8]).toNat<128
 ·rw [nk b a qO d qO,if_neg];rw [iV a];unfold av;omega
 exact nh (b.succ a qO)
theorem ee (A l c w) (r:Rd w w.heap.size 1 A l.length (bc l)) (f0:l.length<=kaa) (I:l.length<=c):
  Calls an 142 #[.slice A l c] w (rr 5 w (ad l)):=by
 go_in;go_wp2_with fail;go_loop [5,6,7] (fun S p i=>Af l S p i) (fun _ _ i=>9-(intOf i).toNat)
 case atStart=>exact ⟨0,0,1,rfl,rfl,rfl,Pre.zero l,qO,by simp [Hid,acc],by simp [Hid]⟩
 case round=>
  obtain ⟨k,a,T,rfl,rfl,rfl,s,t,J,U⟩:=hrel;have V:=s.1;have HP:=qI s;clear s;by_cases hlt:k<l
  ·by_cases u:k=9
   ·have g0: ¬(k:Int)<9:=qO;have HK:=qI u;clear u;go_wp2_with fail;go_ret3;have:=HP.out;rw [HK] at this;rw [nh this];exact ⟨rfl,bR _ _⟩
   have W:k<9:=qO;obtain ⟨K,L,rfl,h0,M⟩:=r.at_ qO;have X:=M k _ (bu l k hlt);obtain ⟨d,v⟩:=gX ((l[k]).toNat);have i0:d<256:=by have:=(l[k]).toNat_lt;omega
   rw [<-v] at X;have HX:=qI v;clear v M u t;obtain ⟨g,N⟩:=gX (d%128);have j0:(d:Int)%128=g:=qO;have Y:g<128:=qO;have O:=qI N;clear N;have P:Hid (T=((128^k:Nat):Int)):=U.out W;by_cases Q:k=8/\63<g
   ·obtain ⟨hb1,Z⟩:=Q;have a0:=qI hb1;have k0:(8:Int)<=k:=qO;have l0:(63:Int)<g:=qO;clear hb1;go_wp2_with fail;go_ret3;rw [Ah HP.out hlt a0.out (by rw [<-HX,<-O];exact Z)];exact ⟨rfl,bR _ _⟩
   obtain ⟨b,b0,R,x⟩:=Ag a g k qO (by rw [J];exact kE l k V) Y;have m0:(a:Int)+b<=kag:=by unfold av at x;omega
   rw [<-P] at b0;have hm':Hid (a+b=acc (l.take (k+1))):=by unfold Hid;rw [iV hlt,R,J,<-HX,<-O]
   have HM:=qI x;clear R x;have c0:k<8\/k=8/\g<=63:=qO;clear Q;rcases c0 with y | ⟨y,d0⟩
   ·have e0:(k:Int)<8:=qO;clear y;by_cases hx128:d<128
    ·have n:Hid ((num (a+b)).length=k+1↔ ¬(0<k/\d=0)):=by
      exact z286
     have Hc:Hid (aj ((a:Int)+b)=a+b):=by have:=HM.out;unfold av at this;unfold Hid aj;omega
     by_cases hxk:0<k/\d=0
     ·have HT:Hid (ad l=none):=nj HP.out hlt qO hxk.1 (by rw [<-HX];exact hxk.2);have HL2:Hid ((num (a+b)).length≠k+1):=fun j=>n.1 j hxk;have o:(d:Int)<128:=qO;clear hxk;go_wp2_with fail;refine (cj none [] 0 _ w L8 (by simp)).mono ?_;rintro j e ⟨m,z,B,e1,rfl,C,hb1,D,E⟩;have F:((m:Int)!=k+1)=true:=by
       exact z185
      go_wp2_with fail;go_ret3;rw [HT];exact ⟨rfl,hb1⟩
     have HT:Hid (ad l=some (a+b,l.drop (k+1))):=by
      exact z271
     have HL2:Hid ((num (a+b)).length=k+1):=n.2 hxk;have o:(d:Int)<128:=qO;clear hxk;go_wp2_with fail;refine (cj none [] 0 _ w L8 (by simp)).mono ?_;rintro j e ⟨m,z,B,e1,rfl,C,hb1,D,E⟩;have F:((m:Int)!=k+1)=false:=by
      exact z159
     have hs:=hb1.size;have f:=((r.tail (k:=k+1) hlt I).belowW hb1 (lR _)).more hs;by_cases q:c=k+1
     ·rw [if_pos q] at f;go_wp2_with (at_builtin;refine bQ rfl (.tmp 48) (.tmp 52) rfl e.heap.size _ 0 [] rfl (eY e) _ _ _ _ (l.drop (k+1)) rfl (f.alloc (lR _) _) (by omega) (by simp) ?_);exact z27
     rw [if_neg q] at f;have G:Rd e e 1 (some ⟨K,L+(k+1),none⟩) (l-(k+1)) (bc (l.drop (k+1))):=by simpa [H8] using f
     clear f;go_wp2_with (at_builtin;refine bQ rfl (.tmp 48) (.tmp 52) rfl e.heap.size _ 0 [] rfl (eY e) _ _ _ _ (l.drop (k+1)) rfl (G.alloc (lR _) _) (by omega) (by simp) ?_);exact z27
    have o: ¬(d:Int)<128:=qO;have H:Hid (Pre l (k+1)):=HP.out.succ hlt (by rw [<-HX];omega);go_wp2_with fail;refine ⟨⟨k+1,a+b,_,by go_num,rfl,by go_num,H.out,qO,hm',?_⟩,by simp [intOf];omega⟩;unfold Hid at*;intro t;have n0:128^k<=128^7:=NL (by decide) qO;have o0:0<128^k:=Nat.pow_pos (by decide);rw [P,IntWalk.wrap64_in _ qO,Ns];simp
   subst y;have e0:(g:Int)<=63:=qO;clear d0;by_cases hx128:d<128
   ·have n:Hid ((num (a+b)).length=8+1↔ ¬(0<8/\d=0)):=by
     exact z286
    have Hc:Hid (aj ((a:Int)+b)=a+b):=by have:=HM.out;unfold av at this;unfold Hid aj;omega
    by_cases hxk:0<8/\d=0
    ·have HT:Hid (ad l=none):=nj HP.out hlt qO hxk.1 (by rw [<-HX];exact hxk.2);have HL2:Hid ((num (a+b)).length≠8+1):=fun j=>n.1 j hxk;have o:(d:Int)<128:=qO;clear hxk;go_wp2_with fail;refine (cj none [] 0 _ w L8 (by simp)).mono ?_;rintro j e ⟨m,z,B,e1,rfl,C,hb1,D,E⟩;have F:((m:Int)!=8+1)=true:=by
      exact z185
     go_wp2_with fail;go_ret3;rw [HT];exact ⟨rfl,hb1⟩
    have HT:Hid (ad l=some (a+b,l.drop (8+1))):=by
     exact z271
    have HL2:Hid ((num (a+b)).length=8+1):=n.2 hxk;have o:(d:Int)<128:=qO;clear hxk;go_wp2_with fail;refine (cj none [] 0 _ w L8 (by simp)).mono ?_;rintro j e ⟨m,z,B,e1,rfl,C,hb1,D,E⟩;have F:((m:Int)!=8+1)=false:=by
     exact z159
    have hs:=hb1.size;have f:=((r.tail (k:=8+1) hlt I).belowW hb1 (lR _)).more hs;by_cases q:c=8+1
    ·rw [if_pos q] at f;go_wp2_with (at_builtin;refine bQ rfl (.tmp 48) (.tmp 52) rfl e.heap.size _ 0 [] rfl (eY e) _ _ _ _ (l.drop (8+1)) rfl (f.alloc (lR _) _) (by omega) (by simp) ?_);exact z27
    rw [if_neg q] at f;have G:Rd e e 1 (some ⟨K,L+(8+1),none⟩) (l.length-(8+1)) (bc (l.drop (8+1))):=by simpa [H8] using f
    clear f;go_wp2_with (at_builtin;refine bQ rfl (.tmp 48) (.tmp 52) rfl e.heap.size _ 0 [] rfl (eY e) _ _ _ _ (l.drop (8+1)) rfl (G.alloc (lR _) _) (by omega) (by simp) ?_);exact z27
   have o: ¬(d:Int)<128:=qO;have H:Hid (Pre l (8+1)):=HP.out.succ hlt (by rw [<-HX];omega);go_wp2_with fail;refine ⟨⟨8+1,a+b,_,by go_num,rfl,by go_num,H.out,qO,hm',?_⟩,by simp [intOf]⟩;unfold Hid at*;intro t;omega
  exact z268
def kF (w:World) (r:Option (LU×LU)) (b:Ending) (w':World):Prop:=
 match r with
 | none=>b= .returned (.tuple #[eS,eL,.int .i64 2])/\Below w w w'
 | some (e,f)=> ∃(a:LU) (c:OA) (d:Nat),Hid (a=f)/\b= .returned (.tuple #[.string ⟨e.toArray⟩,.slice c a d,i0])/\Seg w' w 5 1 c a d (bc a)/\Below w w w'
theorem rv (A l c most w) (b:Rd w w.heap.size 1 A l.length (bc l)) (d:l.length<=kaa) (f:l.length<=c):
  Calls an 255 #[.slice A l c,.int .i64 most] w (kF w (bh l most)):=by
 cases ht:ad l with
 | none=>
  have HE:Hid (bh l most=none):=by unfold Hid bh;rw [ht]
  have HT:=qI ht;clear ht;go_in;go_wp2_with fail;refine (fu A l c w b d f).mono ?_;exact z175
 | some p=>
 obtain ⟨n,q⟩:=p;have g:=(ch ht).2;unfold av at g;have m:(n:Int)<=kag:=qO;have HE:Hid (bh l most=if (n:Int)<=most/\n<=q then some (q.take n,q.drop n) else none):=by unfold Hid bh;rw [ht]
 have HT:=qI ht;clear ht g;have i:most<(n:Int)\/((n:Int)<=most/\q<n)\/((n:Int)<=most/\n<=q):=qO;rcases i with a | ⟨a,h00⟩ | ⟨a,h00⟩
 ·have HE2:Hid (bh l most=none):=by have:=HE.out;rwa [if_neg qO] at this
  clear HE;go_in;go_wp2_with fail;refine (fu A l c w b d f).mono ?_;exact z135
 ·have HE2:Hid (bh l most=none):=by have:=HE.out;rwa [if_neg qO] at this
  clear HE;have j:decide (most<(n:Int))=false:=by simpa using a
  go_in;go_wp2_with fail;refine (fu A l c w b d f).mono ?_;exact z55
 have HE2:Hid (bh l most=some (q.take n,q.drop n)):=by have:=HE.out;rwa [if_pos ⟨a,h00⟩] at this
 clear HE;have j:decide (most<(n:Int))=false:=by simpa using a
 go_in;go_wp2_with fail;refine (fu A l c w b d f).mono ?_;exact z223
theorem rx (A l c most w) (b:Rd w w.heap.size 1 A l.length (bc l)) (d:l.length<=kaa) (f:l.length<=c):
  Calls an 143 #[.slice A l c,.int .i64 most] w (kF w (bh l most)):=by
 cases ht:ad l with
 | none=>
  have HE:Hid (bh l most=none):=by unfold Hid bh;rw [ht]
  have HT:=qI ht;clear ht;go_in;go_wp2_with fail;refine (ee A l c w b d f).mono ?_;exact z175
 | some p=>
 obtain ⟨n,q⟩:=p;have g:=(ch ht).2;unfold av at g;have m:(n:Int)<=kag:=qO;have HE:Hid (bh l most=if (n:Int)<=most/\n<=q then some (q.take n,q.drop n) else none):=by unfold Hid bh;rw [ht]
 have HT:=qI ht;clear ht g;have i:most<(n:Int)\/((n:Int)<=most/\q<n)\/((n:Int)<=most/\n<=q):=qO;rcases i with a | ⟨a,h00⟩ | ⟨a,h00⟩
 ·have HE2:Hid (bh l most=none):=by have:=HE.out;rwa [if_neg qO] at this
  clear HE;go_in;go_wp2_with fail;refine (ee A l c w b d f).mono ?_;exact z135
 ·have HE2:Hid (bh l most=none):=by have:=HE.out;rwa [if_neg qO] at this
  clear HE;have j:decide (most<(n:Int))=false:=by simpa using a
  go_in;go_wp2_with fail;refine (ee A l c w b d f).mono ?_;exact z55
 have HE2:Hid (bh l most=some (q.take n,q.drop n)):=by have:=HE.out;rwa [if_pos ⟨a,h00⟩] at this
 clear HE;have j:decide (most<(n:Int))=false:=by simpa using a
 go_in;go_wp2_with fail;refine (ee A l c w b d f).mono ?_;exact z223
