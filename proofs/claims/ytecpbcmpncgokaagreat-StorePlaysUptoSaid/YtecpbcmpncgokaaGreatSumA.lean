/- Walks and laws. Conditions: as stated. -/
import Derived.Test.YtecpbcmpncgokaaGreatWordsA
set_option maxRecDepth 99999
set_option maxHeartbeats 25600000
set_option linter.all false
open List renaming replicate->PI,range->PO
open Go.World renaming drew->pp
open Go.Proofs.Tryz renaming prog->an
open Go.RowKit Go.Dol
namespace Go.Dol
def iP (x:Int) (k:Nat):Int:=bits .or .u32 ((x*2^k)%kak) (x/2^(32-k))
def bn (S:List Int) (i:Nat):Int:=S[i]?.getD 0
def fq (S a:List Int) (r i:Nat):Int:=
 (iP (bits .xor .u32 (bn S i) (bn a ((i+r)%8))) (5+3*i)+bn S ((i+1)%8)*2246822507+((i:Int)+r))%kak
def inner (S a:List Int) (r:Nat):Nat->List Int
 | 0=>S
 | i+1=>(inner S a r i).set i (fq (inner S a r i) a r i)
def rounds (S a:List Int):Nat->List Int
 | 0=>S
 | r+1=>inner (rounds S a r) a r 8
def Words (S:List Int):Prop:=S.length=8/\ ∀a∈S,0<=a/\a<4294967296
theorem Words.get {S} (a:Words S) {i} (hi:i<8):0<=bn S i/\bn S i<kak:=by
 have b:i<S:=by rw [a.1];exact hi
 have:bn S i=S[i]:=by simp [bn,gE b]
 rw [this];exact a.2 _ (NF b)
theorem Words.set {S} (b:Words S) (i) {x} (c:0<=x/\x<4294967296):Words (S.set i x):=
 ⟨by rw [OJ];exact b.1,fun d a=>by
  rcases OB a with a | rfl
  ·exact b.2 d a
  ·exact c⟩
theorem LZ (S W r i):0<=fq S W r i/\fq S W r i<kak:=by
 unfold fq;omega
theorem Words.inner {S:List Int} (a:Words S) (b:List Int) (r:Nat): ∀i,Words (inner S b r i)
 | 0=>a
 | i+1=>(Words.inner a b r i).set i (LZ _ _ _ _)
theorem Words.rounds {S:List Int} (b:Words S) (a:List Int): ∀r,Words (rounds S a r)
 | 0=>b
 | r+1=>(Words.rounds b a r).inner a r 8
def leN (l:LU):Nat:=l.foldr (fun a b=>a.toNat+256*b) 0
theorem Ma (l c):leN (l++[c])=leN l+256^l.length*c.toNat:=by
 induction l with
 | nil=>simp [leN]
 | cons a l b=>
 have d:leN (a::l++[c])=a.toNat+256*leN (l++[c]):=rfl;have e:leN (a::l)=a.toNat+256*leN l:=rfl;rw [d,e,b,List.length_cons,Ns,Nat.mul_add,OH,Nat.mul_comm (256^l.length) 256,Nat.mul_assoc]
theorem zj (l):leN l<256^l.length:=by
 induction l with
 | nil=>simp [leN]
 | cons a l c=>
 have b:leN (a::l)=a.toNat+256*leN l:=rfl;have:=a.toNat_lt;rw [b,List.length_cons,Ns];omega
def ea (b:LU) (i:Nat):Int:=(leN ((b.drop (4*i)).take 4):Nat)
def eD (b:LU):List Int:=(PO 8).map (ea b)
def sumB (S:List Int) (b:LU):List Int:=rounds S (eD b) 8
theorem zk (b i):0<=ea b i/\ea b i<kak:=by
 unfold ea;have a:=zj ((b.drop (4*i)).take 4);have c:256^((b.drop (4*i)).take 4).length<=256^4:=NL (by decide) (List.length_take_le _ _);omega
theorem zl (b):Words (eD b):=
 ⟨by simp [eD],fun d a=>by
  obtain ⟨c,_,rfl⟩:=e9.1 a;exact zk b c⟩
theorem Words.sumB {S:List Int} (a:Words S) (b:LU):Words (sumB S b):=a.rounds _ 8
def bt (S:List Int) (l:LU):List Int×LU:=
 if a:l.length<32 then (S,l) else bt (sumB S (l.take 32)) (l.drop 32)
termination_by l.length
decreasing_by simp;omega
theorem fQ {S l} (a:l.length<32):bt S l=(S,l):=by rw [bt,dif_pos a]
theorem fR {S l} (a:32<=l.length):bt S l=bt (sumB S (l.take 32)) (l.drop 32):=by rw [bt,dif_neg qO]
theorem zm {S} (l) (a:Words S):Words (bt S l).1:=by
 induction d:l.length using Nat.strongRecOn generalizing S l with
 | _ e b=>
 by_cases c:l.length<32
 ·rw [fQ c];exact a
 rw [fR qO];exact b (l.drop 32).length (by rw [b8];omega) _ (a.sumB _) rfl
theorem qZ (S l):(bt S l).2.length<32/\(bt S l).2.length%32=l.length%32:=by
 induction b:l.length using Nat.strongRecOn generalizing S l with
 | _ d c=>
 by_cases a:l.length<32
 ·rw [fQ a];exact ⟨a,by rw [b]⟩
 rw [fR qO];have:=c (l.drop 32).length (by rw [b8];omega) (sumB S (l.take 32)) (l.drop 32) rfl;rw [b8] at this;exact ⟨this.1,qO⟩
theorem zn (S a b):bt S (a++b)=bt (bt S a).1 ((bt S a).2++b):=by
 induction e:a.length using Nat.strongRecOn generalizing S a with
 | _ f c=>
 by_cases d:a.length<32
 ·rw [fQ d]
 rw [fR (l:=a) qO,fR (l:=a++b) (by rw [b7];omega)];rw [List.take_append_of_le_length qO,List.drop_append_of_le_length qO];exact c (a.drop 32).length (by rw [b8];omega) _ _ rfl
def first:List Int:=(PO 8).map fun (a:Nat)=>(((a:Int)+1)*2654435769)%kak
theorem iQ:Words first:=⟨by simp [first],fun b a=>by
 obtain ⟨c,_,rfl⟩:=e9.1 a;omega⟩
def leB:Nat->Nat->LU
 | 0,_=>[]
 | n+1,x=>UInt8.ofNat (x%256)::leB n (x/256)
theorem iR: ∀n x,(leB n x).length=n
 | 0,_=>rfl
 | n+1,x=>by simp [leB,iR n]
def dv (m:Nat):Nat:=(24+64-(m%32+1))%32
def dK (m n:Nat):LU:=1::(PI (dv m) 0++(leB 8 n++PI 32 0))
def dh (S:List Int):LU:=S.flatMap fun a=>leB 4 a.toNat
def mU (S:List Int) (rest:LU) (n:Nat):LU:=dh (bt S (rest++dK rest n)).1
def aw (b:LU):LU:=mU (bt first b).1 (bt first b).2 b
theorem Mb {S} (c:S.length=8):(dh S).length=32:=by
 have: ∀a:List Int,(a.flatMap fun b=>leB 4 b.toNat).length=4*a.length:=by
  intro a;induction a with
  | nil=>rfl
  | cons b a d=>rw [List.flatMap_cons,b7,iR,d,List.length_cons];omega
 rw [dh,this,c]
theorem ew (b):(aw b).length=32:=Mb (zm _ (zm _ iQ)).1
theorem Mc {a b} (c:a%32=b%32) (n):dK a n=dK b n:=by unfold dK dv;rw [c]
theorem Md (b):aw b=dh (bt first (b++dK b.length b.length)).1:=by
 unfold aw mU;rw [zn first b,Mc (qZ first b).2]
theorem zo (m n):(m+(dK m n).length)%32=0:=by
 unfold dK dv;simp only [List.length_cons,b7,NE,iR];omega
theorem nb (z k):Builtin.zeroCells #[z] k=(PI k z).toArray:=by
 apply Array.toList_inj.1;simp only [Builtin.zeroCells,Array.toList_map,Array.toList_range];apply List.ext_getElem
 ·simp
 intro a b c;simp [Nat.mod_one]
theorem Mz {P} (w base t tn ty e) (i:TypeInfo) (z) (q r:IntKind) (s:P.underlying t=some (.slice e)) (u:P.underlying tn=some (.int r)) (hi:P.info? e=some i) (v:i.zero=some z)
  (x:i.size=1) (m:z.cells= #[z]) (E:z.oneCell'=true)
  (A n c xs) (F:Seg w base e 1 A n c xs) (k) (b:0<k)
  (y:n+k<=maxLen) (G:(n+k)*i.bytes<=kaa) (hbase:base<=w):
  ∃A' c' w',(Builtin.append_ #[t,tn] ty #[.slice A n c,.int q k]).run P w= .ok (.slice A' (n+k) c') w'/\Seg w' base e 1 A' (n+k) c' (xs++PI k z)/\
   w.grownBy w' (aT A c)/\(au A'=au A\/au A'=some w.heap.size):=by
 obtain ⟨d,W,H,f⟩:=F;have X:n+k<=kal:=by simp only [maxLen] at y;omega
 have I:k≠0:=qO;have J:IntKind.i64.wrap k=k:=by rw [IntKind.wrap_i64];omega
 have Y:k*i.bytes<=(n+k)*i.bytes:=Oo _ qO;have K: ¬(281474976710656<(k:Int)*i.bytes):=by
  rw [<-Int.natCast_mul];omega
 have L: ¬((k:Int)<0):=qO;have l:(xs++PI k z).length=(n+k)*1:=by rw [b7,d,NE];omega
 by_cases B:n+k<=c
 ·rcases f with f | ⟨g,off,cur,rfl,C,a3,M,a5⟩
  ·omega
  have D:=run_storeCells_at P g (off+n) e (PI k z) 0 cur w a3 (by rw [NE];omega) (fun Z N=>by rw [(List.mem_replicate.1 N).2];exact E);simp only [Oe] at D;refine ⟨_,c,w.setRow g (cur.toList.take (off+n)++PI k z++cur.toList.drop (off+n+(PI k z).length)).toArray,?_,
   ⟨l,B,H,.inr ⟨g,off,_,rfl,C,setRow_heap w g cur _ e _ a3,?_,?_⟩⟩,?_,.inl rfl⟩
  ·simp [Builtin.append_,run_underlying s,run_underlying u,sizeOf,typeInfo,zeroValue,hi,v,x,m,nb,asInt,asIntOf,J,I,L,K,B,H8,D]
  ·simp only [List.size_toArray,b7,b9,b8,v7,NE];omega
  ·rw [<-a5,g9,List.drop_append,Pq];have O:off-(cur.toList.take (off+n)).length=0:=by rw [b9,v7];omega
   rw [O,y8,NN,s9,s9];rw [s9] at a5;have Q:((cur.toList.drop off).take n++PI k z).length=n+k:=by rw [a5];simpa using l
   rw [<-g9,<-Q];exact Nx
  unfold aT;rw [if_pos qO];exact ⟨rfl,rfl,rfl,by simp,fun j _ o=>setRow_other w g j _ (fun e=>o (by rw [e];rfl))⟩
 have R:(Builtin.firstCells i.size n (.slice A n c)).run P w.drew= .ok xs.toArray w.drew:=by
  rw [x];rcases p7 n with b | b
  ·subst b;have S:=nZ (by rw [d]);subst S;exact z46
  rcases f with f | ⟨g,off,cur,rfl,C,a3,M,a5⟩
  ·omega
  refine run_firstCells_some w.drew 1 n _ n c xs d (fun j a0 hu=> ?_);rw [H8];show w.cell? _=_;exact z49
 have T:=OD (P:=P) w t tn ty e i z q r s u hi v A n c xs R k b qO qO qO qO (growslice_fits qO G);have U:=grownCap_ge w (n+k) c e;have V:=grownCap_le_maxLen w (n+k) c e y;refine ⟨_,_,_,T,⟨l,U,V,.inr ⟨w,0,_,rfl,hbase,heap_alloc_new w.drew _,?_,?_⟩⟩,?_,.inr rfl⟩
 ·rw [m,nb,nb];simp only [Array.size_append,List.size_toArray,NE,d];omega
 ·rw [y8,m,nb,OG,OG,<-l];exact Nx
 refine ⟨rfl,rfl,rfl,by simp,?_⟩;intro j o _;exact C7 w.drew _ j o
theorem zx {P:Program} {e:Array Oper} {rest:List Oper} {c:Oper} {a:Act} {w:World} {i:Exit->Act->World->Prop} (l:c.guard=none) (ty:TypeId) (x:Operand) (m:c.op= .load ty x)
  (g f:Nat) (n:a.eval x= .pointer (some ⟨g,f,none⟩)) (T:TypeId) (k b:List Value) (d:TypeDesc) (o:Blk w g T k) (q: ∀j v,b[j]?=some v->k[f+j]?=some v)
  (hu:P.underlying ty=some d) (y:(match d with | .struct _ | .array _ _=>true | _=>false)=true) (hi:(P.info? ty).map (·.size)=some b.length)
  (h:wpList P e i rest (a.put c.dst (.agg b.toArray)) w):wpList P e i (c::rest) a w:=by
 refine wpList_plain l fun z r=> ?_;have hl:=
  run_loadCells_list (P:=P) w ⟨g,f,none⟩ b (fun j v s=>by
   rw [H8,o.cell];exact q j v s)
 have t:(loadVar ty ⟨g,f,none⟩).run P w= .ok (.agg b.toArray) w:=by
  cases hq:P.info? ty with
  | none=>simp [hq] at hi
  | some u=>
  have hs:u.size=b:=by simpa [hq] using hi
  exact z86
 unfold Oper.wp execOp;simp only [m,n,Instr.loadAt,Instr.sureAddr,NI,NU,M7,t];exact r _ _ h
end Go.Dol
namespace Go.Proofs.YtecpbcmpncgokaaGreat
theorem Me (n y k:Nat) (f:k<8) (a:n<256^k) (g:y<256): ∃b m:Nat,IntKind.u64.wrap (y*2^(8*k))=(b:Nat)/\bits .or .u64 (n:Int) (b:Int)=(m:Nat)/\m=n+256^k*y:=by
 have c:(256:Nat)^k=2^(8*k):=by rw [Nat.pow_mul]
 have d:256^k<=256^7:=NL (by decide) qO;have h:256^k*y<=256^7*255:=Nat.mul_le_mul d qO;refine ⟨256^k*y,n+256^k*y,?_,?_,rfl⟩
 ·have e:(y:Int)*2^(8*k)=((256^k*y:Nat):Int):=by rw [c,Int.mul_comm];simp
  rw [e,Oc];omega
 rw [(bits_nat .u64 64 (by decide) ra n (256^k*y) qO qO).2];rw [c] at a ⊢;rw [Nat.or_comm,<-Nat.two_pow_add_eq_or_of_lt a y,Nat.add_comm]
theorem Mf (A l n c N w B) (h:Rd w B 1 A n (bc l)) (hN:N<=n) (v:N<=8) (x:n<=kaa):
  Calls an 245 #[.slice A n c,.int .i64 N] w fun p w'=>p= .returned (.int .u64 (leN (l.take N):Nat))/\w=w':=by
 have q:Hid (l=n):=qI (by have:=h.len;rw [bC] at this;omega);go_in;go_wp2_with fail;go_loop [5,8] (fun a i=> ∃k b:Nat,a= .int .u64 b/\i= .int .i64 k/\k<=N/\Hid (b=leN (l.take k))) (fun _ i=>N-(intOf i).toNat)
 case atStart=>exact ⟨0,0,rfl,rfl,zL,by simp [Hid,leN]⟩
 case round=>
  obtain ⟨k,b,rfl,rfl,y,d⟩:=hrel;by_cases z:k<N
  ·have e:k<l:=by rw [q];omega
   obtain ⟨C,D,rfl,E,j⟩:=h.at_ qO;have r:=j k _ (bu l k e);obtain ⟨a,f⟩:=gX ((l[k]).toNat);have s:a<256:=by have:=(l[k]).toNat_lt;omega
   rw [<-f] at r;have g:(l.take k).length=k:=by rw [b9];omega
   obtain ⟨F,m,G,H,o⟩:=Me b a k qO (by rw [d];have:=zj (l.take k);rwa [g] at this) s;have t:Hid (m=leN (l.take (k+1))):=by
    unfold Hid;rw [n9 e,Ma,g,o,d,<-f]
   clear o f j g e;go_wp2_with fail;exact ⟨⟨k+1,m,rfl,by go_num,qO,t⟩,by simp [intOf];omega⟩
  have u:Hid (k=N):=by unfold Hid;omega
  go_wp2_with fail;go_ret;exact ⟨by rw [<-u,<-d];rfl,rfl⟩
theorem rb: ∀(n x:Nat),leB (n+1) x=leB n x++[UInt8.ofNat (x/256^n%256)]
 | 0,x=>by simp [leB]
 | n+1,x=>by
  rw [leB,rb n (x/256),leB,List.cons_append,Og,Ns,Nat.mul_comm 256]
def Mg (T base:Nat) (w:World) (v:Value) (l:LU) (d:Ending) (w':World):Prop:=
 ∃(a:LU) (c:OA) (b:Nat),Hid (a=l)/\d= .returned (.slice c a b)/\w'.ownsRow base T 1 (.slice c a b) a (bc a)/\Below base w w'/\a<=b/\b<=maxLen
def Mh (l:LU) (x g base:Nat) (w:World) (b y i:Value) (wr:World):Prop:=
 ∃(c e:Nat) (a:LU) (f:OA) (d:Nat),b= .slice f a d/\y= .int .u64 e/\i= .int .i64 c/\c<=g/\wr.ownsRow base 5 1 (.slice f a d) a (bc a)/\
  Hid (a=l++leB c x)/\Hid (e=x/256^c)/\Below base w wr/\a<=d/\d<=maxLen
theorem zp (base A l) (c x a:Nat) (w) (k:w.ownsRow base 5 1 (.slice A l.length c) l.length (bc l)) (L:base<=w.heap.size) (m:l.length<=c) (o:c<=maxLen)
  (p:x<18446744073709551616) (hN:a<=8) (M:l.length+8<=140737488355328):
  Calls an 181 #[.slice A l.length c,.int .u64 x,a] w (Mg 5 base w (.slice A l.length c) (l++leB a x)):=by
 clear p;go_in;go_wp2_with fail;go_loopw [0,1,8] (fun q r i wr=>Mh l x a base w q r i wr) (fun _ _ i _=>a-(intOf i).toNat)
 case atStart=>exact ⟨0,x,l,A,c,rfl,rfl,rfl,zL,k,by simp [Hid,leB],by simp [Hid],bR _ _,m,o⟩
 case round=>
  obtain ⟨b,g,d,s,t,rfl,rfl,rfl,N,h,e,j,f,u,v⟩:=hrel;have O:=f.size;have y:d.length=l+b:=by rw [e,b7,iR]
  have P:d.length<=l+b:=qO;clear y;by_cases Q:b<a
  ·go_wp2_with (at_builtin;refine cY rfl (.tmp 10) (.tmp 13) rfl base _ d.length d rfl h rfl (by omega) (by omega) (by omega) (by omega) ?_);intro R z B C S D E F G T U H I;go_wp2_with fail;refine ⟨⟨b+1,g/256,z,B,C,rfl,by go_num,by go_num,qO,F,?_,?_,f.trans G,H,I⟩,by simp [intOf];omega⟩
   ·have J:=eu (n:=g%256) D qO;unfold Hid at*;rw [E,e,J,j,rb,g9]
   unfold Hid at*;rw [j,Og,Ns]
  have K:Hid (b=a):=by unfold Hid;omega
  go_wp2_with fail;go_ret;exact ⟨d,s,t,by have:=e;rwa [K] at this,rfl,h,f,u,v⟩
theorem Mi (x) (k:Nat) (w) (b:0<=x) (c:x<4294967296) (d:0<k) (e:k<32):
  Calls an 246 #[.int .u32 x,.int .i64 k] w fun a w'=>a= .returned (.int .u32 (iP x k))/\w=w':=by
 have f:bits .and .u64 (k:Int) 31=(k:Int):=by
  have:=bits_mask .u64 64 (by decide) ra 5 (by decide) (k:Int) qO qO;rw [show (31:Int)=2^5-1 by decide,this];omega
 go_in;go_wp2_with fail
 trace_state
 go_ret;exact ⟨rfl,rfl⟩
theorem zq (c:BinOp) (a b):0<=bits c .u32 a b/\bits c .u32 a b<kak:=by
 unfold bits;rw [x8];omega
theorem Mj (x:Int) (k:Nat) (a:Int) (w) (d:a=k) (e:0<=x) (f:x<4294967296) (g:0<k) (h:k<32):
  Calls an 246 #[.int .u32 x,a] w fun b w'=>b= .returned (.int .u32 (iP x k))/\w'=w:=by
 subst d;exact (Mi x k w e f g h).mono fun b w' c=>⟨c.1,c.2.symm⟩
def wc (S:List Int):List Value:=S.map (Value.int .u32)
theorem fS (S):(wc S).length=S.length:=by simp [wc]
theorem zr (S): ∀v∈wc S,v.oneCell'=true:=fun v a=>by
 obtain ⟨_,_,rfl⟩:=e9.1 a;rfl
theorem gC {S} (b:Words S) (tail) {i} (hi:i<8):(wc S++tail)[i]?=some (.int .u32 (bn S i)):=by
 have a:i<S:=by rw [b.1];exact hi
 rw [G9 (by rw [fS];exact a)];simp [wc,bn,gE a]
theorem mW (S tail) {i} (hi:i<S.length) (x):(wc S++tail).set i (.int .u32 x)=wc (S.set i x)++tail:=by
 rw [Oq _ _ (by rw [fS];exact hi)];simp [wc,List.map_set]
def part (b:LU) (k:Nat):List Int:=(PO 8).map fun a=>if a<k then ea b a else 0
theorem Mk (b):part b 0=[0,0,0,0,0,0,0,0]:=by simp [part];decide
theorem Ml (b):part b 8=eD b:=by
 unfold part eD;refine NT fun c a=> ?_;rw [if_pos (by simpa using a)]
theorem zt (b k):(part b k).length=8:=by simp [part]
theorem Mm (b k) (f:k<8):(part b k).set k (ea b k)=part b (k+1):=by
 apply List.ext_getElem (by simp [part]);intro a e g;simp only [part,OJ,g7,List.length_range] at e;simp only [part,List.getElem_set,Nt,List.getElem_range];by_cases c:k=a
 ·subst c;simp
 rw [if_neg c];by_cases d:a<k
 ·rw [if_pos d,if_pos qO]
 rw [if_neg d,if_neg qO]
def Mn (b:LU) (w:World) (T:TypeId) (i:Value) (wr:World):Prop:=
 ∃k:Nat,i= .int .i64 k/\k<=8/\Blk wr w T (wc (part b k))/\Below w w wr
def Mo (S a:List Int) (b:List Value) (g c:Nat) (T Tw:TypeId) (w:World) (i:Value) (wr:World):Prop:=
 ∃r:Nat,i= .int .i64 r/\r<=8/\Blk wr g T (wc (rounds S a r)++b)/\Blk wr c Tw (wc a++[])/\w.grownBy wr (some g)
def Mp (S a:List Int) (r:Nat) (b:List Value) (g c:Nat) (T Tw:TypeId) (w:World) (i:Value) (wr:World):Prop:=
 ∃k:Nat,i= .int .i64 k/\k<=8/\Blk wr g T (wc (inner S a r k)++b)/\Blk wr c Tw (wc a++[])/\w.grownBy wr (some g)
theorem zu (g T S tail A l n c w) (X:Words S) (y:Blk w g T (wc S++tail)) (z:Rd w w.heap.size 1 A n (bc l)) (Y:n=32) (Z:32<=c):
  Calls an 180 #[.pointer (some g),.slice A n c] w fun q w'=>q= .returned (.tuple #[])/\Blk w' g T (wc (sumB S l)++tail)/\w.grownBy w' (some g):=by
 subst Y;have s:Hid (l.length=32):=qI (by have:=z.len;rw [bC] at this;omega);have L:=y.lt;go_in;go_wp2_with fail;go_loopw [9] (fun i wr=>Mn l w 246 i wr) (fun i _=>8-(intOf i).toNat)
 case atStart=>exact ⟨0,rfl,qO,by rw [Mk];exact o9 w _ _,(bR _ _).alloc (lR _) _⟩
 case round=>
  obtain ⟨k,rfl,q0,hbk,f⟩:=hrel;by_cases B:k<8
  ·have r0:wr.cell? ⟨w,k,none⟩=some (.int .u32 ((part l k)[k]?.getD 0)):=by
    rw [hbk.cell];simp [wc,gE (show k<(part l k).length by rw [zt];exact B)]
   have s0:=hbk.free k;have a0:Rd wr w 1 A l (bc l):=by rw [s];exact z.belowW f (lR _)
   have C:=a0.tail (k:=4*k) (cap:=c) (by rw [s];omega) (by rw [s];exact Z);rw [if_neg qO] at C;rw [s] at C;obtain ⟨j,t⟩:=gX (leN ((l.drop (4*k)).take 4));have t0:j<kak:=by
    have:=(zk l k).2;unfold ea at this;rw [t];omega
   have b0:Hid ((j:Int)=ea l k):=by unfold Hid ea;rw [t]
   have c0:=qI t;clear t;go_wp2_with fail;refine (Mf _ (l.drop (4*k)) _ _ 4 wr _ C qO qO qO).mono ?_;rintro q u0 ⟨rfl,rfl⟩;rw [<-c0];go_wp2_with fail;refine ⟨⟨k+1,by go_num,qO,?_,f.setCell (lR _) _⟩,by simp [intOf];omega⟩;have m:=hbk.set k (.int .u32 j);have u:=mW (part l k) [] (i:=k) (by rw [zt];exact B) j;simp only [List.append_nil] at u;have d0:(part l k).set k (j:Int)=part l (k+1):=by rw [b0,Mm l k B]
   rw [u,d0] at m;exact m
  have D:k=8:=qO;rw [D,Ml] at hbk;clear D;have M:=zl l;obtain ⟨a,N⟩:=gH (eD l);rw [<-N] at hbk M;have hbg:=y.below f L;have hgr:w.grownBy wr (some g):=ax f _;obtain ⟨e,E⟩:=gX w.heap.size;have e0:g≠e:=qO;rw [<-E] at hbk;have O:Blk wr e 246 (wc a++[]):=by rw [List.append_nil];exact hbk
  rw [<-E];clear hbk f z y E L;go_wp2_with fail;go_loopw [21] (fun i wr=>Mo S a tail g e T 246 w i wr) (fun i _=>8-(intOf i).toNat)
  case atStart=>exact ⟨0,rfl,qO,hbg,O,hgr⟩
  case round=>
   clear hbg O hgr;obtain ⟨r,rfl,v0,hbg,hbk,hgr⟩:=hrel;by_cases w0:r<8
   ·have f0:=X.rounds a r;have x0:=dtX ((r:Int)<8);go_wp2_with fail;go_loopw [24] (fun i wr=>Mp (rounds S a r) a r tail g e T 246 w i wr) (fun i _=>8-(intOf i).toNat)
    case atStart=>exact ⟨0,rfl,qO,hbg,hbk,hgr⟩
    case round=>
     clear hbg hbk hgr;obtain ⟨k,rfl,D,hbg,hbk,hgr⟩:=hrel;by_cases P:k<8
     ·obtain ⟨b,v⟩:=gX (inner (rounds S a r) a r k);have F:Words b:=by rw [v];exact f0.inner a r k
      rw [<-v] at hbg;obtain ⟨x,G⟩:=gX (bn b k);obtain ⟨H,I⟩:=gX (bn a ((k+r)%8));obtain ⟨J,K⟩:=gX (bn b ((k+1)%8));have Q:wr.cell? ⟨g,k,none⟩=some (.int .u32 x):=by rw [hbg.cell,G];exact gC F tail P
      have g0:wr.cell? ⟨e,(k+r)%8,none⟩=some (.int .u32 H):=by rw [hbk.cell,I];exact gC M [] (PG _ qO)
      have R:wr.cell? ⟨g,(k+1)%8,none⟩=some (.int .u32 J):=by rw [hbg.cell,K];exact gC F tail (PG _ qO)
      have U:=zq .xor x H;have h0:=qI v;have i0:=qI G;have j0:=qI I;have k0:=qI K;clear v G I K;go_wp2_with fail;go_quiet ((go_at_call 246;exact A9 (Mj _ (5+3*k) _ _ qO U.1 U.2 qO qO)));go_wp2_with fail;have y0:=qiJ (k+1);have z0:((k:Int)+1).tmod 8=((k:Int)+1)%8:=q8 qO;have A0:(0:Int)<=((k:Int)+1)%8:=qO;have B0:((k:Int)+1)%8<8:=qO;have C0:(((k:Int)+1)%8).toNat=(k+1)%8:=qO;have D0:=qiJ (k+r);have E0:IntKind.u32.wrap (k+r)=(k:Int)+r:=by rw [x8];omega
      refine wp_region_still_tail 19 qkR qkR ?_;change wpStill _ _ (pp (wr.drewN nq)) (fun l0=>wpList _ _ _ _ l0 (pp (wr.drewN nq))) _ _;obtain ⟨o,d⟩:=gX (pp (wr.drewN nq));rw [<-d];have V:Blk o g T (wc b++tail):=by rw [d];exact (hbg.drewN nq).drew
      have m0:Blk o e 246 (wc a++[]):=by rw [d];exact (hbk.drewN nq).drew
      have n0:w.grownBy o (some g):=by rw [d];exact fa (ik hgr nq)
      have F0:o.cell? ⟨g,(k+1)%8,none⟩=some (.int .u32 J):=by rw [d];simpa using R
      have G0:o.cell? ⟨g,k,none⟩=some (.int .u32 x):=by rw [d];simpa using Q
      have H0:=V.free k;clear d hbg hbk hgr Q g0 R;simp only [Nz,Nw,Oa,y8]
      repeat still_step
      refine wpStill_nil ?_;go_wp2_with fail;have W:(iP (bits .xor .u32 x H) (5+3*k)+J*2246822507+((k:Int)+r))%kak=fq b a r k:=by
       rw [i0,j0,k0];rfl
      have o0:=qI W;clear W;refine ⟨⟨k+1,by go_num,qO,?_,m0.far (p:=⟨g,k,none⟩) (fun q=>e0 q.symm) _,ae n0 _ _⟩,by simp [intOf];omega⟩;have m:=V.set k (.int .u32 (fq b a r k));rw [mW b tail (by rw [F.1];exact P)] at m;rw [o0];have u:inner (rounds S a r) a r (k+1)=b.set k (fq b a r k):=by rw [h0];rfl
      rw [u];exact m
     have HK8:Hid (k=8):=qI qO;exact z151
   have p0:Hid (r=8):=qI qO;go_wp2_with fail;go_end0;refine ⟨rfl,?_,hgr⟩;rw [N,p0] at hbg;exact hbg
theorem Mq:first=[2654435769,1013904242,3668340011,2027808484,387276957,3041712726,1401181199,4055616968]:=by decide
def eb (k:Nat):List Int:=(PO 8).map fun a=>if a<k then bn first a else 0
theorem zv:eb 0=[0,0,0,0,0,0,0,0]:=by decide
theorem Mr:eb 8=first:=by decide
theorem mX (k):(eb k).length=8:=by simp [eb]
theorem Ms (k) (a:k<8):(eb k).set k (((k:Int)+1)*2654435769%kak)=eb (k+1):=by
 have b: ∀k:Fin 8,(eb k).set k (((k.val:Int)+1)*2654435769%kak)=eb (k+1):=by decide
 exact b ⟨k,a⟩
def Mt (w:World) (g:Nat) (i:Value) (wr:World):Prop:=
 ∃k:Nat,i= .int .i64 k/\k<=8/\Blk wr g 247 (wc (eb k))/\Blk wr w 247 (wc (eb 0))/\Below w w wr
theorem Mu (w):Calls an 179 #[] w fun b w'=>b= .returned (.agg (wc first).toArray)/\Below w.heap.size w w':=by
 go_in;go_wp2_with fail;go_loopw [3] (fun i wr=>Mt w (w+1) i wr) (fun i _=>8-(intOf i).toNat)
 case atStart=>
  refine ⟨0,rfl,qO,?_,?_,((bR _ _).alloc (lR _) _).alloc (by simp) _⟩
  ·rw [zv];have:=o9 (w.alloc (.cells (wc [0,0,0,0,0,0,0,0]).toArray 247)) 247 (wc [0,0,0,0,0,0,0,0]);rw [u7] at this;exact this
  rw [zv];exact (o9 w _ _).alloc _
 case round=>
  obtain ⟨k,rfl,c,a,h,d⟩:=hrel;have o:=d.size;by_cases e:k<8
  ·have s:wr.cell? ⟨w+1,k,none⟩=some (.int .u32 ((eb k)[k]?.getD 0)):=by
    rw [a.cell];simp [wc,gE (show k<(eb k).length by rw [mX];exact e)]
   have t:=a.free k;have u:IntKind.u32.wrap (k+1)=(k:Int)+1:=by rw [x8];omega
   go_wp2_with fail;refine ⟨⟨k+1,by go_num,qO,?_,h.far (p:=⟨w+1,k,none⟩) (by simp) _,d.setCell (by simp) _⟩,by simp [intOf];omega⟩;have j:=a.set k (.int .u32 ((k+1)*2654435769%kak));have l:=mW (eb k) [] (i:=k) (by rw [mX];exact e) (((k:Int)+1)*2654435769%kak);simp only [List.append_nil] at l;rw [l,Ms k e] at j;exact j
  have m:k=8:=qO;rw [m,Mr] at a;clear m;have f:(wc first).length=8:=by rw [fS];exact iQ.1
  obtain ⟨n,v,g,q⟩:=h.store (P:=an) 0 (wc first) (by rw [f,fS,mX];omega) (zr first);have r:Blk n w 247 (wc first):=by
   have b:(wc (eb 0)).drop (0+(wc first).length)=[]:=p9 (by rw [f,fS,mX];omega);rw [b,List.append_nil,Nw,List.nil_append] at g;exact g
  clear g;go_wp2_with (refine wpList_load_row rfl 247 _ rfl (w.heap.size+1) rfl _ _ _ _ a Of rfl qkR ?_);exact bodyPost_ret (results_cell_row (P:=an) rfl _ n w 247 (wc first).toArray (0,0) _ rfl r Of rfl (by rw [List.size_toArray,f];kernel_rfl)) rfl
   ⟨rfl,d.grown q o (fun k c=>by injection c with c;omega)⟩
def mY (w:World) (g base:Nat) (l:LU):Prop:=
 ∃(a:List Int) (r:LU) (b:OA) (c:Nat),Hid (bt first l=(a,r))/\Words a/\Blk w g 251 (wc a++[.slice b r c,.int .u64 (l.length:Nat),.bool true])/\Seg w base 5 1 b r c (bc r)
theorem zw:wc first=[.int .u32 2654435769,.int .u32 1013904242,.int .u32 3668340011,.int .u32 2027808484,.int .u32 387276957,.int .u32 3041712726,.int .u32 1401181199,.int .u32 4055616968]:=by
 rw [Mq];rfl
theorem Mv (w):Calls an 111 #[] w fun b w'=> ∃g,b= .returned (.pointer (some ⟨g,0,none⟩))/\w.heap.size<=g/\mY w' g w.heap.size []/\Below w.heap.size w w':=by
 go_in;go_wp2_with fail;refine (Mu w).mono ?_;rintro b c ⟨rfl,a⟩;rw [zw];go_wp2_with fail;go_ret;refine ⟨c,rfl,a.size,⟨first,[],none,0,by unfold Hid;rw [fQ (by simp)],iQ,?_,Seg.nil⟩,a.alloc a.size _⟩;rw [zw];exact o9 c _ _
theorem ky {S} (d:Words S) (a b c):(wc S++[a,b,c])[8]?=some a/\(wc S++[a,b,c])[9]?=some b/\(wc S++[a,b,c])[10]?=some c:=by
 have e:(wc S).length=8:=by rw [fS];exact d.1
 refine ⟨?_,?_,?_⟩<;>rw [G7 qO,e]<;>rfl
theorem mZ {S} (d:Words S) (a b c x):(wc S++[a,b,c]).set 8 x=wc S++[x,b,c]/\(wc S++[a,b,c]).set 9 x=wc S++[a,x,c]:=by
 have e:(wc S).length=8:=by rw [fS];exact d.1
 refine ⟨?_,?_⟩<;>rw [List.set_append_right _ _ qO,e]<;>rfl
theorem kr {w g base cs A n c xs} (hb:Blk w g 251 cs) (hs:Seg w base 5 1 A n c xs):some g≠aT A c:=z243
def Mw (d:List Int) (e:LU) (f:Nat) (g base:Nat) (w:World) (k:Nat) (wr:World):Prop:=
 ∃(a:List Int) (r:LU) (b:OA) (c:Nat),k=r/\Words a/\Blk wr g 251 (wc a++[.slice b r c,.int .u64 (f:Nat),.bool true])/\Seg wr base 5 1 b r c (bc r)/\
  Hid (bt a r=bt d e)/\Below base w wr
theorem Mx (g base l0 A l c w) (f0:mY w g base l0) (hbase:base<=g) (g0:Rd w base 1 A l.length (bc l)) (w0:l.length<=140737488355296) (x0:l0.length<=kag):
  Calls an 112 #[.pointer (some g),.slice A l c] w fun e w'=>e= .returned (.tuple #[])/\mY w' g base (l0++l)/\Below base w w':=by
 obtain ⟨z,r,k,m,O,t,j,F⟩:=f0;have P:=(qZ first l0).1;rw [O] at P;simp only at P;have h0:=j.lt;obtain ⟨i,n,o⟩:=ky t (.slice k r m) (.int .u64 (l0.length:Nat)) (.bool true);have u:w.cell? ⟨g,8,none⟩=some (.slice k r m):=by rw [j.cell,i]
 have i0:w.cell? ⟨g,9,none⟩=some (.int .u64 (l0.length:Nat)):=by rw [j.cell,n]
 have j0:w.cell? ⟨g,10,none⟩=some (.bool true):=by rw [j.cell,o]
 have k0:=j.free;clear i n o;have Q:w.grownBy (w.setCell ⟨g,9,none⟩ (.int .u64 ((l0:Int)+l))) (some g):=ae (gR _ _) _ _;have G:Seg (w.setCell ⟨g,9,none⟩ (.int .u64 ((l0:Int)+l))) base 5 1 k r.length m (bc r):=PF F Q (fun g' hg' e=>kr j F (by rw [hg',e]));go_in;go_wp2_with (at_builtin;refine My rfl (.tmp 32) (.tmp 33) rfl base k r.length m r rfl G base A l.length c l rfl (g0.setCell hbase _) (by omega) (by simp [World.setCell];omega) ?_);intro v R S T m0 H U V y0 z0;have x:Blk T g 251 (wc z++[.slice k r.length m,.int .u64 ((l0:Int)+l),.bool true]):=by
  have d:=j.set 9 (.int .u64 ((l0:Int)+l));rw [(mZ t _ _ _ _).2] at d;exact d.grown V (kr d G)
 obtain ⟨i,_,_⟩:=ky t (.slice k r m) (.int .u64 ((l0:Int)+l)) (.bool true);have n0:T.cell? ⟨g,8,none⟩=some (.slice k r m):=by rw [x.cell,i]
 have o0:=x.free 8;have W:=((bR _ _).setCell (p:=⟨g,9,none⟩) hbase _).trans U;clear u i0 j0 k0 G Q i F;go_wp2_with fail;go_loopg [] v (fun p0 wr=>Mw z v (l0.length+l) g base w p0 wr)
 case atStart=>
  have d:=x.set 8 (.slice R v S);rw [(mZ t _ _ _ _).1] at d;refine ⟨z,v,R,S,rfl,t,by simpa using d,?_,rfl,W.setCell (p:=⟨g,8,none⟩) hbase _⟩;exact PF H (ae (gR _ _) _ _) (fun g' hg' e=>kr x H (by rw [hg',e]))
 case round=>
  clear x H U V n0 o0 W j h0;obtain ⟨B,a,f,b,rfl,C,D,E,X,I⟩:=hrel;obtain ⟨i,n,o⟩:=ky C (.slice f a b) (.int .u64 ((l0.length+l:Nat):Int)) (.bool true);have u:wr.cell? ⟨g,8,none⟩=some (.slice f a b):=by rw [D.cell,i]
  clear i n o;have A0:=E.2.1;by_cases J:32<=a.length
  ·have q0:32<=b:=qO;go_wp2_with fail;refine wp_region_still_tail 8 qkR qkR ?_;change wpStill _ _ (pp wr) (fun r0=>wpList _ _ _ _ r0 (pp wr)) _ _;obtain ⟨y,q⟩:=gX (pp wr);rw [<-q];have K:Blk y g 251 (wc B++[.slice f a b,.int .u64 ((l0.length+l:Nat):Int),.bool true]):=by rw [q];exact D.drew
   have L:Seg y base 5 1 f a b (bc a):=by rw [q];exact E.drew
   have Y:Below base w y:=by rw [q];exact I.drew
   have s0:y.cell? ⟨g,8,none⟩=some (.slice f a b):=by rw [q];simpa using u
   clear q D E I u;have B0:(32:Int)<=(b:Int):=qO;simp only [Nz,Nw,Oa,y8]
   repeat still_step
   refine wpStill_nil ?_;go_wp2_with fail;refine (zu g 251 B _ f (a.take 32) 32 b y C K (L.rd.head (l:=a) J) rfl q0).mono ?_;rintro e Z ⟨rfl,hb4,a0⟩;have s:=C.sumB (a.take 32);obtain ⟨M,b0⟩:=gH (sumB B (a.take 32));rw [<-b0] at hb4 s;obtain ⟨i,n,o⟩:=ky s (.slice f a b) (.int .u64 ((l0.length+l:Nat):Int)) (.bool true);have u:Z.cell? ⟨g,8,none⟩=some (.slice f a b):=by rw [hb4.cell,i]
   have C0:=hb4.free 8;clear i n o s0;have t0:Seg Z base 5 1 f a b (bc a):=PF L a0 (fun g' hg' e=>kr K L (by rw [hg',e]));have c0:=Y.trans (ak a0 hbase (by have:=Y.size;have:=K.lt;omega));have hcut:=t0.cut (lo:=32) (hi:=a.length) J (lR _);rw [s9,s9,dW,dx,i9 (by simp)] at hcut;have d0:Hid (bt M (a.drop 32)=bt z v):=by
    unfold Hid;rw [b0,<-X,<-fR J]
   have e0:Hid ((a.drop 32).length=a-32):=qI (by simp);by_cases N:b=32
   ·rw [if_pos N] at hcut;have u0:=qI N;go_wp2_with fail;go_roundg (a.length-32)
    case measure=>omega
    case rel=>
     have d:=hb4.set 8 (.slice f (a.length-32) (b-32));rw [(mZ s _ _ _ _).1] at d;rw [<-e0] at d hcut ⊢;refine ⟨M,a.drop 32,f,b-32,rfl,s,?_,?_,d0,c0.setCell (p:=⟨g,8,none⟩) hbase _⟩
     ·have v0:b-32=0:=by have:=u0.out;omega
      rw [v0] at d ⊢;exact d
     exact z287
   rw [if_neg N] at hcut;go_wp2_with fail;go_roundg (a.length-32)
   case measure=>omega
   case rel=>
    have d:=hb4.set 8 (.slice (f.map (·.add 32)) (a.length-32) (b-32));rw [(mZ s _ _ _ _).1] at d;rw [<-e0] at d hcut ⊢;refine ⟨M,a.drop 32,f.map (·.add 32),b-32,rfl,s,?_,?_,d0,c0.setCell (p:=⟨g,8,none⟩) hbase _⟩
    ·exact d
    exact z287
  go_wp2_with fail;go_end0;refine ⟨rfl,⟨B,a,f,b,?_,C,?_,E⟩,I⟩
  ·unfold Hid;rw [zn,O,<-m0,<-X,fQ qO]
  rw [b7];exact D
theorem MA {w ops rest o a Q} (j:o.guard=none) (s xo tn) (f:IntKind) (l:an.underlying tn=some (.int f))
  (m:o.op= .call { callee:=.builtin .append,args:=#[s,xo],argTypes:=#[36,tn] })
  (base A n c xs) (p:a.eval s= .slice A n c) (e:Seg w base 5 1 A n c (bc xs))
  (g:IntKind) (k) (q:a.eval xo= .int g k) (r:0<k)
  (D:n+k<=kaa) (hbase:base<=w)
  (t: ∀(b:LU) (A':OA) (c':Nat) (w':World),Hid (b=xs++PI k 0)->Seg w' base 5 1 A' b.length c' (bc b)->Below base w w'->w.grownBy w' (aT A c)->
   b.length<=c'->c'<=maxLen->wpList an ops Q rest (a.put o.dst (.slice A' b.length c')) w'):wpList an ops Q (o::rest) a w:=by
 obtain ⟨i0,u,v,x,y⟩:=info_parts eh;obtain ⟨A',c',w',z,d,h,E⟩:=Mz (P:=an) w base _ tn o.type _ i0 _ g f q7 l u v x rfl rfl A n c (bc xs) e k r (by unfold maxLen;omega) (by rw [y];omega) hbase;refine O6 w j s xo _ tn m _ _ p q _ w' z ?_;have F:n=xs:=by have:=e.1;rw [bC] at this;omega
 have i:n+k=(xs++PI k 0).length:=by rw [b7,NE];omega
 have B:bc xs++PI k (.int .u8 0)=bc (xs++PI k 0):=by rw [ez];unfold bc;rw [List.map_replicate];rfl
 rw [B,i] at d;rw [i];exact t _ A' c' w' rfl d ((bR _ _).grown h hbase (fun k C=>(e.row k C).1)) h d.2.1 d.2.2.1
def MB (r:LU) (B:Nat) (f:World) (b:Value) (wr:World):Prop:=
 ∃(d:Nat) (a:LU) (e:OA) (c:Nat),b= .slice e a c/\Hid (a=r++1::PI d 0)/\Hid (a.length=r+1+d)/\d<=dv r.length/\wr.ownsRow B 5 1 (.slice e a c) a (bc a)/\Below B f wr/\a<=c/\c<=maxLen
theorem MC {w g base cs A n c xs} (hb:Blk w g 247 cs) (hs:Seg w base 5 1 A n c xs):some g≠aT A c:=z243
def MD (e:List Int) (f:LU) (g:Nat) (w:World) (b:Value) (wr:World):Prop:=
 ∃(a:List Int) (r:LU) (c:OA) (d:Nat),b= .slice c r d/\Hid (bt a r=bt e f)/\r.length%32=0/\Words a/\Blk wr g 247 (wc a++[])/\Seg wr w 5 1 c r d (bc r)/\Below w w wr
theorem ME {S:List Int} {k x:Nat} (w) (h:(wc S).length=8) (a:k<8) (b:(wc S)[k]?=some (.int .u32 x)):
  (Instr.index 247 (.agg (wc S).toArray) (.int .i64 k)).run an w= .ok (.int .u32 x) w:=by
 have c:an.underlying 247=some (.array 8 128):=Of;have d:an.underlying 128=some (.int .u32):=Tryz.underlying128;have e:(an.info? 128).map (·.size)=some 1:=qkR;obtain ⟨i,f,g⟩:=OW.1 e;simp [Instr.index,asIntOf,run_underlying c,run_underlying d,sizeOf,typeInfo,f,g,a,Go.part,isAgg,b]
theorem zy {S:List Int} (b:S.length=8) {k} (c:k<=8):(dh (S.take k)).length=4*k:=by
 have: ∀l:List Int,(dh l).length=4*l.length:=by
  intro l;induction l with
  | nil=>rfl
  | cons d l a=>unfold dh at a ⊢; rw [List.flatMap_cons,b7,iR,a,List.length_cons];omega
 rw [this,b9,b];omega
theorem zz {S k} (a:k<S.length):dh (S.take (k+1))=dh (S.take k)++leB 4 (bn S k).toNat:=by
 rw [n9 a];unfold dh;rw [I9];simp [bn,gE a]
def MF (S:List Int) (w:World) (out i:Value) (wr:World):Prop:=
 ∃(b:Nat) (l:LU) (c:OA) (a:Nat),out= .slice c l a/\i= .int .i64 b/\b<=8/\Hid (l=dh (S.take b))/\wr.ownsRow w 5 1 (.slice c l a) l (bc l)/\Below w w wr/\l<=a/\a<=maxLen
theorem MG (g base l w) (d1:mY w g base l) (i2:l.length<=kag):
  Calls an 113 #[.pointer (some g)] w fun o w'=> ∃s0,Hid (s0=aw l)/\o= .returned (.string ⟨s0.toArray⟩)/\Below w w w':=by
 obtain ⟨S,a,z,A,t0,O,B,e1⟩:=d1;have u0:=(qZ first l).1;rw [t0] at u0;simp only at u0;have f1:=B.lt;have Q:(wc S).length=8:=by rw [fS];exact O.1
 obtain ⟨e,v0,R,g1⟩:=(o9 w 247 (wc [0,0,0,0,0,0,0,0])).store (P:=an) 0 (wc S) (by rw [Q];decide) (zr S);rw [Nw,List.nil_append,p9 (by rw [Q];decide)] at R;have T:=ak (aq (ax ((bR _ _).alloc (lR _) _) _) g1) (lR _) (lR _);have U:Blk e g 251 (wc S++[.slice z a A,.int .u64 (l.length:Nat),.bool true]):=B.below T f1;have h1:=(e1.belowW T).rd;obtain ⟨w0,i1,x0⟩:=ky O (.slice z a A) (.int .u64 (l.length:Nat)) (.bool true);have j2:w.cell? ⟨g,10,none⟩=some (.bool true):=by rw [B.cell,x0]
 have j1:e.cell? ⟨g,8,none⟩=some (.slice z a A):=by rw [U.cell,w0]
 have V:=R.lt;have k1:=U.lt;have k2:(storeCells ⟨w,0,none⟩ (wc S)).run an (w.alloc (.cells #[.int .u32 0,.int .u32 0,.int .u32 0,.int .u32 0,.int .u32 0,.int .u32 0,.int .u32 0,.int .u32 0] 247))= .ok () e:=v0;clear w0 x0 v0;go_in;go_wp2_with (first | (refine zx rfl 247 _ rfl g 0 rfl _ _ (wc S) _ B (fun l1 m1 h=>by rw [x9,G9 (c9.1 h).1];exact h) Of rfl (by rw [Q];kernel_rfl) ?_) | (at_builtin;refine bQ rfl (.tmp 23) (.tmp 27) rfl e.heap.size _ 0 [] rfl (eY e) e.heap.size z a.length A a rfl (h1.alloc (lR _) _) (by omega) (by simp) ?_));intro W l2 m2 n2 X y0 Y _ _ o2 p2;have i:W.length=a:=by simp [X.out]
 clear j1;go_wp2_with (at_builtin;refine cY rfl (.tmp 29) (.tmp 30) rfl e.heap.size _ W.length W rfl y0 rfl (by decide) (by decide) (by omega) (lT (by simp) Y.size) ?_);intro Z C n1 o1 q2 ed z0 A0 B0 _ _ p1 q1;have C0:Hid (C=a++[1]):=by
  unfold Hid;have:=z0.out;have r1:Z=1:=eu (n:=1) ed rfl;rw [this,r1,X]
  try rfl
 have D:C.length=a+1:=by rw [C0];simp
 have s1:Hid (C.length=a+1+0):=D;have E:=(((bR _ _).alloc (lR _) _).trans Y).trans B0;clear D Y B0 y0 z0 ed X i;go_wp2_with fail;go_loopw [4] (fun k wr=>MB a e e k wr) (fun k _=>a+1+dv a.length-hH k)
 case atStart=>exact ⟨0,C,n1,o1,rfl,by simpa using C0,s1,zL,A0,E,p1,q1⟩
 case round=>
  clear A0 E;obtain ⟨F,f,t1,u1,rfl,D0,i,v1,a0,t,E0,F0⟩:=hrel;have G0:=t.size;have w1:(f:Int)%32=((f.length%32:Nat):Int):=qO;obtain ⟨b0,c0⟩:=gH (f.length%32);rw [<-c0] at w1;have G:Hid (dv a.length=(24+64-(a%32+1))%32):=rfl;by_cases d0:b0=24
  ·have x1:=qI d0;have E:((b0:Int)!=24)=false:=by rw [d0];rfl
   have e0:Hid (F=dv a):=by
    unfold Hid;have:=c0.out;have:=x1.out;have:=G.out;have:=i.out;omega
   clear d0;have y1:wr.cell? ⟨g,9,none⟩=some (.int .u64 (l.length:Nat)):=by rw [(U.below t k1).cell,i1]
   have H0:f.length<=64:=by
    have:=i.out;have:=G.out;omega
   go_wp2_with fail;refine (zp e t1 f u1 l 8 wr a0 G0 E0 F0 qO qO qO).mono ?_;rintro o z1 ⟨H,f0,g0,I0,rfl,I,u,h0,i0⟩;have D:H.length=f+8:=by rw [I0,b7,iR]
   have A1:H.length<=72:=qO;have B1:=u.size;clear D a0 y1;go_wp2_with (at_builtin;refine MA rfl (.tmp 45) (.const (.int .i64 32)) _ _ B9 rfl e.heap.size f0 H.length g0 H rfl (s7 I) .i64 32 rfl (by omega) (by omega) (by omega) ?_);intro J0 C1 D1 E1 K0 L0 M0 _ r2 s2;have j0:=(t.trans u).trans M0;have N0:Hid (J0=a++dK a.length l.length):=by
    unfold Hid dK;rw [K0,I0,D0,e0];simp
   have O0:Blk E1 w 247 (wc S++[]):=R.below j0 V;clear u M0 I t E0 F0 h0 i0 H0 A1 G0 B1 v1 K0;go_wp2_with fail;go_loopw [4] (fun k wr=>MD S (a++dK a l) w w k wr) (fun k _=>hH k)
   case atStart=>
    refine ⟨S,J0,C1,D1,rfl,by unfold Hid;rw [N0],by rw [N0,b7];exact zo _ _,O,O0,L0.lower (H7 V),T.trans (j0.mono (H7 V))⟩
   case round=>
    clear O0 L0 j0;obtain ⟨c,b,J,q,rfl,k0,l0,j,K,v,m0⟩:=hrel;have t2:=v.2.1;have P0:=m0.size;by_cases L:32<=b.length
    ·have F1:32<=q:=qO;have Q0:=qI l0;clear l0;go_wp2_with fail;refine (zu w 247 c [] J (b.take 32) 32 q wr j K (v.rd.head (l:=b) L) rfl F1).mono ?_;rintro o G1 ⟨rfl,r,R0⟩;have S0:=j.sumB (b.take 32);have M:Hid (bt (sumB c (b.take 32)) (b.drop 32)=bt S (a++dK a l)):=by
      unfold Hid;rw [<-k0,<-fR L]
     have H1:Seg G1 w 5 1 J b q (bc b):=PF v R0 (fun u2 I1 o=>MC K v (by rw [I1,o]));have T0:=m0.trans (ak R0 (lR _) P0);have hcut:=H1.cut (lo:=32) (hi:=b.length) L (lR _);rw [s9,s9,dW,dx,i9 (by simp)] at hcut;have s:Hid ((b.drop 32).length=b-32):=qI (by simp);by_cases n0:q=32
     ·rw [if_pos n0] at hcut;have J1:=qI n0;go_wp2_with fail;have K1:q-32=0:=by have:=J1.out;omega
      rw [<-s] at hcut ⊢;rw [K1] at hcut;refine ⟨⟨sumB c (b.take 32),b.drop 32,J,0,rfl,M,by rw [s];have:=Q0.out;omega,S0,r,hcut,T0⟩,?_⟩;show (b.drop 32).length<b;rw [s];omega
     rw [if_neg n0] at hcut;go_wp2_with fail;rw [<-s] at hcut ⊢;refine ⟨⟨sumB c (b.take 32),b.drop 32,J.map (·.add 32),q-32,rfl,M,by rw [s];have:=Q0.out;omega,S0,r,hcut,T0⟩,?_⟩;show (b.drop 32).length<b;rw [s];omega
    have L1:b.length=0:=qO;have U0:=nZ L1;have M:Hid (c=(bt S (a++dK a l)).1):=by
     unfold Hid;rw [<-k0,U0,fQ (by simp)]
    clear U0 l0 k0 L;have V0:(wc c).length=8:=by rw [fS];exact j.1
    obtain ⟨W0,rfl⟩:=gX wr;go_wp2_with (refine zx rfl 247 _ rfl w.heap.size 0 rfl _ _ (wc c) _ K (fun l1 m1 h=>by rw [x9,List.append_nil];exact h) Of rfl (by rw [V0];kernel_rfl) ?_);go_loopw [5,7,56] (fun M1 _ o0 N1=>MF c W0 M1 o0 N1) (fun _ _ o0 _=>8-(intOf o0).toNat)
    case atStart=>exact ⟨0,[],none,0,rfl,rfl,qO,rfl,⟨by simp [bc],.inl ⟨rfl,rfl⟩⟩,bR _ _,lR _,by unfold maxLen;omega⟩
    case round=>
     clear K v;obtain ⟨d,m,X0,Y0,rfl,rfl,v2,p0,Z0,r,O1,P1⟩:=hrel;have Q1:=r.size;by_cases N:d<8
     ·have x:(wc c)[d]?=some (.int .u32 (bn c d)):=by
       have:=gC j [] N;rwa [List.append_nil] at this
      have R1:(wc c).toArray[d]?=some (.int .u32 (bn c d)):=by simpa using x
      have S1:d<(wc c).length:=qO;have T1:(wc c)[d]= .int .u32 (bn c d):=by
       rw [gE S1] at x;injection x
      have U1:=j.get N;obtain ⟨y,V1⟩: ∃y:Nat,y=(bn c d).toNat:=⟨_,rfl⟩;have q0:bn c d=(y:Int):=qO;rw [q0] at x R1 T1;have w2:y<kak:=qO;have W1:=qI q0;clear V1 q0 U1;have X1:m=4*d:=by rw [p0];exact zy j.1 qO
      have x2:m.length<=32:=qO;clear X1;have y2:=ME (S:=c) wr V0 N x;go_wp2_with fail;refine (zp W0 X0 m Y0 y 4 wr Z0 Q1 O1 P1 qO qO qO).mono ?_;rintro o z2 ⟨Y1,Z1,a2,b2,rfl,c2,d2,e2,f2⟩;go_wp2_with fail;refine ⟨⟨d+1,Y1,Z1,a2,rfl,by go_num,qO,?_,c2,r.trans d2,e2,f2⟩,by simp [intOf];omega⟩;unfold Hid;rw [b2,p0,zz (by rw [j.1];exact N),W1];rfl
     have a1:d=8:=qO;have g2:Hid (m=dh c):=qI (by rw [p0,a1,i9 (by rw [j.1];omega)]);clear a1;go_wp2_with (refine fU rfl (.tmp 64) rfl wr.heap.size X0 m Y0 m rfl (d8 Z0) ?_);go_ret;refine ⟨m,?_,rfl,m0.trans (r.mono P0)⟩;unfold Hid;rw [g2,M];unfold aw mU;rw [t0]
  have e0:F<dv a.length:=by
   have:=c0.out;have:=G.out;have:=i.out;omega
  have H0:f.length<=64:=by
   have:=i.out;have:=G.out;omega
  have E:((b0:Int)!=24)=true:=by simp;omega
  go_wp2_with (at_builtin;refine cY rfl (.tmp 36) (.tmp 37) rfl e.heap.size _ f.length f rfl a0 rfl (by decide) (by decide) (by omega) (by omega) ?_);intro Z r0 f0 g0 z1 ed b1 I u _ _ h0 i0;go_wp2_with fail;have c1:r0.length=a+1+(F+1):=by rw [b1,b7,i];rfl
  have h2:Z=0:=by
   exact z152
  refine ⟨⟨F+1,r0,f0,g0,rfl,?_,c1,e0,I,t.trans u,h0,i0⟩,?_⟩
  ·unfold Hid;rw [b1,h2,D0,Pd];simp
  show a+1+dv a.length-r0<a+1+dv a.length-f;rw [c1,i];omega
theorem iu (A l c w) (h:Rd w w.heap.size 1 A l.length (bc l)) (i:l.length<=140737488355296):
  Calls an 45 #[.slice A l c] w fun a w'=> ∃b,Hid (b=aw l)/\a= .returned (.string ⟨b.toArray⟩)/\Below w w w':=by
 go_in;go_wp2_with fail;refine (Mv w).mono ?_;rintro a j ⟨e,rfl,k,m,d⟩;go_wp2_with fail;refine (Mx e w [] A l c j m k (h.below d) i (by simp)).mono ?_;rintro a n ⟨rfl,f,g⟩;rw [List.nil_append] at f;go_wp2_with fail;refine (MG e w l n f qO).mono ?_;rintro a q ⟨b,o,rfl,p⟩;go_wp2_with fail;go_ret;exact ⟨b,o,rfl,(d.trans g).trans (p.mono (d.trans g).size)⟩
