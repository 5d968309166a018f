/- Walks and laws. Conditions: as stated. -/
import Derived.WalkSpells
import Derived.WalkLawsBesides
import Derived.Deep.AppendLies
import Derived.WideKeyEntry
import Derived.Deep.DrawnRows
import Derived.Deep.DeepAppendWide
import Derived.Test.YtecpbcmpncgokaaGreatShort
set_option linter.all false
open Go.Builtin renaming append_->PZ
open Go.Result renaming andThen->PQ
open Go.Region renaming wanted->up,ready->PL,binds->P7,Mode->P6
open Go.Value renaming slice->it
open List renaming range->PO
open Go.Proofs.Tryz renaming prog->an
open Go.Oper renaming wp->PV
namespace Go.Dol
end Go.Dol
open Go.RowKit Go.Dol
namespace Go.Dol
theorem gX {b:Sort _} (a:b): ∃x,x=a:=⟨a,rfl⟩
theorem gY {b:Sort _} (a:b): ∃x,a=x:=⟨a,rfl⟩
theorem bAl (w:World) (a:Go.Obj):Below w w (w.alloc a):=(bR _ _).alloc (lR _) _
def bc (l:LU):List Value:=l.map fun a=>Value.int .u8 a.toNat
theorem bC (l:LU):(bc l).length=l:=by simp [bc]
theorem ez (a b:LU):bc (a++b)=bc a++bc b:=by simp [bc]
theorem fW (l:LU): ∀u∈bc l,u.oneCell'=true:=by
 intro u a;obtain ⟨_,_,rfl⟩:=e9.1 a;rfl
theorem bu (l:LU) (j:Nat) (a:j<l):(bc l)[j]?=some (.int .u8 (l[j]).toNat):=by
 simp [bc,gE a]
theorem dW (l:LU) (k:Nat):(bc l).drop k=bc (l.drop k):=by simp [bc,List.map_drop]
theorem dx (l:LU) (k:Nat):(bc l).take k=bc (l.take k):=by simp [bc,List.map_take]
structure Rd (w:World) (B size:Nat) (A:OA) (n:Nat) (xs:List Value):Prop where
 len:xs=n*size
 at_:0<n-> ∃b off,A=some ⟨b,off,none⟩/\b<B/\ ∀j u,xs[j]?=some u->w.cell? ⟨b,off+j,none⟩=some u
section
variable {w w':World} {B B' size n:Nat} {A:OA} {xs:List Value}
theorem Rd.nil:Rd w B size A 0 []:=⟨by simp,fun a=>absurd a (Nat.lt_irrefl 0)⟩
def L8:=@Rd.nil
theorem Rd.keep (a:Rd w B size A n xs) (e: ∀b c,b<B->w'.cell? ⟨b,c,none⟩=w.cell? ⟨b,c,none⟩):Rd w' B size A n xs:=
 ⟨a.len,fun f=>by
  obtain ⟨b,g,h,d,i⟩:=a.at_ f;exact ⟨b,g,h,d,fun j u k=>(e _ _ d).trans (i j u k)⟩⟩
theorem Rd.more (a:Rd w B size A n xs) (g:B<=B'):Rd w B' size A n xs:=
 ⟨a.len,fun b=>by
  obtain ⟨c,d,e,h,f⟩:=a.at_ b;exact ⟨c,d,e,qO,f⟩⟩
theorem Rd.below (a:Rd w B size A n xs) (b:Below B w w'):Rd w' B size A n xs:=a.keep fun c d e=>b.cell (p:=⟨c,d,none⟩) e
theorem Rd.belowW (b:Rd w B size A n xs) (c:Below w w w') (e:B<=w):Rd w' B size A n xs:=b.keep fun a d f=>c.cell (p:=⟨a,d,none⟩) (by show a<_;omega)
theorem Rd.drew (a:Rd w B size A n xs):Rd w.drew B size A n xs:=⟨a.len,a.at_⟩
theorem Rd.drewN (a:Rd w B size A n xs) (k:Nat):Rd (w.drewN k) B size A n xs:=⟨a.len,a.at_⟩
theorem Rd.alloc (b:Rd w B size A n xs) (d:B<=w) (a:Obj):Rd (w.alloc a) B size A n xs:=b.keep fun c _ e=>F7 w a _ (by show c<_;omega)
theorem Rd.setCell (a:Rd w B size A n xs) {p:Addr} (b:B<=p.block) (u:Value):Rd (w.setCell p u) B size A n xs:=
 a.keep fun d _ e=>G8 w p _ u (fun c=>by subst c;exact absurd b (by simp;omega))
theorem Rd.grown (b:Rd w B size A n xs) {a:Option Nat} (c:w.grownBy w' a) (h:B<=w) (d: ∀g,a=some g->B<=g):Rd w' B size A n xs:=
 b.keep fun e _ i=>k7 (c.block e qO (fun f=>by have:=d _ f.symm;omega))
theorem Rd.none_zero (b:Rd w B size none n xs):n=0:=by
 rcases p7 n with a | a
 ·exact a
 obtain ⟨d,e,c,_⟩:=b.at_ a;cases c
theorem Rd.xs_nil (a:Rd w B size A 0 xs):xs=[]:=nZ (by simpa using a.len)
theorem Rd.cut (b:Rd w B size A n xs) {lo hi cap:Nat} (j:lo<=hi) (k:hi<=n) (l:n<=cap):
  Rd w B size (if cap=lo then A else A.map (·.add (lo*size))) (hi-lo) ((xs.drop (lo*size)).take ((hi-lo)*size)):=by
 refine ⟨?_,fun m=> ?_⟩
 ·have o:(hi-lo)*size<=xs-lo*size:=by
   rw [b.len,<-Nat.sub_mul];exact Oo _ qO
  simp only [b9,b8];omega
 obtain ⟨c,d,rfl,e,f⟩:=b.at_ qO;rw [if_neg qO];refine ⟨c,d+lo*size,by simp [H8],e,fun g h a=> ?_⟩;have i:g<(hi-lo)*size:=by
  have:=(c9.1 a).1;simp only [b9,b8] at this;omega
 rw [w7,if_pos i,H9] at a;rw [OH];exact f _ h a
theorem Rd.tail {l:LU} {k cap:Nat} (h:Rd w B 1 A l.length (bc l)) (a:k<=l) (b:l<=cap):Rd w B 1 (if cap=k then A else A.map (·.add k)) (l-k) (bc (l.drop k)):=by
 have:=h.cut (lo:=k) (hi:=l.length) a (lR _) b;exact z285
theorem Rd.head {l:LU} {k:Nat} (b:Rd w B 1 A l.length (bc l)) (c:k<=l):Rd w B 1 A k (bc (l.take k)):=by
 refine ⟨by simp [bc,Oj c],fun m=> ?_⟩;obtain ⟨d,e,f,g,h⟩:=b.at_ qO;refine ⟨d,e,f,g,fun i j a=>h i j ?_⟩;rw [<-dx,w7] at a;split at a
 ·exact a
 cases a
theorem Rd.of_own {base:Nat} {d:TypeId} {c:Nat} (a:w.ownsRow base d size (.slice A n c) n xs):Rd w w size A n xs:=by
 refine ⟨a.1,fun e=> ?_⟩;obtain ⟨b,l,f,_,g⟩:=a.form e;injection f with h;subst h;exact ⟨b,0,rfl,g,fun i j k=>by have:=a.cells (g:=b) rfl i j k;rwa [H8] at this⟩
def d8:=@Rd.of_own
end
theorem _root_.Go.World.ownsRow.base {w:World} {base base':Nat} {a:TypeId} {size:Nat} {v:Value} {n:Nat} {b:List Value} (c:w.ownsRow base a size v n b) (j:base'<=base):w.ownsRow base' a size v n b:=by
 refine ⟨c.1,?_⟩;rcases c.2 with d | ⟨e,f,g,h,d,i⟩
 ·exact .inl d
 exact .inr ⟨e,f,g,h,qO,i⟩
theorem fA {w:World} {base:Nat} {a:TypeId} {size:Nat} {v:Value} {n:Nat} {b:List Value} (d:w.ownsRow base a size v n b): ∃A c,v= .slice A n c/\n<=c/\c<=maxLen:=by
 rcases d.2 with ⟨rfl,rfl⟩ | ⟨g,h,i,rfl,_,_,e,f,_⟩
 ·exact ⟨none,0,rfl,lR _,by unfold maxLen;omega⟩
 exact ⟨_,_,rfl,e,f⟩
section
variable {P:Program} (w:World)
theorem zH (base:Nat) (b ty d:TypeId) (i:TypeInfo) (size:Nat) (f:P.underlying b=some (.slice d)) (hi:P.info? d=some i)
  (v:Value) (n:Nat) (j:List Value) (k:w.ownsRow base d size v n j) (A:OA) (c:Nat):(PZ #[b,b] ty #[v,.slice A 0 c]).run P w= .ok v w:=by
 have g: ∀e:World,(Builtin.firstCells i.size 0 (.slice A 0 c)).run P e= .ok #[] e:=fun e=>by
  exact z46
 rcases k.2 with ⟨rfl,rfl⟩ | ⟨m,o,q,rfl,_,_,l,_⟩
 ·simp [PZ,run_underlying f,sizeOf,typeInfo,hi,Builtin.lenOf,g]
 simp [PZ,run_underlying f,sizeOf,typeInfo,hi,Builtin.lenOf,g,l,storeCells]
theorem Nd (base:Nat) (d ty a:TypeId) (i:TypeInfo) (g:Value) (size h:Nat) (o:P.underlying d=some (.slice a)) (hi:P.info? a=some i) (p:i.zero=some g)
  (q:i.size=size) (r:i.bytes=h) (s:g.cells.size=size) (t:0<size)
  (v:Value) (n:Nat) (e:List Value) (j:w.ownsRow base a size v n e)
  (B:Nat) (A:OA) (m c:Nat) (f:List Value) (k:Rd w B size A m f) (x: ∀u∈f,u.oneCell'=true)
  (y:n+m<=maxLen) (z:(n+m)*h<=kaa) (hbase:base<=w):
  ∃b w',(PZ #[d,d] ty #[v,.slice A m c]).run P w= .ok b w'/\w'.ownsRow base a size b (n+m) (e++f)/\w.grownBy w' v.ownBlock/\
   (b.ownBlock=v.ownBlock\/b.ownBlock=some w.heap.size):=by
 rcases p7 m with l | l
 ·subst l;obtain rfl:=k.xs_nil;exact ⟨v,w,zH w base d ty a i size o hi v n e j A c,by simpa using j,gR w _,.inl rfl⟩
 obtain ⟨C,D,rfl,_,E⟩:=k.at_ l;obtain ⟨b,w',F,G,H,_,I⟩:=run_append_own_at (P:=P) w base d ty a i g size h o hi p q r s t v n e j ⟨C,D,none⟩ m c f k.len
  (fun J u K=>by rw [H8];exact E J u K) x y z hbase
 exact ⟨b,w',F,G,H,I⟩
variable {ops:Array Oper} {rest:List Oper} {o:Oper} {a:Act} {Q:Exit->Act->World->Prop}
theorem hG {K:Act->World->Prop} (s x:Operand) (d:TypeId)
  (k:o.op= .call { callee:=.builtin .append,args:=#[s,x],argTypes:=#[d,d] })
  (base:Nat) (b:TypeId) (f:Value) (size g:Nat) (l:P.underlying d=some (.slice b)) (hi:(P.info? b).map (fun i=>(i.zero,i.size,i.bytes))=some (some f,size,g))
  (p:f.cells.size=size) (q:0<size)
  (v:Value) (n:Nat) (h:List Value) (r:a.eval s=v) (t:w.ownsRow base b size v n h)
  (B:Nat) (A:OA) (m c:Nat) (e:List Value) (y:a.eval x= .slice A m c) (z:Rd w B size A m e) (C: ∀u∈e,u.oneCell'=true)
  (D:n+m<=maxLen) (E:(n+m)*g<=kaa) (hbase:base<=w)
  (F: ∀A' c' w',w'.ownsRow base b size (.slice A' (n+m) c') (n+m) (h++e)->w.grownBy w' v.ownBlock->((it A' (n+m) c').ownBlock=v.ownBlock\/(it A' (n+m) c').ownBlock=some w.heap.size)->
   n+m<=c'->c'<=maxLen->K (a.put o.dst (.slice A' (n+m) c')) w'):o.wp P a w K Q:=by
 obtain ⟨i,G,H,I,J⟩:=info_parts hi;obtain ⟨S,w',L,j,M,N⟩:=Nd (P:=P) w base d o.type b i f size g l G H I J p q v n h t B A m c e z C D E hbase;obtain ⟨A',c',rfl,O,R⟩:=fA j;unfold PV execOp;simp only [k,resolve,invoke,builtin,NI,NU,M7,Oy,List.map_cons,List.map_nil,r,y,L];exact F A' c' w' j M N O R
theorem hZ (j:o.guard=none) (s x:Operand) (d:TypeId)
  (k:o.op= .call { callee:=.builtin .append,args:=#[s,x],argTypes:=#[d,d] })
  (base:Nat) (b:TypeId) (f:Value) (size g:Nat) (l:P.underlying d=some (.slice b)) (hi:(P.info? b).map (fun i=>(i.zero,i.size,i.bytes))=some (some f,size,g))
  (p:f.cells.size=size) (q:0<size)
  (v:Value) (n:Nat) (h:List Value) (r:a.eval s=v) (t:w.ownsRow base b size v n h)
  (B:Nat) (A:OA) (m c:Nat) (e:List Value) (y:a.eval x= .slice A m c) (z:Rd w B size A m e) (C: ∀u∈e,u.oneCell'=true)
  (D:n+m<=maxLen) (E:(n+m)*g<=kaa) (hbase:base<=w)
  (F: ∀A' c' w',w'.ownsRow base b size (.slice A' (n+m) c') (n+m) (h++e)->w.grownBy w' v.ownBlock->((it A' (n+m) c').ownBlock=v.ownBlock\/(it A' (n+m) c').ownBlock=some w.heap.size)->
   n+m<=c'->c'<=maxLen->wpList P ops Q rest (a.put o.dst (.slice A' (n+m) c')) w'):wpList P ops Q (o::rest) a w:=
 wpList_plain j fun _ G=>hG w s x d k base b f size g l hi p q v n h r t B A m c e y z C D E hbase fun A' c' w' H I J K L=>G _ _ (F A' c' w' H I J K L)
end
theorem mO {P:Program} (w:World) (src dst b:TypeId) (f:P.underlying src=some (.slice b)) (g:P.underlying b=some (.int .u8)) (h:P.underlying dst=some .string)
  (B:Nat) (A:OA) (n c:Nat) (l:LU) (d:Rd w B 1 A n (bc l)):(convert src dst (.slice A n c)).run P w= .ok (.string ⟨l.toArray⟩) w:=by
 have i:l=n:=by have:=d.len;rw [bC] at this;omega
 cases A with
 | none=>
  have k:=d.none_zero;subst k;obtain rfl:l=[]:=nZ i;exact run_convert_bytes_nil w src b f g _ c dst h
 | some a=>
 have m:(loadCells a n).run P w= .ok ((l.map fun c=>(c.toNat:Int)).map (Value.int .u8)).toArray w:=by
  have:=run_loadCells_list (P:=P) w a (bc l) (fun o p j=>by
   have q:=(c9.1 j).1;rw [bC] at q;obtain ⟨s,t,e,_,r⟩:=d.at_ qO;injection e with e;subst e;rw [H8];exact r o p j)
  rw [bC,i] at this;rw [this];simp [bc,w9,Function.comp_def]
 rw [run_convert_bytes_string w src dst b _ n c f g h,run_bytesToString w a n c _ m,foldl_push_bytes];simp [ByteArray.empty,ByteArray.emptyWithCapacity,w9,Function.comp_def];rfl
theorem Nf {P:Program} {w:World} {e:Array Oper} {rest:List Oper} {b:Oper} {a:Act} {f:Exit->Act->World->Prop} (g:b.guard=none) (x:Operand) (src dst d:TypeId)
  (h:b.op= .convert src dst x) (i:P.underlying src=some (.slice d)) (j:P.underlying d=some (.int .u8)) (k:P.underlying dst=some .string)
  (B:Nat) (A:OA) (n c:Nat) (l:LU) (m:a.eval x= .slice A n c) (o:Rd w B 1 A n (bc l))
  (p:wpList P e f rest (a.put b.dst (.string ⟨l.toArray⟩)) w):wpList P e f (b::rest) a w:=by
 refine wpList_plain g fun r q=> ?_;unfold PV execOp;simp only [h,m,NI,mO w src dst d i j k B A n c l o,M7,NU];exact q _ _ p
theorem Rd.one (w:World) (T:TypeId) (k:Int) (e:0<=k) (f:k<256):Rd (w.alloc (.cells #[.int .u8 k] T)) (w+1) 1 (some ⟨w,0,none⟩) 1 (bc [UInt8.ofNat k.toNat]):=by
 refine ⟨by simp [bc],fun _=>⟨w,0,rfl,qO,fun a c b=> ?_⟩⟩;have g:a<1:=by have:=(c9.1 b).1;simpa [bc] using this
 obtain rfl:a=0:=qO;have d:((k.toNat%256:Nat):Int)=k:=qO;have:c= .int .u8 k:=by simpa [bc,d] using b.symm
 subst this;simp
theorem zY (x:Nat):bits .or .u8 (x%256) 128=((128+x%128:Nat):Int):=by
 have b: ∀a:Fin 256,bits .or .u8 ((a.val:Nat):Int) 128=((128+a.val%128:Nat):Int):=by decide+kernel
 have:=b ⟨x%256,PG _ qO⟩;simp only at this;rw [show ((x:Int)%256)=((x%256:Nat):Int) by omega,this];omega
theorem si (x:Nat) (c:x<9223372036854775808):bits .and .i64 (x:Int) 1=((x%2:Nat):Int):=by
 show IntKind.i64.wrap ((BitVec.ofInt 64 x &&& BitVec.ofInt 64 1).toNat:Int)=_;rw [BitVec.toNat_and,BitVec.toNat_ofInt,BitVec.toNat_ofInt,IntKind.wrap_i64];have a:((x:Int)%((2^64:Nat):Int)).toNat=x:=qO;have b:((1:Int)%((2^64:Nat):Int)).toNat=1:=qO;rw [a,b,Nat.and_one_is_mod];omega
theorem ra (n:Int) (a:0<=n) (b:n<2^64):IntKind.u64.wrap n=n:=by rw [Oc];omega
theorem rt (x:Nat) (a:x<256):bits .and .u8 (x:Int) 127=((x%128:Nat):Int):=by
 rw [show (127:Int)=2^7-1 by decide,bits_mask .u8 8 (by decide) wraps_u8 7 (by decide) x qO qO];omega
theorem ru (n y k:Nat) (f:k<9) (a:n<128^k) (g:y<128): ∃b m:Nat,IntKind.u64.wrap (y*2^(7*k))=(b:Nat)/\bits .or .u64 (n:Int) (b:Int)=(m:Nat)/\m=n+128^k*y:=by
 have c:(128:Nat)^k=2^(7*k):=by rw [Nat.pow_mul]
 have d:128^k<=128^8:=NL (by decide) qO;have h:128^k*y<=128^8*127:=Nat.mul_le_mul d qO;refine ⟨128^k*y,n+128^k*y,?_,?_,rfl⟩
 ·have e:(y:Int)*2^(7*k)=((128^k*y:Nat):Int):=by rw [c,Int.mul_comm];simp
  rw [e,Oc];omega
 have i:n<18446744073709551616:=qO;rw [(bits_nat .u64 64 (by decide) ra n (128^k*y) qO qO).2];rw [c] at a ⊢;rw [Nat.or_comm,<-Nat.two_pow_add_eq_or_of_lt a y,Nat.add_comm]
def ep (T:TypeId) (w:World) (l:LU) (d:Ending) (w':World):Prop:=
 ∃(a:LU) (c:OA) (b:Nat),Hid (a=l)/\d= .returned (.slice c a b)/\w'.ownsRow w T 1 (.slice c a b) a (bc a)/\Below w w w'/\a<=b/\b<=maxLen
def rr (T:TypeId) (w:World) (r:Option (Nat×LU)) (c:Ending) (w':World):Prop:=
 match r with
 | none=>c= .returned (.tuple #[i0,eL,.int .i64 2])/\Below w w w'
 | some (e,f)=> ∃(a:LU) (d:OA) (b:Nat),Hid (a=f)/\c= .returned (.tuple #[(e:Nat),.slice d a b,i0])/\w'.ownsRow w T 1 (.slice d a b) a (bc a)/\Below w w w'/\a<=b/\b<=maxLen
theorem _root_.Go.RowKit.Below.drewN' {B:Nat} {a w:World} (b:Below B a w) (n:Nat):Below B a (w.drewN n):=⟨b.os,b.tape,b.output,b.size,b.block⟩
open Go.RowKit
theorem aC (s:BA):s.data.toList=s.size:=by rw [v7];rfl
theorem uR {P:Program} (w:World) (src dst a:TypeId) (s:BA) (e:P.underlying src=some .string) (f:P.underlying dst=some (.slice a)) (g:P.underlying a=some (.int .u8)) (i:s.size<=kaa):
  ∃A c w',(convert src dst (.string s)).run P w= .ok (.slice A s.size c) w'/\Rd w' w'.heap.size 1 A s.size (bc s.data.toList)/\Below w w w'/\s.size<=c/\c<=maxLen:=by
 refine ⟨_,_,_,run_bytes_of_string w src dst a s e f g,⟨by rw [bC,aC,s9],fun _=>⟨w.heap.size,0,rfl,by simp,fun h j b=> ?_⟩⟩,
  ((bR _ _).drew).alloc (by simp) _,grownCap_ge w s.size 0 a,grownCap_le_maxLen w s.size 0 a (by unfold maxLen;omega)⟩
 have d:=(c9.1 b).1;rw [bC,aC] at d;show (World.alloc w.drew _).cell? ⟨w.drew,0+h,none⟩=_;rw [World.cell?_alloc_mark];simp only [bytesRow,x9];rw [Array.getElem?_append_left (by simpa using d)];simp only [bc,m7] at b;simpa using b
theorem MY {P:Program} {w:World} {e:Array Oper} {rest:List Oper} {b:Oper} {a:Act} {f:Exit->Act->World->Prop} (g:b.guard=none) (x:Operand) (src dst d:TypeId)
  (h:b.op= .convert src dst x) (i:P.underlying src=some .string) (j:P.underlying dst=some (.slice d)) (k:P.underlying d=some (.int .u8))
  (s:BA) (l:a.eval x= .string s) (m:s.size<=kaa)
  (n: ∀A c w',Rd w' w'.heap.size 1 A s.size (bc s.data.toList)->Below w w w'->s.size<=c->c<=maxLen->wpList P e f rest (a.put b.dst (.slice A s.size c)) w'):wpList P e f (b::rest) a w:=by
 refine wpList_plain g fun v o=> ?_;obtain ⟨A,c,w',p,q,r,t,u⟩:=uR w src dst d s i j k m;unfold PV execOp;simp only [h,l,NI,p,M7,NU];exact o _ _ (n A c w' q r t u)
open Go.RowKit
def Seg (w:World) (base:Nat) (f:TypeId) (size:Nat) (A:OA) (n c:Nat) (e:List Value):Prop:=
 e=n*size/\n<=c/\c<=maxLen/\
 (c=0\/ ∃a b d,A=some ⟨a,b,none⟩/\base<=a/\w.heap[a]?=some (.cells d f (0,0))/\b+c*size<=d.size/\(d.toList.drop b).take (n*size)=e)
def au (A:OA):Option Nat:=A.map (·.block)
def aT (A:OA) (c:Nat):Option Nat:=if 0<c then au A else none
section
variable {w w':World} {base base':Nat} {e:TypeId} {size:Nat} {A:OA} {n c:Nat} {xs:List Value}
theorem Seg.of_own (d:w.ownsRow base e size (.slice A n c) n xs):Seg w base e size A n c xs:=by
 refine ⟨d.1,?_⟩;rcases d.2 with ⟨a,rfl⟩ | ⟨f,o,g,a,h,i,j,k,p,l⟩
 ·injection a with _ _ b;subst b;exact ⟨lR _,by unfold maxLen;omega,.inl rfl⟩
 injection a with m _ b;subst b;exact ⟨j,k,.inr ⟨f,0,g,m,h,i,qO,by simpa using l⟩⟩
def s7:=@Seg.of_own
theorem Seg.nil:Seg w base e size A 0 0 []:=⟨by simp,lR _,by unfold maxLen;omega,.inl rfl⟩
theorem Seg.lower (b:Seg w base e size A n c xs) (m:base'<=base):Seg w base' e size A n c xs:=by
 obtain ⟨d,f,g,a⟩:=b;refine ⟨d,f,g,?_⟩;rcases a with a | ⟨h,i,j,k,o,l⟩
 ·exact .inl a
 exact .inr ⟨h,i,j,k,qO,l⟩
theorem Seg.lt (a:Seg w base e size A n c xs) (f:0<c): ∃g,au A=some g/\base<=g/\g<w.heap.size:=by
 rcases a.2.2.2 with h | ⟨g,i,j,rfl,b,d,_⟩
 ·omega
 exact ⟨g,rfl,b,(j7.1 d).1⟩
theorem Seg.row (b:Seg w base e size A n c xs): ∀g,aT A c=some g->base<=g/\g<w.heap.size:=by
 intro g a;unfold aT at a;split at a
 ·obtain ⟨i,d,f,h⟩:=b.lt (by assumption);rw [d] at a;injection a with a;subst a;exact ⟨f,h⟩
 cases a
theorem Seg.keepB (d:Seg w base e size A n c xs) (f: ∀g,au A=some g->g<w.heap.size->w'.heap[g]?=w.heap[g]?):Seg w' base e size A n c xs:=by
 obtain ⟨h,i,j,a⟩:=d;refine ⟨h,i,j,?_⟩;rcases a with a | ⟨g,k,l,rfl,m,b,o⟩
 ·exact .inl a
 exact .inr ⟨g,k,l,rfl,m,(f g rfl (j7.1 b).1).trans b,o⟩
theorem Seg.belowW (a:Seg w base e size A n c xs) (b:Below w w w'):Seg w' base e size A n c xs:=a.keepB fun d _ f=>b.block d f
theorem Seg.drew (a:Seg w base e size A n c xs):Seg w.drew base e size A n c xs:=a.keepB fun _ _ _=>rfl
theorem Seg.drewN (a:Seg w base e size A n c xs) (k:Nat):Seg (w.drewN k) base e size A n c xs:=a.keepB fun _ _ _=>rfl
theorem Seg.alloc (b:Seg w base e size A n c xs) (a:Obj):Seg (w.alloc a) base e size A n c xs:=b.keepB fun d _ f=>C7 w a d f
theorem Seg.rd (h:Seg w base e size A n c xs):Rd w w size A n xs:=by
 obtain ⟨b,d,f,a⟩:=h;refine ⟨b,fun i=> ?_⟩;rcases a with a | ⟨g,off,cur,rfl,k,a3,l,a5⟩
 ·omega
 refine ⟨g,off,rfl,(j7.1 a3).1,fun j m hu=> ?_⟩;exact z49
theorem Seg.cut (b:Seg w base e size A n c xs) {lo hi:Nat} (m:lo<=hi) (o:hi<=n):
  Seg w base e size (if c=lo then A else A.map (·.add (lo*size))) (hi-lo) (c-lo) ((xs.drop (lo*size)).take ((hi-lo)*size)):=by
 obtain ⟨d,p,q,a⟩:=b;have r:(hi-lo)*size<=n*size-lo*size:=by
  rw [<-Nat.sub_mul];exact Oo _ qO
 refine ⟨by simp only [b9,b8,d];omega,qO,qO,?_⟩;by_cases f:c=lo
 ·exact .inl qO
 rcases a with a | ⟨g,h,i,rfl,j,k,s,l⟩
 ·exact .inl qO
 rw [if_neg f];refine .inr ⟨g,h+lo*size,i,by simp [H8],j,k,?_,?_⟩
 ·have t:lo*size+(c-lo)*size=c*size:=by rw [<-Pc];congr 1;omega
  omega
 rw [<-l,Pq,OT,Om];congr 1;omega
end
section
variable {P:Program} (w:World)
theorem qz (base:Nat) (r tx ty e:TypeId) (i:TypeInfo) (s:Value) (size z:Nat) (t:P.underlying r=some (.slice e)) (hi:P.info? e=some i) (G:i.zero=some s)
  (H:i.size=size) (I:i.bytes=z) (J:s.cells.size=size)
  (A:OA) (n c:Nat) (k:List Value) (K:Seg w base e size A n c k) (x:Value) (m:Nat) (d:List Value) (b:Src P size tx x m d w)
  (B:n+m<=maxLen) (L:(n+m)*z<=kaa) (hbase:base<=w):
  ∃A' c' w',(PZ #[r,tx] ty #[.slice A n c,x]).run P w= .ok (.slice A' (n+m) c') w'/\Seg w' base e size A' (n+m) c' (k++d)/\
   w.grownBy w' (aT A c)/\((A'=A/\c'=c)\/(c<n+m/\au A'=some w.heap.size)):=by
 subst H;subst I;obtain ⟨o,c0,C,q⟩:=K;have d0:n+m<=kal:=by simp only [maxLen] at B;omega
 have l:(k++d).length=(n+m)*i.size:=by rw [b7,o,b.newsLen,Pc]
 by_cases u:n+m<=c
 ·have M:c=0\/0<c:=qO;rcases M with e0 | N
  ·have O:n=0:=qO;have Q:m=0:=qO;have R:c=0:=qO;subst O Q R;have S:=nZ (by rw [b.newsLen];simp);have v:=nZ (by rw [o];simp);subst S;subst v;refine ⟨A,0,w,?_,⟨by simp,lR _,C,.inl rfl⟩,⟨rfl,rfl,rfl,lR _,fun _ _ _=>rfl⟩,.inl ⟨rfl,rfl⟩⟩;rcases b.kind with ⟨T,f⟩ | f<;>cases A<;>simp [PZ,run_underlying t,run_underlying f,sizeOf,typeInfo,hi,b.len,b.cells,storeCells]
  rcases q with q | ⟨g,off,cur,rfl,D,a3,U,a5⟩
  ·omega
  have f0:off+n*i.size+d<=cur.size:=by
   have V:(n+m)*i.size<=c*i.size:=Oo _ u;rw [Pc] at V;rw [b.newsLen];omega
  have E:=run_storeCells_at P g (off+n*i.size) e d 0 cur w a3 qO b.one;simp only [Oe] at E;refine ⟨_,c,w.setRow g (cur.toList.take (off+n*i.size)++d++cur.toList.drop (off+n*i.size+d.length)).toArray,?_,
   ⟨l,u,C,.inr ⟨g,off,_,rfl,D,setRow_heap w g cur _ e _ a3,?_,?_⟩⟩,?_,.inl ⟨rfl,rfl⟩⟩
  ·rcases b.kind with ⟨T,f⟩ | f<;>simp [PZ,run_underlying t,run_underlying f,sizeOf,typeInfo,hi,b.len,u,b.cells,H8,E]
  ·simp only [List.size_toArray,b7,b9,b8,v7];omega
  ·rw [<-a5,g9,List.drop_append,Pq];have W:off-(cur.toList.take (off+n*i.size)).length=0:=by rw [b9,v7];omega
   rw [W,y8,NN];have X:((cur.toList.drop off).take (n*i.size)++d).length=(n+m)*i.size:=by rw [a5];exact l
   rw [<-g9,<-X];exact Nx
  unfold aT;rw [if_pos N];exact ⟨rfl,rfl,rfl,by simp,fun y _ f=>setRow_other w g y _ (fun e=>f (by rw [e];rfl))⟩
 have Y:(Builtin.firstCells i.size n (.slice A n c)).run P w.drew= .ok k.toArray w.drew:=by
  rcases p7 n with F | F
  ·subst F;have v:=nZ (by rw [o];simp);subst v;exact z46
  rcases q with q | ⟨g,off,cur,rfl,D,a3,U,a5⟩
  ·omega
  refine run_firstCells_some w.drew i.size n _ n c k o (fun j g0 hu=> ?_);rw [H8];show w.cell? _=_;exact z49
 have Z:=run_append_grow_src (P:=P) w r tx ty e i s t hi G A n c k Y x m d b qO qO (growslice_fits qO L);have a0:=grownCap_ge w (n+m) c e;have b0:=grownCap_le_maxLen w (n+m) c e B;refine ⟨_,_,_,Z,⟨l,a0,b0,.inr ⟨w,0,_,rfl,hbase,heap_alloc_new w.drew _,?_,?_⟩⟩,?_,.inr ⟨qO,rfl⟩⟩
 ·simp only [Array.size_append,List.size_toArray,size_zeroCells,J,l,<-Pc];have:n+m+(grownCap w (n+m) c e-(n+m))=grownCap w (n+m) c e:=qO;rw [this];omega
 ·rw [y8,OG,<-l];exact Nx
 refine ⟨rfl,rfl,rfl,by simp,?_⟩;intro y f _;exact C7 w.drew _ y f
theorem Ng (base:Nat) (b tx ty a:TypeId) (i:TypeInfo) (d:Value) (size e:Nat) (j:P.underlying b=some (.slice a)) (hi:P.info? a=some i) (k:i.zero=some d)
  (l:i.size=size) (o:i.bytes=e) (p:d.cells.size=size)
  (A:OA) (n c:Nat) (f:List Value) (q:Seg w base a size A n c f) (x:Value) (m:Nat) (g:List Value) (r:Src P size tx x m g w)
  (s:n+m<=maxLen) (t:(n+m)*e<=kaa) (hbase:base<=w):
  ∃A' c' w',(PZ #[b,tx] ty #[.slice A n c,x]).run P w= .ok (.slice A' (n+m) c') w'/\Seg w' base a size A' (n+m) c' (f++g)/\
   w.grownBy w' (aT A c)/\(au A'=au A\/au A'=some w.heap.size):=by
 obtain ⟨A',c',w',u,v,y,z⟩:=qz w base b tx ty a i d size e j hi k l o p A n c f q x m g r s t hbase;exact ⟨A',c',w',u,v,y,z.imp (fun h=>by rw [h.1]) (fun h=>h.2)⟩
variable {ops:Array Oper} {rest:List Oper} {o:Oper} {a:Act} {Q:Exit->Act->World->Prop}
theorem Nh {K:Act->World->Prop} (s k:Operand) (d tx:TypeId)
  (l:o.op= .call { callee:=.builtin .append,args:=#[s,k],argTypes:=#[d,tx] })
  (base:Nat) (b:TypeId) (e:Value) (size f:Nat) (p:P.underlying d=some (.slice b)) (hi:(P.info? b).map (fun i=>(i.zero,i.size,i.bytes))=some (some e,size,f))
  (q:e.cells.size=size)
  (A:OA) (n c:Nat) (g:List Value) (r:a.eval s= .slice A n c) (t:Seg w base b size A n c g)
  (x:Value) (m:Nat) (h:List Value) (u:a.eval k=x) (v:Src P size tx x m h w)
  (y:n+m<=maxLen) (z:(n+m)*f<=kaa) (hbase:base<=w)
  (B: ∀A' c' w',Seg w' base b size A' (n+m) c' (g++h)->w.grownBy w' (aT A c)->(au A'=au A\/au A'=some w.heap.size)->
   n+m<=c'->c'<=maxLen->K (a.put o.dst (.slice A' (n+m) c')) w'):o.wp P a w K Q:=by
 obtain ⟨i,C,D,E,F⟩:=info_parts hi;obtain ⟨A',c',w',G,j,H,I⟩:=Ng (P:=P) w base d tx o.type b i e size f p C D E F q A n c g t x m h v y z hbase;unfold PV execOp;simp only [l,resolve,invoke,builtin,NI,NU,M7,Oy,List.map_cons,List.map_nil,r,u,G];exact B A' c' w' j H I j.2.1 j.2.2.1
theorem mf {K:Act->World->Prop} (s k:Operand) (d tx:TypeId)
  (l:o.op= .call { callee:=.builtin .append,args:=#[s,k],argTypes:=#[d,tx] })
  (base:Nat) (b:TypeId) (e:Value) (size f:Nat) (p:P.underlying d=some (.slice b)) (hi:(P.info? b).map (fun i=>(i.zero,i.size,i.bytes))=some (some e,size,f))
  (q:e.cells.size=size)
  (A:OA) (n c:Nat) (g:List Value) (r:a.eval s= .slice A n c) (t:Seg w base b size A n c g)
  (x:Value) (m:Nat) (h:List Value) (u:a.eval k=x) (v:Src P size tx x m h w)
  (y:n+m<=maxLen) (z:(n+m)*f<=kaa) (hbase:base<=w)
  (B: ∀A' c' w',Seg w' base b size A' (n+m) c' (g++h)->w.grownBy w' (aT A c)->((A'=A/\c'=c)\/(c<n+m/\au A'=some w.heap.size))->
   n+m<=c'->c'<=maxLen->K (a.put o.dst (.slice A' (n+m) c')) w'):o.wp P a w K Q:=by
 obtain ⟨i,C,D,E,F⟩:=info_parts hi;obtain ⟨A',c',w',G,j,H,I⟩:=qz (P:=P) w base d tx o.type b i e size f p C D E F q A n c g t x m h v y z hbase;unfold PV execOp;simp only [l,resolve,invoke,builtin,NI,NU,M7,Oy,List.map_cons,List.map_nil,r,u,G];exact B A' c' w' j H I j.2.1 j.2.2.1
end
theorem Src.ofRd {P:Program} {w:World} {B size:Nat} {tx g:TypeId} (i:P.underlying tx=some (.slice g)) {A:OA} {m c:Nat} {b:List Value} (d:Rd w B size A m b) (k: ∀u∈b,u.oneCell'=true):
  Src P size tx (.slice A m c) m b w:=by
 rcases p7 m with e | e
 ·subst e;obtain rfl:=d.xs_nil;have j: ∀f:World,(Builtin.firstCells size 0 (.slice A 0 c)).run P f= .ok #[] f:=fun f=>by
   exact z46
  exact ⟨.inl ⟨g,i⟩,fun _=>rfl,j w,j w.drew,by simp,fun _ h=>by cases h⟩
 obtain ⟨q,r,rfl,_,l⟩:=d.at_ e;exact Src.ofSlice w i _ m c b d.len (fun n u o=>by rw [H8];exact l n u o) k
theorem vI (s:BA):byteCells s=bc s.data.toList:=rfl
end Go.Dol
namespace Go.Proofs.YtecpbcmpncgokaaGreat
theorem eh:(an.info? 5).map (fun i=>(i.zero,i.size,i.bytes))=some (some (.int .u8 0),1,1):=qkR
theorem rn (w:World) (A:OA) (n c:Nat):(binOp .eql 36 (.slice A n c) eL).run an w= .ok (.bool A.isNone) w:=Lib.run_eql_slice_nil w _ _ A n c 0 0 q7
theorem bQ {w:World} {h:Array Oper} {rest:List Oper} {f:Oper} {a:Act} {i:Exit->Act->World->Prop} (r:f.guard=none) (s x:Operand)
  (t:f.op= .call { callee:=.builtin .append,args:=#[s,x],argTypes:=#[36,36] })
  (base:Nat) (v:Value) (n:Nat) (d:LU) (u:a.eval s=v) (g:w.ownsRow base 5 1 v n (bc d))
  (B:Nat) (A:OA) (m c:Nat) (e:LU) (y:a.eval x= .slice A m c) (j:Rd w B 1 A m (bc e))
  (F:n+m<=kaa) (hbase:base<=w)
  (z: ∀(b:LU) (A':OA) (c':Nat) (w':World),Hid (b=d++e)->w'.ownsRow base 5 1 (.slice A' b.length c') b.length (bc b)->Below base w w'->w.grownBy w' v.ownBlock->
   Hid ((it A' b.length c').ownBlock=v.ownBlock\/(it A' b.length c').ownBlock=some w.heap.size)->
   b.length<=c'->c'<=maxLen->wpList an h i rest (a.put f.dst (.slice A' b.length c')) w'):wpList an h i (f::rest) a w:=by
 refine hZ w r s x _ t base _ _ 1 1 q7 eh rfl (by decide) v n (bc d) u g B A m c (bc e) y j (fW _) (by unfold maxLen;omega) qO hbase ?_;intro A' c' w' k l o p C;have G:n=d:=by have:=g.1;rw [bC] at this;omega
 have H:m=e:=by have:=j.len;rw [bC] at this;omega
 have q:n+m=(d++e).length:=by rw [b7];omega
 rw [<-ez,q] at k;rw [q] at o p ⊢;exact z _ A' c' w' rfl k ((bR _ _).grown l hbase (fun D E=>(g.lt D E).1)) l o p C
theorem cY {w:World} {k:Int} {i:Array Oper} {rest:List Oper} {f:Oper} {a:Act} {j:Exit->Act->World->Prop} (m:f.guard=none) (s x:Operand)
  (o:f.op= .call { callee:=.builtin .append,args:=#[s,x],argTypes:=#[36,36] })
  (base:Nat) (v:Value) (n:Nat) (g:LU) (q:a.eval s=v) (r:w.ownsRow base 5 1 v n (bc g))
  (t:a.eval x= .slice (some ⟨w,0,none⟩) 1 1) (u:0<=k) (y:k<256)
  (z:n+1<=kaa) (hbase:base<=w)
  (h: ∀(d:UInt8) (b:LU) (A':OA) (c':Nat) (w':World),Hid ((d.toNat:Int)=k)->Hid (b=g++[d])->w'.ownsRow base 5 1 (.slice A' b.length c') b.length (bc b)->Below base w w'->w.grownBy w' v.ownBlock->
   Hid ((it A' b.length c').ownBlock=v.ownBlock\/(it A' b.length c').ownBlock=some (w.heap.size+1))->
   b.length<=c'->c'<=maxLen->wpList an i j rest (a.put f.dst (.slice A' b.length c')) w'):
  wpList an i j (f::rest) a (w.alloc (.cells #[.int .u8 k] 5)):=by
 have A:=(bR base w).alloc hbase (.cells #[.int .u8 k] 5);refine bQ m s x o base v n g q (r.alloc _) (w+1) _ 1 1 [UInt8.ofNat k.toNat] t (Rd.one w _ k u y) z (by simp;omega) ?_;intro b A' c' w' B C D c h4 E F;refine h (UInt8.ofNat k.toNat) b A' c' w' ?_ B C (A.trans D) ⟨c.os,c.tape,c.output,lT (by simp) c.size,fun l G H=>(c.block l (by simp;omega) H).trans (C7 w _ l G)⟩ ?_ E F
 ·unfold Hid;rw [NG];omega
 exact z195
theorem et {w:World} {h:Array Oper} {rest:List Oper} {e:Oper} {a:Act} {i:Exit->Act->World->Prop} (m:e.guard=none) (s x:Operand)
  (o:e.op= .call { callee:=.builtin .append,args:=#[s,x],argTypes:=#[36,9] })
  (base:Nat) (v:Value) (n:Nat) (c:LU) (p:a.eval s=v) (f:w.ownsRow base 5 1 v n (bc c))
  (b:BA) (q:a.eval x= .string b) (r:n+b.size<=kaa) (hbase:base<=w)
  (t: ∀(d:LU) (A':OA) (c':Nat) (w':World),Hid (d=c++b.data.toList)->w'.ownsRow base 5 1 (.slice A' d.length c') d.length (bc d)->Below base w w'->w.grownBy w' v.ownBlock->
   d.length<=c'->c'<=maxLen->wpList an h i rest (a.put e.dst (.slice A' d.length c')) w'):wpList an h i (e::rest) a w:=by
 obtain ⟨i0,u,y,z,A⟩:=info_parts eh;refine Lib.wpList_append_own_string w m s x _ _ o base _ i0 q7 l9 u y z A v n (bc c) p f b q (by unfold maxLen;omega) r hbase ?_;intro F w' g j _;obtain ⟨A',c',rfl,k,B⟩:=fA g;have G:n=c:=by have:=f.1;rw [bC] at this;omega
 have H:b.size=b.data.toList:=by rw [v7];rfl
 have l:n+b.size=(c++b.data.toList).length:=by rw [b7];omega
 have C:bc c++Lib.strCells b=bc (c++b.data.toList):=by rw [ez];rfl
 rw [C,l] at g;rw [l] at k ⊢;exact t _ A' c' w' rfl g ((bR _ _).grown j hbase (fun D E=>(f.lt D E).1)) j k B
theorem eY (w:World):(w.alloc (.cells #[] 5)).ownsRow w.heap.size 5 1 (.slice (some ⟨w,0,none⟩) 0 0) 0 (bc []):=
 World.ownsRow_made w #[] 0 (lR _) (by unfold maxLen;omega) rfl
theorem pB {P:Program} {w:World} {b:Array Oper} {rest:List Oper} {c:Oper} {a:Act} {d:Exit->Act->World->Prop} (e:up c (yielded b a.tmps)=true)
  (f: ∀K:Act->World->Prop,(∀a w,wpList P b d rest a w->K a w)->c.wp P a w K d):wpList P b d (c::rest) a w:=
 wpList_step fun K g=>by rw [if_pos e];exact f K g
theorem bA {w:World} {B:Nat} {A:OA} {n c:Nat} {l:LU} (a:Rd w B 1 A n (bc l)):(convert 36 9 (.slice A n c)).run an w= .ok (.string ⟨l.toArray⟩) w:=
 mO w _ _ _ q7 z8 l9 B A n c l a
theorem fU {w:World} {d:Array Oper} {rest:List Oper} {b:Oper} {a:Act} {e:Exit->Act->World->Prop} (f:b.guard=none) (x:Operand)
  (g:b.op= .convert 36 9 x) (B:Nat) (A:OA) (n c:Nat) (l:LU) (h:a.eval x= .slice A n c) (i:Rd w B 1 A n (bc l))
  (j:wpList an d e rest (a.put b.dst (.string ⟨l.toArray⟩)) w):wpList an d e (b::rest) a w:=
 Nf f x _ _ _ g q7 z8 l9 B A n c l h i j
theorem eu {d:UInt8} {k:Int} {n:Nat} (a:Hid ((d.toNat:Int)=k)) (b:k=(n:Nat)):d=UInt8.ofNat n:=by
 have c:=a.out;have:d.toNat=n:=qO;rw [<-this];simp
theorem My {w:World} {g:Array Oper} {rest:List Oper} {f:Oper} {a:Act} {j:Exit->Act->World->Prop} (t:up f (yielded g a.tmps)=true) (s h:Operand)
  (u:f.op= .call { callee:=.builtin .append,args:=#[s,h],argTypes:=#[36,36] })
  (base:Nat) (A:OA) (n c:Nat) (b:LU) (v:a.eval s= .slice A n c) (i:Seg w base 5 1 A n c (bc b))
  (B:Nat) (k:OA) (m x:Nat) (d:LU) (y:a.eval h= .slice k m x) (l:Rd w B 1 k m (bc d))
  (G:n+m<=kaa) (hbase:base<=w)
  (z: ∀(e:LU) (A':OA) (c':Nat) (w':World),Hid (e=b++d)->Seg w' base 5 1 A' e.length c' (bc e)->Below base w w'->w.grownBy w' (aT A c)->
   e.length<=c'->c'<=maxLen->wpList an g j rest (a.put f.dst (.slice A' e.length c')) w'):wpList an g j (f::rest) a w:=by
 refine pB t fun H C=> ?_;refine Nh w s h _ _ u base _ _ 1 1 q7 eh rfl A n c (bc b) v i _ m (bc d) y (Src.ofRd q7 l (fW _)) (by unfold maxLen;omega) qO hbase ?_;intro A' c' w' o p _ q D;have I:n=b:=by have:=i.1;rw [bC] at this;omega
 have J:m=d:=by have:=l.len;rw [bC] at this;omega
 have r:n+m=(b++d).length:=by rw [b7];omega
 rw [<-ez,r] at o;rw [r] at q ⊢;exact C _ _ (z _ A' c' w' rfl o ((bR _ _).grown p hbase (fun E F=>(i.row E F).1)) p q D)
end Go.Proofs.YtecpbcmpncgokaaGreat
namespace Go.Dol
def Blk (w:World) (g:Nat) (T:TypeId) (a:List Value):Prop:=w.heap[g]?=some (.cells a.toArray T (0,0))
section
variable {w w':World} {g:Nat} {T:TypeId} {cs:List Value}
theorem Blk.lt (a:Blk w g T cs):g<w:=(j7.1 a).1
theorem Blk.cell (a:Blk w g T cs) (i:Nat):w.cell? ⟨g,i,none⟩=cs[i]?:=by
 have:=cell_of_row w g i cs.toArray T (0,0) a;simpa using this
theorem Blk.c (a:Blk w g T cs) (k:Nat) {v:Value} (b:cs[k]?=some v:=by rfl):w.cell? ⟨g,k,none⟩=some v:=(a.cell k).trans b
theorem Blk.free (a:Blk w g T cs) (i:Nat):w.frozen? ⟨g,i,none⟩=false:=by
 unfold Blk at a;simp [World.frozen?,a]
theorem Blk.new (w:World) (T:TypeId) (cs:List Value):Blk (w.alloc (.cells cs.toArray T)) w T cs:=heap_alloc_new w _
def o9:=@Blk.new
theorem Blk.keepB (a:Blk w g T cs) (b:w'.heap[g]?=w.heap[g]?):Blk w' g T cs:=b.trans a
theorem Blk.drew (a:Blk w g T cs):Blk w.drew g T cs:=a
theorem Blk.drewN (a:Blk w g T cs) (n:Nat):Blk (w.drewN n) g T cs:=a
theorem Blk.alloc (a:Blk w g T cs) (b:Obj):Blk (w.alloc b) g T cs:=a.keepB (C7 w b g a.lt)
theorem Blk.far (a:Blk w g T cs) {p:Addr} (b:g≠p.block) (u:Value):Blk (w.setCell p u) g T cs:=a.keepB (F9 w p u g b)
theorem Blk.below {B:Nat} (a:Blk w g T cs) (b:Below B w w') (c:g<B):Blk w' g T cs:=a.keepB (b.block g c)
theorem Blk.grown {a:Option Nat} (b:Blk w g T cs) (c:w.grownBy w' a) (d:some g≠a):Blk w' g T cs:=b.keepB (c.block g b.lt d)
theorem Blk.set (a:Blk w g T cs) (i:Nat) (u:Value):Blk (w.setCell ⟨g,i,none⟩ u) g T (cs.set i u):=by
 unfold Blk at a ⊢;simp [World.setCell,Array.getElem?_modify,a]
end
theorem Blk.store {P:Program} {w:World} {g:Nat} {T:TypeId} {a:List Value} (d:Blk w g T a) (c:Nat) (b:List Value) (f:c+b<=a) (h: ∀v∈b,v.oneCell'=true):
  ∃w',(storeCells ⟨g,c,none⟩ b).run P w= .ok () w'/\Blk w' g T (a.take c++b++a.drop (c+b))/\w.grownBy w' (some g):=by
 have e:=run_storeCells_at P g c T b 0 a.toArray w d (by simpa using f) h;simp only [Oe] at e;refine ⟨_,e,setRow_heap w g a.toArray _ T _ d,⟨rfl,rfl,rfl,by simp,fun i _ j=>setRow_other w g i _ (fun k=>j (by rw [k]))⟩⟩
theorem ae {w w':World} {g:Nat} (a:w.grownBy w' (some g)) (i:Nat) (u:Value):w.grownBy (w'.setCell ⟨g,i,none⟩ u) (some g):=
 ⟨a.os,a.tape,a.output,by simpa [World.setCell] using a.size,fun b d c=>(F9 w' _ u b (fun e=>c (by rw [e]))).trans (a.block b d c)⟩
theorem vT {w w':World} {b:Option Nat} (a:w.grownBy w' b) {p:Addr} (f:w<=p.block) (u:Value):w.grownBy (w'.setCell p u) b:=
 ⟨a.os,a.tape,a.output,by simpa [World.setCell] using a.size,fun c d e=>(F9 w' _ u c (fun g=>by omega)).trans (a.block c d e)⟩
theorem fa {w w':World} {b:Option Nat} (a:w.grownBy w' b):w.grownBy w'.drew b:=⟨a.os,a.tape,a.output,a.size,a.block⟩
theorem ik {w w':World} {b:Option Nat} (a:w.grownBy w' b) (n:Nat):w.grownBy (w'.drewN n) b:=⟨a.os,a.tape,a.output,a.size,a.block⟩
theorem ou {w c w':World} {d:Option Nat} (a:w.grownBy c d) (b:Below c c w'):w.grownBy w' d:=
 ⟨b.os.trans a.os,b.tape.trans a.tape,b.output.trans a.output,lT a.size b.size,fun e f g=>(b.block e (r9 f a.size)).trans (a.block e f g)⟩
theorem ax {w w':World} (a:Below w w w') (b:Option Nat):w.grownBy w' b:=⟨a.os,a.tape,a.output,a.size,fun c d _=>a.block c d⟩
theorem aq {w b w':World} {g:Nat} (a:w.grownBy b (some g)) (k:b.grownBy w' (some g)):w.grownBy w' (some g):=
 ⟨k.os.trans a.os,k.tape.trans a.tape,k.output.trans a.output,lT a.size k.size,fun c d e=>(k.block c (r9 d a.size) e).trans (a.block c d e)⟩
theorem ak {w w':World} {B g:Nat} (a:w.grownBy w' (some g)) (d:B<=g) (e:B<=w):Below B w w':=
 ⟨a.os,a.tape,a.output,a.size,fun b f=>a.block b qO (fun c=>by injection c;omega)⟩
open Go.RowKit
theorem Seg.keepR {w w':World} {base:Nat} {b:TypeId} {size:Nat} {A:OA} {n c:Nat} {d:List Value} (h:Seg w base b size A n c d) {e:Option Nat} (i:w.grownBy w' e) (j: ∀g,aT A c=some g->some g≠e):Seg w' base b size A n c d:=by
 obtain ⟨k,l,m,a⟩:=h;refine ⟨k,l,m,?_⟩;by_cases o:c=0
 ·exact .inl o
 rcases a with a | ⟨g,p,q,rfl,r,f,s⟩
 ·exact .inl a
 refine .inr ⟨g,p,q,rfl,r,(i.block g (j7.1 f).1 (j g ?_)).trans f,s⟩;unfold aT;rw [if_pos qO];rfl
def PF:=@Seg.keepR
def Apart (A:OA) (c:Nat) (v:Value):Prop:=∀ a,aT A c=some a->some a≠v.ownBlock
theorem Apart.nil (A:OA) (c:Nat):Apart A c (.slice none 0 0):=fun b _ a=>by cases a
theorem Apart.app {w:World} {base:Nat} {b:TypeId} {size:Nat} {A:OA} {n c:Nat} {g:List Value} {v d:Value} (h:Apart A c v) (i:Seg w base b size A n c g) {H:Nat} (j:w<=H) (a:d.ownBlock=v.ownBlock\/d.ownBlock=some H):Apart A c d:=by
 intro e f;rcases a with a | a
 ·rw [a];exact h e f
 rw [a];have:=(i.row e f).2;intro b;injection b;omega
theorem Apart.new {w w':World} {base base':Nat} {a d:TypeId} {size e:Nat} {A:OA} {n c f:Nat} {g h:List Value} {v:Value} (i:w.ownsRow base a size v n g) (j:Seg w' base' d e A f c h) (l:w<=base'):Apart A c v:=by
 intro b k a;have m:=(i.lt b a.symm).2;have o:=(j.row b k).1;omega
def ON:=@Apart.new
theorem Apart.piece {A A':OA} {c c':Nat} {v:Value} (b:Apart A c v) (d:0<c'->0<c) (e:au A'=au A):Apart A' c' v:=by
 intro f a;refine b f ?_;unfold aT at a ⊢;split at a
 ·rw [if_pos (d (by assumption)),<-e];exact a
 cases a
theorem jZ (A:OA) (k:Nat):au (A.map (·.add k))=au A:=by
 cases A with
 | none=>rfl
 | some a=>simp [au,Addr.add];split<;>rfl
theorem Seg.tail8 {w:World} {base:Nat} {a:TypeId} {A:OA} {c k:Nat} {l:LU} (h:Seg w base a 1 A l.length c (bc l)) (b:k<=l):Seg w base a 1 (if c=k then A else A.map (·.add k)) (l-k) (c-k) (bc (l.drop k)):=by
 have:=h.cut (lo:=k) (hi:=l.length) b (lR _);exact z285
theorem bcell {c d:World} (f:Below c c d):(∀b a,b<c.heap.size->d.cell? ⟨b,a,none⟩=c.cell? ⟨b,a,none⟩)/\(∀b a,b<c.heap.size->d.frozen? ⟨b,a,none⟩=c.frozen? ⟨b,a,none⟩):=
 ⟨fun b a e=>f.cell (p:=⟨b,a,none⟩) e,fun b a e=>f.frozen (p:=⟨b,a,none⟩) e⟩
def hH:Value->Nat
 | .slice _ n _=>n
 | _=>0
theorem yc (A:OA) (k:Nat):A.map (·.add (k+1))=A.map (fun x=>{ block:=x.block,off:=x.off+(k+1) }):=by
 cases A with
 | none=>rfl
 | some a=>simp [Addr.add]
theorem az {w w':World} {base:Nat} {a:TypeId} {size:Nat} {v:Value} {n:Nat} {b:List Value} (c:w.ownsRow base a size v n b) (d:Below w w w'):w'.ownsRow base a size v n b:=by
 cases e:v.ownBlock with
 | none=>exact c.kept (ax d none) (.inl e)
 | some f=>exact c.kept (ax d none) (.inr (by rw [e];simp))
theorem fX {w w':World} {base:Nat} {a:TypeId} {size:Nat} {v:Value} {n:Nat} {d:List Value} {g:Nat} (b:w.ownsRow base a size v n d) (e:w.grownBy w' (some g)) (h:g<base):w'.ownsRow base a size v n d:=by
 cases c:v.ownBlock with
 | none=>exact b.kept e (.inl c)
 | some f=>
 have:=(b.lt f c).1;exact b.kept e (.inr (by rw [c];intro a;injection a;omega))
theorem own_ne {w:World} {base:Nat} {a T:TypeId} {size:Nat} {v:Value} {n:Nat} {d e:List Value} {g:Nat} (h:w.ownsRow base a size v n d) (b:Blk w g T e) (hT:T≠a):v.ownBlock≠some g:=by
 intro c;rcases h.2 with ⟨rfl,_⟩ | ⟨f,j,k,rfl,_,hh,_⟩
 ·cases c
 have i:f=g:=by simpa [Value.ownBlock] using c
 unfold Blk at b;rw [i] at hh;rw [b] at hh;exact z163
theorem aE {w w':World} {base:Nat} {a T:TypeId} {size:Nat} {v:Value} {n:Nat} {b d:List Value} {g:Nat} (c:w.ownsRow base a size v n b) (e:Blk w g T d) (f:T≠a) (h:w.grownBy w' (some g)):w'.ownsRow base a size v n b:=
 c.kept h (.inr (own_ne c e f))
theorem fy {w w':World} {base:Nat} {b T:TypeId} {size:Nat} {A:OA} {n c:Nat} {d f:List Value} {g:Nat} (h:Seg w base b size A n c d) (e:Blk w g T f) (hT:T≠b) (i:w.grownBy w' (some g)):Seg w' base b size A n c d:=by
 refine h.keepR i fun j a k=> ?_;have l:j=g:=by simpa using k
 rw [l] at a;unfold aT at a;split at a
 ·rcases h.2.2.2 with q | ⟨m,r,s,rfl,_,hh,_⟩
  ·omega
  unfold Blk at e;have o:m=g:=by simpa [au] using a
  rw [o] at hh;rw [e] at hh;exact z163
 cases a
theorem dz {w:World} {base:Nat} {b:TypeId} {size:Nat} {A:OA} {n c:Nat} {d:List Value} (a:w.ownsRow base b size (.slice A n c) n d):n<=c/\c<=maxLen:=by
 obtain ⟨_,_,a,e,f⟩:=fA a;injection a with _ _ a;omega
theorem _root_.Go.RowKit.Below.next {a b c:World} (d:Below a a b) (e:Below b b c):Below a a c:=d.trans (e.mono d.size)
open Go.RowKit
section
variable {P:Program} {ops:Array Oper} {rest:List Oper} {o:Oper} {a:Act} {w:World} {Q:Exit->Act->World->Prop}
theorem jd (g:o.guard=none) (ty:TypeId) (x:Operand) (i:o.op= .load ty x) (A:OA) (j:a.eval x= .pointer A) (B n:Nat) (b:List Value) (d:TypeDesc) (c:Rd w B 1 A n b) (k:0<n)
  (hu:P.underlying ty=some d) (y:(match d with | .struct _ | .array _ _=>true | _=>false)=true) (hi:(P.info? ty).map (·.size)=some n)
  (h:wpList P ops Q rest (a.put o.dst (.agg b.toArray)) w):wpList P ops Q (o::rest) a w:=by
 refine wpList_plain g fun z l=> ?_;obtain ⟨e,f,rfl,_,m⟩:=c.at_ k;have q:b=n:=by have:=c.len;omega
 have hl:=
  run_loadCells_list (P:=P) w ⟨e,f,none⟩ b (fun r s t=>by
   rw [H8];exact m r s t)
 have u:(loadVar ty ⟨e,f,none⟩).run P w= .ok (.agg b.toArray) w:=by
  cases hq:P.info? ty with
  | none=>simp [hq] at hi
  | some v=>
  have hs:v.size=b:=by rw [q];simpa [hq] using hi
  exact z86
 unfold PV execOp;simp only [i,j,Instr.loadAt,Instr.sureAddr,NI,NU,M7,u];exact l _ _ h
theorem dy (d:o.guard=none) (ty:TypeId) (x y:Operand) (f:o.op= .store ty x y) (g:Nat) (b:List Value) (i:a.eval x= .pointer (some ⟨g,0,none⟩)) (j:a.eval y= .agg b.toArray)
  (T:TypeId) (old:List Value) (c:Blk w g T old) (hi:(P.info? ty).map (·.size)=some b.length) (l:old.length=b) (m: ∀v∈b,v.oneCell'=true)
  (h: ∀w',Blk w' g T b->w.grownBy w' (some g)->wpList P ops Q rest (a.put o.dst undef) w'):wpList P ops Q (o::rest) a w:=by
 refine wpList_plain d fun r n=> ?_;refine wp_store_row ty x y f g b.toArray i j T old.toArray c (by simpa using hi) (by simpa using l) ?_ (n _ _ (h _ ?_ ?_))
 ·rw [N9];intro v q;exact m v (by simpa using q)
 ·exact setRow_heap w g old.toArray _ T _ c
 exact z207
end
open Go.RowKit Go.MapKept
open Go.Maps (Keyed)
open Go.ChangeMaps (setBlock heap_setBlock_same heap_setBlock_other modify_eq_set)
def MapL (P:Program) (k:TypeId) (w:World) (B:Nat) (d:List (Value×Value)):Prop:=
 ∃a c,w.heap[B]?=some (.map a c)/\Stamped a c/\(∀b∈a.toList,∃e,keyOf P k b.key=some e)/\a.toList.map (fun b=>(b.key,b.val))=d
def MPut (b:List (Value×Value)) (a v:Value) (al':List (Value×Value)):Prop:=
 ((∀e∈b,e.1≠a)/\al'=b++[(a,v)])\/ ∃c d f,b=c++(a,f)::d/\al'=c++(a,v)::d
def MapAt (w:World) (B:Nat):Prop:=∃ a b,w.heap[B]?=some (.map a b)
theorem MapAt.own_ne {w:World} {B base:Nat} {a:TypeId} {size:Nat} {v:Value} {n:Nat} {b:List Value} (h:MapAt w B) (ho:w.ownsRow base a size v n b):v.ownBlock≠some B:=by
 obtain ⟨c,d,hb⟩:=h;exact z102
theorem MapAt.kept {w w':World} {B base:Nat} {a:TypeId} {size:Nat} {v:Value} {n:Nat} {b:List Value} (d:MapAt w B) (c:w.ownsRow base a size v n b) (e:w.grownBy w' (some B)):w'.ownsRow base a size v n b:=
 c.kept e (.inr (d.own_ne c))
theorem MapAt.keepB {w w':World} {B:Nat} (a:MapAt w B) (b:w'.heap[B]?=w.heap[B]?):MapAt w' B:=by
 obtain ⟨c,d,e⟩:=a;exact ⟨c,d,b.trans e⟩
theorem MapAt.lt {w:World} {B:Nat} (a:MapAt w B):B<w:=by
 obtain ⟨c,d,b⟩:=a;exact (j7.1 b).1
section
variable {P:Program} {k e t:TypeId} {w w':World} {B:Nat} {al:List (Value×Value)}
theorem MapL.is (a:MapL P k w B al):MapAt w B:=by
 obtain ⟨b,c,d,_⟩:=a;exact ⟨b,c,d⟩
theorem MapL.lt (a:MapL P k w B al):B<w:=by
 obtain ⟨c,d,b,_⟩:=a;exact (j7.1 b).1
theorem MapL.keepB (a:MapL P k w B al) (b:w'.heap[B]?=w.heap[B]?):MapL P k w' B al:=by
 obtain ⟨c,d,f,g⟩:=a;exact ⟨c,d,b.trans f,g⟩
theorem MapL.belowW (a:MapL P k w B al) (b:Below w w w'):MapL P k w' B al:=a.keepB (b.block B a.lt)
theorem MapL.grown {a:Option Nat} (b:MapL P k w B al) (c:w.grownBy w' a) (d:some B≠a):MapL P k w' B al:=b.keepB (c.block B b.lt d)
theorem MapL.drew (a:MapL P k w B al):MapL P k w.drew B al:=a
theorem MapL.drewN (a:MapL P k w B al) (n:Nat):MapL P k (w.drewN n) B al:=a
theorem MapL.alloc (a:MapL P k w B al) (b:Obj):MapL P k (w.alloc b) B al:=a.keepB (C7 w b B a.lt)
theorem MapL.far (a:MapL P k w B al) {p:Addr} (b:B≠p.block) (u:Value):MapL P k (w.setCell p u) B al:=a.keepB (F9 w p u B b)
theorem MapL.new (w:World):MapL P k (w.alloc (.map #[] 0)) w []:=⟨#[],0,heap_alloc_new w _,stamped_empty 0,by simp,rfl⟩
def Pn:=@MapL.new
theorem MapL.nodup (a:MapL P k w B al):(al.map Prod.fst).Nodup:=by
 obtain ⟨c,d,_,⟨_,_,b⟩,_,rfl⟩:=a;rw [w9];exact b
theorem MapL.own_ne {base:Nat} {e:TypeId} {size:Nat} {v:Value} {n:Nat} {a:List Value} (h:MapL P k w B al) (ho:w.ownsRow base e size v n a):v.ownBlock≠some B:=by
 obtain ⟨b,c,hb,_⟩:=h;exact z102
theorem MapL.blk_ne {g:Nat} {T:TypeId} {c:List Value} (d:MapL P k w B al) (a:Blk w g T c):g≠B:=by
 obtain ⟨f,h,b,_⟩:=d;rintro rfl;unfold Blk at a;rw [a] at b;cases b
theorem fY {b:Array MapEntry} {c:Nat} (d:w.heap[B]?=some (.map b c)) (a:Obj):w.grownBy (setBlock w B a) (some B):=
 ⟨rfl,rfl,rfl,by simp [setBlock],fun g _ f=>heap_setBlock_other d a (fun e=>f (by rw [e]))⟩
theorem MapL.look (j:MapL P k w B al) (K:Keyed P k) (g:P.underlying t=some (.map k e)) {b:Value} (l:(zeroValue e).run P w= .ok b w) {a:Value} {m:Lit} (c:keyOf P k a=some m) (ok:Bool):
  ((∀p∈al,p.1≠a)/\(Instr.lookup t (.map (some B)) a ok).run P w= .ok (if ok then .tuple #[b,false] else b) w)\/
  ∃v,(a,v)∈al/\(Instr.lookup t (.map (some B)) a ok).run P w= .ok (if ok then .tuple #[v,true] else v) w:=by
 obtain ⟨n,x,h,y,o,rfl⟩:=j;rcases K.find w c n.toList o with ⟨d,f⟩ | ⟨z,i,d,f,q⟩
 ·refine .inl ⟨fun p r=> ?_,?_⟩
  ·obtain ⟨s,u,rfl⟩:=e9.1 r;exact f s u
  simp [Instr.lookup,run_underlying g,F8 h,K.check w _ c,d,l,PQ]
 refine .inr ⟨i.val,e9.2 ⟨i,g8 f,by rw [q]⟩,?_⟩;simp [Instr.lookup,run_underlying g,F8 h,K.check w _ c,d,PQ]
theorem MapL.update (h:MapL P k w B al) (K:Keyed P k) (m:P.underlying t=some (.map k e)) {c:Value} {kl:Lit} (hkey:keyOf P k c=some kl) (v:Value):
  ∃al' w',(Instr.mapUpdate t (.map (some B)) c v).run P w= .ok () w'/\MapL P k w' B al'/\MPut al c v al'/\w.grownBy w' (some B):=by
 obtain ⟨a,i,d,n,hk,rfl⟩:=h;rcases K.find w hkey a.toList hk with ⟨j,h2⟩ | ⟨f,l,j,h2,h3⟩
 ·refine ⟨_,setBlock w B (.map (a.push ⟨c,v,i⟩) (i+1)),?_,⟨_,_,heap_setBlock_same d _,stamped_push n h2,?_,rfl⟩,.inl ⟨?_,?_⟩,fY d _⟩
  ·simp [Instr.mapUpdate,run_underlying m,F8 d,K.check w false hkey,j,L7 _ d,PQ,setBlock]
  ·exact z114
  ·exact z129
  simp
 have o:a[f]?=some l:=by simpa using h2
 have r: ∀b,a[f]?=some b->({ b with key:=c,val:=v }:MapEntry).key=b.key:=fun b g=>by rw [o] at g;cases g;exact h3.symm
 have q:(a.modify f (fun b=>{ b with key:=c,val:=v })).toList=a.toList.set f { l with key:=c,val:=v }:=by rw [OF,modify_eq_set _ _ _ _ h2]
 refine ⟨_,setBlock w B (.map (a.modify f (fun b=>{ b with key:=c,val:=v })) i),?_,⟨_,_,heap_setBlock_same d _,stamped_modify n _ _ (fun _ _=>rfl) (fun b _ g=>r b g),?_,rfl⟩,.inr ⟨(a.toList.take f).map (fun e=>(e.key,e.val)),(a.toList.drop (f+1)).map (fun e=>(e.key,e.val)),l.val,?_,?_⟩,fY d _⟩
 ·simp [Instr.mapUpdate,run_underlying m,F8 d,K.check w false hkey,j,o,h3,K.stays w hkey,L7 _ d,PQ,setBlock]
 ·intro x hx;rw [q] at hx;rcases OB hx with hx | rfl
  ·exact hk x hx
  exact ⟨kl,hkey⟩
 ·have hjl:=(c9.1 h2).1;have:=r8 f a.toList;exact z61
 have hjl:=(c9.1 h2).1;rw [q,List.set_eq_take_append_cons_drop,if_pos hjl];simp
theorem MapL.entry (h:MapL P k w B al) (K:Keyed P k) (C:P.underlying t=some (.map k e)) {j:Value} (F: ∀u:World,(zeroValue e).run P u= .ok j u) {b:Value} {kl:Lit} (hkey:keyOf P k b=some kl):
  ∃r D n,(Instr.mapEntry t (.map (some B)) b).run P w= .ok (.tuple #[r,goInt (D:Nat)]) n/\w.grownBy n (some B)/\MapAt n B/\(((∀p∈al,p.1≠b)/\r=j)\/(b,r)∈al)/\
   ∀(m:World) (v:Value),m.heap[B]?=n.heap[B]?-> ∃al' s,(Instr.entryStore t (.map (some B)) (goInt D) v).run P m= .ok () s/\MapL P k s B al'/\MPut al b v al'/\m.grownBy s (some B):=by
 obtain ⟨a,c,f,G,hk,rfl⟩:=h;obtain ⟨y,o,_⟩:=G;rcases K.find w hkey a.toList hk with ⟨z,h2⟩ | ⟨i,g,z,h2,h3⟩
 ·refine ⟨j,c,setBlock w B (.map (a.push ⟨b,j,c⟩) (c+1)),?_,fY f _,⟨_,_,heap_setBlock_same f _⟩,.inl ⟨fun p hp=> ?_,rfl⟩,fun m v d=> ?_⟩
  ·simp [Instr.mapEntry,run_underlying C,F8 f,K.check w false hkey,z,F,L7 _ f,PQ,setBlock]
  ·obtain ⟨x,hx,rfl⟩:=e9.1 hp;exact h2 x hx
  rw [heap_setBlock_same f] at d;have A:(a.push ⟨b,j,c⟩).findIdx? (fun e=>((e.born:Nat):Int)==((c:Nat):Int))=some a.size:=by
   rw [WideElems.findIdx_arr];exact WideElems.findIdx_born (l:=(a.push ⟨b,j,c⟩).toList) (j:=a.size) (e0:=⟨b,j,c⟩) (by
    simp only [OV,p8,List.map_cons,List.map_nil];refine E9.2 ⟨o,by simp,fun M ha N H O=> ?_⟩;simp only [i7] at H;obtain ⟨x,hx,rfl⟩:=e9.1 ha;have:=y x hx;omega) (by simp)
  have I:(a.push ⟨b,j,c⟩).modify a.size (fun e=>{ e with val:=v })=a.push ⟨b,v,c⟩:=by
   apply Array.ext';rw [OF,OV,OV,<-v7,WideElems.modify_last]
  refine ⟨_,setBlock m B (.map (a.push ⟨b,v,c⟩) (c+1)),?_,⟨_,_,heap_setBlock_same d _,stamped_push ⟨y,o,by assumption⟩ h2,?_,rfl⟩,.inl ⟨?_,?_⟩,fY d _⟩
  ·simp [Instr.entryStore,F8 d,asInt,asIntOf,goInt,A,I,L7 _ d,PQ,setBlock]
  ·exact z114
  ·exact z129
  simp
 have J:a[i]?=some g:=by simpa using h2
 have L:a.modify i (fun e=>{ e with key:=b })=a:=by
  apply Array.ext';rw [OF,modify_eq_set _ _ _ _ h2];have:({ g with key:=b }:MapEntry)=g:=by rw [<-h3]
  rw [this];exact WideElems.set_self _ _ _ h2
 refine ⟨g.val,g.born,setBlock w B (.map a c),?_,fY f _,⟨_,_,heap_setBlock_same f _⟩,.inr (e9.2 ⟨g,g8 h2,by rw [h3]⟩),fun m v d=> ?_⟩
 ·simp [Instr.mapEntry,run_underlying C,F8 f,K.check w false hkey,z,J,h3,K.stays w hkey,L,L7 _ f,PQ,setBlock]
 rw [heap_setBlock_same f] at d;have A:a.findIdx? (fun e=>((e.born:Nat):Int)==((g.born:Nat):Int))=some i:=by
  rw [WideElems.findIdx_arr];exact WideElems.findIdx_born o h2
 have E:(a.modify i (fun q=>{ q with val:=v })).toList=a.toList.set i { g with val:=v }:=by rw [OF,modify_eq_set _ _ _ _ h2]
 refine ⟨_,setBlock m B (.map (a.modify i (fun q=>{ q with val:=v })) c),?_,⟨_,_,heap_setBlock_same d _,stamped_modify ⟨y,o,by assumption⟩ _ _ (fun _ _=>rfl) (fun q _ _=>rfl),?_,rfl⟩,.inr ⟨(a.toList.take i).map (fun e=>(e.key,e.val)),(a.toList.drop (i+1)).map (fun e=>(e.key,e.val)),g.val,?_,?_⟩,fY d _⟩
 ·simp [Instr.entryStore,F8 d,asInt,asIntOf,goInt,A,L7 _ d,PQ,setBlock]
 ·intro x hx;rw [E] at hx;rcases OB hx with hx | rfl
  ·exact hk x hx
  exact hk g (g8 h2)
 ·have hjl:=(c9.1 h2).1;have:=r8 i a.toList;exact z61
 have hjl:=(c9.1 h2).1;rw [E,List.set_eq_take_append_cons_drop,if_pos hjl,<-h3];simp
end
theorem MPut.mem {b al':List (Value×Value)} {a v:Value} (c:MPut b a v al'):(a,v)∈al':=by
 rcases c with ⟨_,rfl⟩ | ⟨d,e,f,_,rfl⟩<;>simp
theorem sa {P:Program} {k c:TypeId} {n:Nat} (e:P.underlying k=some (.array n c)) (o:P.keyType k=true) (h:P.cellsOf k=n) (p:P.underlying c=some (.int .u8)) (d:P.cellsOf c=1) (q: ∃m,P.types.size=m+1) (l:LU) (f:l=n):
  ∃r,keyOf P k (.agg (bc l).toArray)=some r:=by
 obtain ⟨m,s⟩:=q;have t: ∀(n:Nat) (a:LU),a=n->(PO n).mapM (fun b=>P.keyLits (m+1) c (((bc a).drop (b*1)).take 1))=some (a.map fun u=>[Lit.int .u8 u.toNat]):=by
  intro n a v;subst v;have: ∀b∈PO a.length,P.keyLits (m+1) c (((bc a).drop (b*1)).take 1)=some [Lit.int .u8 ((a.getD b 0).toNat:Int)]:=by
   intro b g;have i:b<a:=by simpa using g
   rw [s9,dW,l8 i,dx,Nz,Nw];have z:=(a[b]).toNat_lt;simp [bc,Program.keyLits,p,Lit.wf,IntKind.min,IntKind.max,IntKind.signed,IntKind.bits,List.getD,gE i];omega
  have w:(PO a).mapM (fun b=>P.keyLits (m+1) c (((bc a).drop (b*1)).take 1))=some ((PO a).map fun b=>[Lit.int .u8 ((a.getD b 0).toNat:Int)]):=by
   generalize PO a.length=j at this;induction j with
   | nil=>rfl
   | cons x j y=>
   rw [List.mapM_cons,this x (by simp),y (fun b g=>this b (by simp [g]))];rfl
  rw [w];congr 1;apply List.ext_getElem
  ·simp
  intro b d A;simp only [g7,List.length_range] at d;simp [List.getD,gE d]
 unfold keyOf;simp only [e];rw [if_pos (by simp [o,Value.formed,e,h,bc,f]),s];unfold Program.keyLits;simp only [e,Value.cells];rw [if_pos (by simp [h,bc,f])];have:=t n l f;simp only [d,s9] at this ⊢;rw [this];exact ⟨_,rfl⟩
end Go.Dol
namespace Go.Proofs.YtecpbcmpncgokaaGreat
theorem nT {w:World} {h:Array Oper} {d:Oper} {a:Act} {K:Act->World->Prop} {q:Exit->Act->World->Prop} {r:Prop} (t:d.guard=none) (s x:Operand)
  (u:d.op= .call { callee:=.builtin .append,args:=#[s,x],argTypes:=#[36,36] })
  (base:Nat) (v:Value) (n:Nat) (e:LU) (y:a.eval s=v) (g:w.ownsRow base 5 1 v n (bc e))
  (B:Nat) (A:OA) (m c:Nat) (f:LU) (z:a.eval x= .slice A m c) (i:Rd w B 1 A m (bc f))
  (H:n+m<=kaa) (hbase:base<=w)
  (C: ∀(b:LU) (A':OA) (c':Nat) (w':World),Hid (b=e++f)->w'.ownsRow base 5 1 (.slice A' b.length c') b.length (bc b)->Below base w w'->w.grownBy w' v.ownBlock->
   Hid ((it A' b.length c').ownBlock=v.ownBlock\/(it A' b.length c').ownBlock=some w.heap.size)->b.length<=c'->c'<=maxLen->K (a.put d.dst (.slice A' b.length c')) w'):if up d (yielded h a.tmps)=true then PV an d a w K q else r:=by
 have D:up d (yielded h a.tmps)=true:=by simp [up,t]
 rw [if_pos D];refine hG w s x _ u base _ _ 1 1 q7 eh rfl (by decide) v n (bc e) y g B A m c (bc f) z i (fW _) (by unfold maxLen;omega) qO hbase ?_;intro A' c' w' j k l o E;have I:n=e:=by have:=g.1;rw [bC] at this;omega
 have J:m=f:=by have:=i.len;rw [bC] at this;omega
 have p:n+m=(e++f).length:=by rw [b7];omega
 rw [<-ez,p] at j;rw [p] at l o ⊢;exact C _ A' c' w' rfl j ((bR _ _).grown k hbase (fun F G=>(g.lt F G).1)) k l o E
def ii (w:World) (B:Nat) (m:LU) (A':OA) (c':Nat):Prop:=Rd w B 1 A' m (bc m)/\m<=c'/\c'<=maxLen
theorem rf (w:World):(sizeOf (an.elem 36)).run an w= .ok 1 w:=qkR
section
variable {w:World} {B:Nat} {A:OA} {l:LU} {c k:Nat}
theorem fx {lo hi:Nat} (d e:Int) (i:d=(lo:Nat)) (j:e=(hi:Nat)) (n:Rd w B 1 A l.length (bc l)) (f:lo<=hi) (g:hi<=l) (o:l<=c) (q:c<=maxLen):
  ∃(m:LU) (A':OA) (c':Nat),Hid (m=(l.drop lo).take (hi-lo))/\m+lo<=hi/\hi<=m+lo/\ii w B m A' c'/\c'+lo=c/\au A'=au A/\Hid (∀a base,Seg a base 5 1 A l c (bc l)->Seg a base 5 1 A' m.length c' (bc m))/\
   ∀w':World,(Instr.sliceAt 36 (.slice A l c) (some (.int .i64 d)) (some (.int .i64 e)) none).run an w'= .ok (.slice A' m.length c') w':=by
 subst i;subst j;have h:=n.cut (lo:=lo) (hi:=hi) (cap:=c) f g o;have b:((l.drop lo).take (hi-lo)).length=hi-lo:=by rw [b9,b8];omega
 rw [s9,s9,dW,dx] at h;refine ⟨(l.drop lo).take (hi-lo),_,c-lo,rfl,qO,qO,⟨by rw [b];exact h,qO,qO⟩,qO,?_,?_,fun w'=> ?_⟩
 ·split
  ·rfl
  exact jZ A lo
 ·intro a base p;have:=p.cut (lo:=lo) (hi:=hi) f g;rw [s9,s9,dW,dx] at this;rw [b];exact this
 rw [run_sliceAt_slice _ _ _ _ _ _ qkR,run_slice_lh _ _ _ _ _ qkR _ _ _ _ qO qO qO,rf,b];simp [sliced,PQ]
theorem cm (d:Int) (h:d=(k:Nat)) (i:Rd w B 1 A l.length (bc l)) (e:k<=l) (j:l<=c) (o:c<=maxLen):
  ∃(m:LU) (A':OA) (c':Nat),Hid (m=l.drop k)/\m+k<=l/\l.length<=m+k/\ii w B m A' c'/\c'+k=c/\au A'=au A/\Hid (∀a base,Seg a base 5 1 A l c (bc l)->Seg a base 5 1 A' m.length c' (bc m))/\
   ∀w':World,(Instr.sliceAt 36 (.slice A l c) (some (.int .i64 d)) none none).run an w'= .ok (.slice A' m.length c') w':=by
 subst h;have f:=i.cut (lo:=k) (hi:=l.length) (cap:=c) e (lR _) j;have g:(l.drop k).take (l-k)=l.drop k:=i9 (by rw [b8];exact lR _);rw [s9,s9,dW,dx,g] at f;have b:(l.drop k).length=l-k:=b8;refine ⟨l.drop k,_,c-k,rfl,qO,qO,⟨by rw [b];exact f,qO,qO⟩,qO,?_,?_,fun w'=> ?_⟩
 ·split
  ·rfl
  exact jZ A k
 ·intro a base n;have:=n.cut (lo:=k) (hi:=l.length) e (lR _);rw [s9,s9,dW,dx,g] at this;rw [b];exact this
 rw [run_sliceAt_slice _ _ _ _ _ _ qkR,run_slice_l _ _ _ _ _ qkR _ _ qO qO,rf,b];simp [sliced,PQ]
theorem fV (d:Int) (f:d=(k:Nat)) (g:Rd w B 1 A l.length (bc l)) (e:k<=l) (o:l<=c) (i:c<=maxLen):
  ∃m:LU,Hid (m=l.take k)/\m.length<=k/\k<=m.length/\ii w B m A c/\Hid (∀a base,Seg a base 5 1 A l c (bc l)->Seg a base 5 1 A m.length c (bc m))/\
   ∀w':World,(Instr.sliceAt 36 (.slice A l c) none (some (.int .i64 d)) none).run an w'= .ok (.slice A m.length c) w':=by
 subst f;have b:(l.take k).length=k:=by rw [b9];omega
 refine ⟨l.take k,rfl,qO,qO,⟨by rw [b];exact g.head e,qO,i⟩,?_,fun w'=> ?_⟩
 ·intro a base j;have:=j.cut (lo:=0) (hi:=k) (zL) e;simp only [s9,dx,y8,Nat.sub_zero] at this;rw [b];split at this
  ·exact this
  have n:A.map (·.add 0)=A:=by cases A with | none=>rfl | some q=>simp [Addr.add]
  rw [n] at this;exact this
 rw [run_sliceAt_slice _ _ _ _ _ _ qkR,run_slice_h _ _ _ _ _ qkR _ _ qO qO,rf,b];exact z194
end
def Far (w:World) (B:Nat) (A:OA) (l:LU):Prop:=Rd w w 1 A l (bc l)/\(0<l.length-> ∀a,au A=some a->a<B\/ ∃b c,w.heap[a]?=some (.cells b 5 c))
def Other (w:World) (B:Nat) (b:Option Nat):Prop:=∀ a,b=some a->B<=a/\ ∀c d,w.heap[a]?≠some (.cells c 5 d)
theorem Other.blk {w:World} {B g:Nat} {T:TypeId} {d:List Value} (c:Blk w g T d) (e:T≠5) (f:B<=g):Other w B (some g):=by
 intro h b;injection b with b;subst b;refine ⟨f,fun i j a=> ?_⟩;unfold Blk at c;rw [c] at a;injection a with a;injection a with _ a;exact e a
def v8:=@Other.blk
theorem Other.own {w:World} {B base:Nat} {b:TypeId} {size:Nat} {v:Value} {n:Nat} {f:List Value} (g:w.ownsRow base b size v n f) (h:b≠5) (l:B<=base):Other w B v.ownBlock:=by
 intro c d;rcases g.2 with ⟨rfl,_⟩ | ⟨e,m,o,rfl,p,i,_⟩
 ·cases d
 have j:e=c:=by
  have k:(some e:Option Nat)=some c:=d;injection k
 subst j;refine ⟨qO,fun q r a=> ?_⟩;rw [i] at a;injection a with a;injection a with _ a;exact h a
def K9:=@Other.own
theorem Far.nil {w:World} {B:Nat} {A:OA}:Far w B A []:=⟨L8,fun a=>absurd a (by decide)⟩
theorem Far.keep {w w':World} {B:Nat} {A:OA} {l:LU} (c:Far w B A l) {e:Option Nat} (f:w.grownBy w' e) (n:Other w B e):Far w' B A l:=by
 rcases p7 l.length with b | b
 ·obtain rfl:l=[]:=nZ b;exact Far.nil
 obtain ⟨a,o,i,g,p⟩:=c.1.at_ b;have h:au A=some a:=by rw [i];rfl
 have k:some a≠e:=fun q=>by
  obtain ⟨x,r⟩:=n a q.symm;rcases c.2 b a h with m | ⟨s,t,m⟩
  ·omega
  exact r s t m
 refine ⟨⟨c.1.len,fun _=>⟨a,o,i,r9 g f.size,fun j u v=>(k7 (f.block a g k)).trans (p j u v)⟩⟩,fun _ y d=> ?_⟩;rw [h] at d;injection d with d;subst d;rw [f.block a g k];exact c.2 b a h
theorem Far.below {w w':World} {B:Nat} {A:OA} {l:LU} (a:Far w B A l) (b:Below w w w'):Far w' B A l:=a.keep (ax b none) fun _ c=>by cases c
theorem Far.drew {w:World} {B:Nat} {A:OA} {l:LU} (a:Far w B A l):Far w.drew B A l:=⟨a.1.drew,a.2⟩
theorem Far.of_rd {w:World} {B:Nat} {A:OA} {l:LU} (b:Rd w B 1 A l.length (bc l)) (c:B<=w):Far w B A l:=by
 refine ⟨b.more c,fun d e a=> .inl ?_⟩;obtain ⟨f,h,g,i,j⟩:=b.at_ d;rw [g] at a;injection a with a;have k:f=e:=a;omega
theorem Far.of_seg {w:World} {base B:Nat} {A:OA} {l:LU} {c:Nat} (a:Seg w base 5 1 A l.length c (bc l)):Far w B A l:=by
 refine ⟨a.rd,fun i d b=> .inr ?_⟩;have j:=a.2.1;rcases a.2.2.2 with k | ⟨e,m,f,rfl,n,g,_⟩
 ·omega
 injection b with b;have h:e=d:=b;subst h;exact ⟨f,(0,0),g⟩
def J7:=@Far.of_seg
theorem Far.piece {w:World} {a B k:Nat} {A A':OA} {l m:LU} {c':Nat} (b:Far w B A l) (c:ii w a m A' c') (d:a<=w) (f:m+k<=l) (e:au A'=au A):Far w B A' m:=
 ⟨c.1.more d,fun g=>by rw [e];exact b.2 qO⟩
end Go.Proofs.YtecpbcmpncgokaaGreat
namespace Go.Dol
open Go
def bU (a:Oper):Oper:={ a with op:=.move (.const undef) }
def dt (P:Program) (c:Oper) (b:Exit->Act->World->Prop):Exit->Act->World->Prop
 | .normal,a,w=>c.wp P a w (fun d w'=>b .normal d w') b
 | e,a,w=>b e a w
def kA (f:P6) (a:Array Oper) (d:Nat):Bool:=
 decide (d<a.size)&&(PO a.size).all (fun b=>(match a[b]? with | none=>true | some e=>e.after.all fun c=>decide (c.on<b))&&
  (b==d||(match a[d]? with | none=>false | some e=>e.after.any fun c=>P7 f c&&c.on==b)))
section
variable {P:Program} {ops:Array Oper} {Q:Exit->Act->World->Prop} {md:P6} {L:Nat} {last:Oper}
theorem Kv {e:Oper} {a:Act} {w:World} {K f:Act->World->Prop} (c: ∀a w,f a w->K a w) (b:e.wp P a w f (dt P last Q)):e.wp P a w K Q:=by
 unfold PV at*;generalize (execOp a.eval e).run P w=r at*;cases r with
 | ok g h=>
  cases g<;>simp only [Oper.upon] at b ⊢
  case value i=>exact c _ _ b
  case skip=>exact c _ _ b
  case defer n=>exact c _ _ b
  case enter o j=>exact Calls.mono b fun k l d=>by cases k<;>first | exact c _ _ d | exact d
  case row p j=>exact Rows.mono b fun i l d=>c _ _ d
 | halt m h=>cases m<;>simp only [Oper.upon] at b ⊢ <;>exact b
theorem mM {i:Nat} (a:i≠L):(ops.setIfInBounds L (bU last))[i]?=ops[i]?:=Array.getElem?_setIfInBounds_ne (Ne.symm a)
theorem qD (a:ops[L]?=some last):(ops.setIfInBounds L (bU last))[L]?=some (bU last):=by
 have b:=(j7.1 a).1;rw [NS,if_pos rfl,if_pos b]
theorem ko (a:ops[L]?=some last) (b:Array Bool):PL md (ops.setIfInBounds L (bU last)) b=PL md ops b:=by
 unfold PL;rw [Array.size_setIfInBounds];refine List.filter_congr fun d _=> ?_;by_cases c:d=L
 ·subst c;rw [qD a,a];rfl
 rw [mM c]
theorem xO (a:ops[L]?=some last) (b:Array Value):yielded (ops.setIfInBounds L (bU last)) b=yielded ops b:=by
 funext i;unfold yielded;by_cases c:i=L
 ·subst c;rw [qD a,a];rfl
 rw [mM c]
theorem zI (h:kA md ops L=true):L<ops.size/\(∀(i:Nat) (a:Oper),ops[i]?=some a-> ∀e∈a.after,e.on<i)/\ ∀(i:Nat),i<ops.size->i≠L-> ∀a,ops[L]?=some a-> ∃e∈a.after,P7 md e=true/\e.on=i:=by
 unfold kA at h;rw [m8,decide_eq_true_eq,Nu] at h;refine ⟨h.1,fun i a ho e he=> ?_,fun i c d a ho=> ?_⟩
 ·exact z83
 have h1:=h.2 i (Nq.2 c);rw [m8,Pl,ho] at h1;rcases h1.2 with h2 | h2
 ·exact absurd (by simpa using h2) d
 obtain ⟨e,he,b⟩:=OM.1 h2;rw [m8] at b;exact ⟨e,he,b.1,by simpa using b.2⟩
theorem zJ (h:kA md ops L=true) (listed:Array Bool) (a:listed.size=ops.size): ∀n,n<=L->listed.getD n true=false->PL md ops listed≠[]:=by
 obtain ⟨b,hb,_⟩:=zI h;exact z24
theorem Ni (g:kA md ops L=true) (hL:ops[L]?=some last) (hd:last.dst=none) (hg:last.guard=none):
  ∀(fuel:Nat) (listed:Array Bool) (a:Act) (w:World),listed.size=ops.size->listed.getD L true=false->
   wpAny P md (ops.setIfInBounds L (bU last)) (dt P last Q) fuel listed a w->wpAny P md ops Q fuel listed a w:=by
 intro fuel;induction fuel with
 | zero=>
  intro listed a w b c h;rw [wpAny,ko hL] at h;exact absurd h.1 (zJ g listed b L (lR _) c)
 | succ fuel k=>
 intro listed a w b c h;rw [wpAny,ko hL] at h;refine ⟨fun n=>absurd n (zJ g listed b L (lR _) c),fun i l=> ?_⟩;have h1:=h.2 i l;by_cases d:i=L
 ·subst d;have hall: ∀j,j<ops.size->(listed.setIfInBounds i true).getD j true=true:=by
   intro j hj;by_cases hji:j=i
   ·exact z182
   obtain ⟨_,m,e,ha⟩:=mem_ready.1 l;obtain ⟨o,q,r,s⟩:=(zI g).2.2 j hj hji m e;have h2:=ha o q r;rw [s] at h2;exact z140
  exact z222
 unfold wpOp at h1 ⊢;rw [mM d,xO hL] at h1;cases e:ops[i]? with
 | none=>
  rw [e] at h1;simp only at h1 ⊢;exact k _ _ _ (by simpa using b) (by rw [getD_set_ne true d];exact c) h1
 | some m=>
 rw [e] at h1;simp only at h1 ⊢;have hK: ∀a' w',wpAny P md (ops.setIfInBounds L (bU last)) (dt P last Q) fuel (listed.setIfInBounds i true) a' w'->wpAny P md ops Q fuel (listed.setIfInBounds i true) a' w':=
  fun a' w' h3=>k _ _ _ (by simpa using b) (by rw [getD_set_ne true d];exact c) h3
 exact z252
theorem lP {id:Nat} {a:Act} {w:World} {S:World->Prop} (L:Nat) (last:Oper) (c:P.follows .mixedOrders=true) (b:ops[L]?=some last) (d:kA .any ops L=true) (e:last.dst=none) (f:last.guard=none)
  (g:S w.drew) (h:S w.drew->wpAnyH P .any (ops.setIfInBounds L (bU last)) (dt P last Q) S ops.size (Array.replicate ops.size false) a w.drew):(Code.region id ops true).wp P Q a w:=by
 refine wp_region_any c (Ni d b e f _ _ _ _ (by simp) ?_ (wpAny_of_held _ _ _ _ (h g)));have:=(j7.1 b).1;simp [this]
end
open Go.RowKit
theorem gB {P:Program} {w:World} {k:Array Oper} {b:Oper} {a:Act} {K:Act->World->Prop} {q:Exit->Act->World->Prop} {r:Prop} (t:b.guard=none) (s x:Operand) (f d:TypeId) (l:Value) (g:Nat)
  (y:b.op= .call { callee:=.builtin .append,args:=#[s,x],argTypes:=#[f,f] })
  (z:P.underlying f=some (.slice d)) (hi:(P.info? d).map (fun i=>(i.zero,i.size,i.bytes))=some (some l,1,g)) (C:l.cells.size=1)
  (base:Nat) (v:Value) (n:Nat) (h:List Value) (D:a.eval s=v) (o:w.ownsRow base d 1 v n h)
  (B:Nat) (A:OA) (m c:Nat) (e:List Value) (E:a.eval x= .slice A m c) (F:Rd w B 1 A m e) (j: ∀u∈e,u.oneCell'=true)
  (G:n+m<=maxLen) (H:(n+m)*g<=kaa) (hbase:base<=w)
  (I: ∀(A':OA) (c':Nat) (w':World),w'.ownsRow base d 1 (.slice A' (n+m) c') (n+m) (h++e)->Below base w w'->w.grownBy w' v.ownBlock->
   n+m<=c'->c'<=maxLen->K (a.put b.dst (.slice A' (n+m) c')) w'):if up b (yielded k a.tmps)=true then PV P b a w K q else r:=by
 have J:up b (yielded k a.tmps)=true:=by simp [up,t]
 rw [if_pos J];refine hG w s x _ y base _ _ 1 g z hi C (by decide) v n h D o B A m c e E F j G H hbase ?_;intro A' c' w' j p Q L M;exact I _ c' w' j ((bR _ _).grown p hbase (fun N O=>(o.lt N O).1)) p L M
theorem eF {P:Program} {w:World} {k:Array Oper} {rest:List Oper} {b:Oper} {a:Act} {l:Exit->Act->World->Prop} (r:b.guard=none) (s x:Operand) (f d:TypeId) (o:Value) (g:Nat)
  (t:b.op= .call { callee:=.builtin .append,args:=#[s,x],argTypes:=#[f,f] })
  (y:P.underlying f=some (.slice d)) (hi:(P.info? d).map (fun i=>(i.zero,i.size,i.bytes))=some (some o,1,g)) (z:o.cells.size=1)
  (base:Nat) (v:Value) (n:Nat) (h:List Value) (C:a.eval s=v) (p:w.ownsRow base d 1 v n h)
  (B:Nat) (A:OA) (m c:Nat) (e:List Value) (D:a.eval x= .slice A m c) (E:Rd w B 1 A m e) (j: ∀u∈e,u.oneCell'=true)
  (F:n+m<=maxLen) (G:(n+m)*g<=kaa) (hbase:base<=w)
  (H: ∀(A':OA) (c':Nat) (w':World),w'.ownsRow base d 1 (.slice A' (n+m) c') (n+m) (h++e)->Below base w w'->w.grownBy w' v.ownBlock->
   n+m<=c'->c'<=maxLen->wpList P k l rest (a.put b.dst (.slice A' (n+m) c')) w'):wpList P k l (b::rest) a w:=by
 refine hZ w r s x _ t base _ _ 1 g y hi z (by decide) v n h C p B A m c e D E j F G hbase ?_;intro A' c' w' j q M I J;exact H _ c' w' j ((bR _ _).grown q hbase (fun K L=>(p.lt K L).1)) q I J
theorem Rd.new1 (w:World) (T:TypeId) (u:Value):Rd (w.alloc (.cells #[u] T)) (w+1) 1 (some ⟨w,0,none⟩) 1 [u]:=by
 refine ⟨by simp,fun _=>⟨w,0,rfl,qO,fun a c b=> ?_⟩⟩;have d:a<1:=by have:=(c9.1 b).1;simpa using this
 obtain rfl:a=0:=qO;have:c=u:=by simpa using b.symm
 subst this;simp
def NX:=@Rd.new1
theorem zD {w:World} {base:Nat} {b:TypeId} {A:OA} {c n:Nat} {d:List Value} (e:w.ownsRow base b 1 (.slice A n c) n d) (m:0<n):
  ∃g f,A=some ⟨g,0,none⟩/\base<=g/\Blk w g b (d++f):=by
 rcases e.2 with ⟨a,_⟩ | ⟨g,o,h,a,i,j,p,q,r,k⟩
 ·injection a with _ a;omega
 injection a with l _ s;refine ⟨g,h.toList.drop (n*1),l,i,?_⟩;unfold Blk;rw [j,<-k,r8]
open Go.RowKit
theorem sL (w:World) (b:TypeId) (base n:Nat) (a:List Value) (c:a=n) (d:base<=w) (e:n<=maxLen):(w.alloc (.cells a.toArray b)).ownsRow base b 1 (.slice (some ⟨w,0,none⟩) n n) n a:=
 ⟨qO,.inr ⟨w,n,a.toArray,rfl,d,heap_alloc_new w _,lR _,e,by simp [c],by simp [<-c]⟩⟩
open Go.RowKit
theorem ft {P:Program} {w:World} {r:Array Oper} {b:Oper} {a:Act} {K:Act->World->Prop} {H:Exit->Act->World->Prop} {I:Prop} (J:b.guard=none) (s x:Operand) (e d:TypeId) (j:Value) (size k:Nat)
  (t:b.op= .call { callee:=.builtin .append,args:=#[s,x],argTypes:=#[e,e] })
  (y:P.underlying e=some (.slice d)) (hi:(P.info? d).map (fun i=>(i.zero,i.size,i.bytes))=some (some j,size,k)) (L:j.cells.size=size) (M:0<size)
  (base:Nat) (v:Value) (n:Nat) (g:List Value) (z:a.eval s=v) (f:w.ownsRow base d size v n g)
  (B:Nat) (A:OA) (m c:Nat) (h:List Value) (C:a.eval x= .slice A m c) (l:Rd w B size A m h) (N: ∀u∈h,u.oneCell'=true)
  (O:n+m<=maxLen) (Q:((n+m)+(n+m)/4+192)*k<=281474976710656) (hbase:base<=w)
  (D: ∀(A':OA) (c':Nat) (w':World),w'.ownsRow base d size (.slice A' (n+m) c') (n+m) (g++h)->Below base w w'->w.grownBy w' v.ownBlock->
   n+m<=c'->c'<=maxLen->K (a.put b.dst (.slice A' (n+m) c')) w'):if up b (yielded r a.tmps)=true then PV P b a w K H else I:=by
 have R:up b (yielded r a.tmps)=true:=by simp [up,J]
 rw [if_pos R];obtain ⟨i,E,S,T,U⟩:=info_parts hi;rcases p7 m with o | o
 ·subst o;obtain rfl:=l.xs_nil;obtain ⟨A',c',rfl,p,q⟩:=fA f;have V:=zH (P:=P) w base e b.type d i size y E _ n g f A c;unfold PV execOp;simp only [t,resolve,invoke,builtin,NI,NU,M7,Oy,List.map_cons,List.map_nil,z,C,V];exact D A' c' w (by simpa using f) (bR _ _) (gR w _) p q
 obtain ⟨W,X,rfl,_,Y⟩:=l.at_ o;refine wp_append_own_wide w s x e t base d i j size k y E S T U L M v n g z f ⟨W,X,none⟩ m c h C l.len (fun Z u a0=>by rw [H8];exact Y Z u a0) N O Q hbase ?_;intro d0 w' F G _;obtain ⟨A',c',rfl,p,q⟩:=fA F;exact D _ c' w' F ((bR _ _).grown G hbase (fun b0 c0=>(f.lt b0 c0).1)) G p q
theorem FH {P:Program} {w:World} {k:Array Oper} {rest:List Oper} {d:Oper} {a:Act} {l:Exit->Act->World->Prop} (o:d.guard=none) (s x:Operand) (e b:TypeId) (g:Value) (size h:Nat)
  (p:d.op= .call { callee:=.builtin .append,args:=#[s,x],argTypes:=#[e,e] })
  (q:P.underlying e=some (.slice b)) (hi:(P.info? b).map (fun i=>(i.zero,i.size,i.bytes))=some (some g,size,h)) (r:g.cells.size=size) (t:0<size)
  (base:Nat) (v:Value) (n:Nat) (j:List Value) (y:a.eval s=v) (z:w.ownsRow base b size v n j)
  (B:Nat) (A:OA) (m c:Nat) (f:List Value) (C:a.eval x= .slice A m c) (D:Rd w B size A m f) (E: ∀u∈f,u.oneCell'=true)
  (F:n+m<=maxLen) (G:((n+m)+(n+m)/4+192)*h<=281474976710656) (hbase:base<=w)
  (H: ∀(A':OA) (c':Nat) (w':World),w'.ownsRow base b size (.slice A' (n+m) c') (n+m) (j++f)->Below base w w'->w.grownBy w' v.ownBlock->
   n+m<=c'->c'<=maxLen->wpList P k l rest (a.put d.dst (.slice A' (n+m) c')) w'):wpList P k l (d::rest) a w:=
 wpList_step fun _ I=>ft o s x e b g size h p q hi r t base v n j y z B A m c f C D E F G hbase fun A' c' w' J K L M N=>I _ _ (H A' c' w' J K L M N)
open Go.RowKit
theorem tl {P:Program} {b:Array Oper} {e:Exit->Act->World->Prop} {f:P6} {S:World->Prop} (i:Nat) (v:Value) {oi:Oper} {j:Nat} {g:Array Bool} {a k:Act} {w:World}
  (h:wpAnyH P f b e S j (g.setIfInBounds i true) k w)
  (hi:b[i]?=some oi:=by rfl) (l:a.put oi.dst v=k:=by (try simp only [Act.put,sA,sB,sC,sD,sE,sF]);rfl) (d:S w:=by assumption)
  (m: ∀c a w,e (.panic c) (a.put oi.dst v) w->e (.panic c) a w:=by exact fun _ _ _ h=>h)
  (n:YieldsIf P b S oi v a:=by first | (refine Pg ⟨by rfl,fun w' d=> ?_⟩;(try dsimp only at d);(repeat (have:=d.1;replace d:=d.2));go_simp;done) | exact Or.inr ⟨by rfl,by rfl⟩)
  (o:Region.noSelect b=true:=by kernel_rfl) (p:Region.free f b g i=true:=by kernel_rfl) (q:(PL f b g).contains i=true:=by kernel_rfl):wpAnyH P f b e S (j+1) g a w:=
 wpAnyH_take (i:=i) (oi:=oi) (v:=v) hi o p q m n d (l▸h)
theorem rh {P:Program} {b:Array Oper} {d:Exit->Act->World->Prop} {e:P6} {S:World->Prop} (i:Nat) {c:Oper} {h:Nat} {f:Array Bool} {a:Act} {w:World}
  (j: ∀g:Act->World->Prop,Shut (∀a w,S w->(S w->wpAnyH P e b d S h (f.setIfInBounds i true) a w)->g a w)->if up c (yielded b a.tmps)=true then PV P c a w g d else g (a.put c.dst undef) w)
  (k:PL e b f=[i]:=by kernel_rfl) (l:b[i]?=some c:=by rfl):wpAnyH P e b d S (h+1) f a w:=
 wpAnyH_ready k (by simp) (AllReadyH.cons l j AllReadyH.nil)
theorem rh2 {P:Program} {b:Array Oper} {d:Exit->Act->World->Prop} {e:P6} {S:World->Prop} (i j:Nat) {f g:Oper} {k:Nat} {h:Array Bool} {a:Act} {w:World}
  (l: ∀c:Act->World->Prop,Shut (∀a w,S w->(S w->wpAnyH P e b d S k (h.setIfInBounds i true) a w)->c a w)->if up f (yielded b a.tmps)=true then PV P f a w c d else c (a.put f.dst undef) w)
  (m: ∀c:Act->World->Prop,Shut (∀a w,S w->(S w->wpAnyH P e b d S k (h.setIfInBounds j true) a w)->c a w)->if up g (yielded b a.tmps)=true then PV P g a w c d else c (a.put g.dst undef) w)
  (n:PL e b h=[i,j]:=by kernel_rfl) (o:b[i]?=some f:=by rfl) (p:b[j]?=some g:=by rfl):wpAnyH P e b d S (k+1) h a w:=
 wpAnyH_ready n (by simp) (AllReadyH.cons o l (AllReadyH.cons p m AllReadyH.nil))
theorem dn {P:Program} {b:Array Oper} {c:Exit->Act->World->Prop} {d:P6} {S:World->Prop} {f:Nat} {e:Array Bool} {a:Act} {w:World} (g:c .normal a w) (h:PL d b e=[]:=by kernel_rfl):wpAnyH P d b c S f e a w:=wpAnyH_done h g _
theorem hO {b K:Act->World->Prop} {S:World->Prop} {a c:Act} {w:World} (d:Shut (∀a w,S w->(S w->b a w)->K a w)) (e:S w) (f:S w->b c w)
  (g:a=c:=by (try simp only [Act.put,sA,sB,sC,sD,sE,sF]);rfl):K a w:=d.out a w e (fun h=>g▸f h)
