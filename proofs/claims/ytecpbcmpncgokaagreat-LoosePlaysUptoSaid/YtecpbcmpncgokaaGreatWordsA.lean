/- The words in which the contracts of this seat are stated: a slice of bytes that is read, a slice of bytes that a call owns, and the laws of the operations on them. Conditions: as each law names. -/
import Derived.WalkKit
import Derived.WalkSpells
import Derived.WalkLawsBesides
import Derived.Maps.AppendAt
import Derived.Deep.AppendLies
import Derived.Lib.AppendStr
import Derived.Lib.Hide
import Derived.Laws.BytesArg
import Derived.Laws.IdiomStrings
import Derived.Deep.AppendSrc
import Derived.Test.YtecpbcmpncgokaaGreatRows
import Derived.Laws.Cover3
import Derived.Maps.OwnOps
import Derived.DeepKeys4
import Derived.WideKeyEntry
import Derived.StillTailTactics
import Derived.Deep.RegionLaw
import Derived.Deep.DrawnRows
import Derived.Deep.RegionHeld3
import Derived.BigQuiet
import Derived.Deep.DeepAppendWide
import Derived.Test.YtecpbcmpncgokaaGreatShort
set_option linter.unusedVariables false
namespace Go.Dol
open Go.RowKit
def bc (l:LU):List Value:=l.map fun c=>Value.int .u8 c.toNat
theorem Zv (l:LU):(bc l).length=l.length:=by simp [bc]
theorem Z1m (a b:LU):bc (a++b)=bc a++bc b:=by simp [bc]
theorem Z7S (l:LU): ∀u∈bc l,u.oneCell'=true:=by
 intro u hu;obtain ⟨_,_,rfl⟩:=List.mem_map.1 hu
 rfl
theorem Z09 (l:LU) (j:Nat) (h:j<l.length):(bc l)[j]?=some (.int .u8 (l[j]).toNat):=by
 simp [bc,gE h]
theorem Z18 (l:LU) (k:Nat):(bc l).drop k=bc (l.drop k):=by simp [bc,List.map_drop]
theorem Z0E (l:LU) (k:Nat):(bc l).take k=bc (l.take k):=by simp [bc,List.map_take]
structure Rd (w:World) (B size:Nat) (A:OA) (n:Nat) (xs:List Value):Prop where
 len:xs.length=n*size
 at_:0<n→ ∃b off,A=some ⟨b,off,none⟩∧b<B∧ ∀j u,xs[j]?=some u→w.cell? ⟨b,off+j,none⟩=some u
section
variable {w w':World} {B B' size n:Nat} {A:OA} {xs:List Value}
theorem Rd.nil:Rd w B size A 0 []:=⟨by simp,fun h=>absurd h (Nat.lt_irrefl 0)⟩
theorem Rd.keep (h:Rd w B size A n xs) (hk: ∀b o,b<B→w'.cell? ⟨b,o,none⟩=w.cell? ⟨b,o,none⟩):Rd w' B size A n xs:=
 ⟨h.len,fun hn=>by
  obtain ⟨b,off,e,hb,hc⟩:=h.at_ hn
  exact ⟨b,off,e,hb,fun j u hu=>(hk _ _ hb).trans (hc j u hu)⟩⟩
theorem Rd.more (h:Rd w B size A n xs) (hB:B≤B'):Rd w B' size A n xs:=
 ⟨h.len,fun hn=>by
  obtain ⟨b,off,e,hb,hc⟩:=h.at_ hn
  exact ⟨b,off,e,by omega,hc⟩⟩
theorem Rd.below (h:Rd w B size A n xs) (hb:Below B w w'):Rd w' B size A n xs:=h.keep fun b o hp=>hb.cell (p:=⟨b,o,none⟩) hp
theorem Rd.belowW (h:Rd w B size A n xs) (hb:Below w.heap.size w w') (hB:B≤w.heap.size):Rd w' B size A n xs:=h.keep fun b o hp=>hb.cell (p:=⟨b,o,none⟩) (by show b<_;omega)
theorem Rd.drew (h:Rd w B size A n xs):Rd w.drew B size A n xs:=⟨h.len,h.at_⟩
theorem Rd.drewN (h:Rd w B size A n xs) (k:Nat):Rd (w.drewN k) B size A n xs:=⟨h.len,h.at_⟩
theorem Rd.alloc (h:Rd w B size A n xs) (hB:B≤w.heap.size) (o:Obj):Rd (w.alloc o) B size A n xs:=h.keep fun b _ hp=>World.cell?_alloc_lt w o _ (by show b<_;omega)
theorem Rd.setCell (h:Rd w B size A n xs) {p:Addr} (hB:B≤p.block) (u:Value):Rd (w.setCell p u) B size A n xs:=
 h.keep fun b _ hq=>World.cell?_setCell_other w p _ u (fun e=>by subst e;exact absurd hB (by simp;omega))
theorem Rd.none_zero (h:Rd w B size none n xs):n=0:=by
 rcases Nat.eq_zero_or_pos n with h0 | h0
 ·exact h0
 ·obtain ⟨b,off,e,_⟩:=h.at_ h0
  cases e
theorem Rd.xs_nil (h:Rd w B size A 0 xs):xs=[]:=nZ (by simpa using h.len)
theorem Rd.cut (h:Rd w B size A n xs) {lo hi cap:Nat} (h1:lo≤hi) (h2:hi≤n) (hc:n≤cap):
  Rd w B size (if cap=lo then A else A.map (·.add (lo*size))) (hi-lo) ((xs.drop (lo*size)).take ((hi-lo)*size)):=by
 refine ⟨?_,fun hn=> ?_⟩
 ·have hle:(hi-lo)*size≤xs.length-lo*size:=by
   rw [h.len,←Nat.sub_mul];exact Nat.mul_le_mul_right _ (by omega)
  simp only [List.length_take,List.length_drop];omega
 ·obtain ⟨b,off,rfl,hb,hcell⟩:=h.at_ (by omega)
  rw [if_neg (by omega)];refine ⟨b,off+lo*size,by simp [Addr.add_lit],hb,fun j u hu=> ?_⟩;have hj:j<(hi-lo)*size:=by
   have:=(List.getElem?_eq_some_iff.1 hu).1;simp only [List.length_take,List.length_drop] at this;omega
  rw [List.getElem?_take,if_pos hj,List.getElem?_drop] at hu;rw [Nat.add_assoc];exact hcell _ u hu
theorem Rd.tail {l:LU} {k cap:Nat} (h:Rd w B 1 A l.length (bc l)) (hk:k≤l.length) (hc:l.length≤cap):Rd w B 1 (if cap=k then A else A.map (·.add k)) (l.length-k) (bc (l.drop k)):=by
 have:=h.cut (lo:=k) (hi:=l.length) hk (lR _) hc;rw [Nat.mul_one,Nat.mul_one,Z18,Z0E,List.take_of_length_le (by simp)] at this;exact this
theorem Rd.head {l:LU} {k:Nat} (h:Rd w B 1 A l.length (bc l)) (hk:k≤l.length):Rd w B 1 A k (bc (l.take k)):=by
 refine ⟨by simp [bc,Nat.min_eq_left hk],fun hn=> ?_⟩;obtain ⟨b,off,e,hb,hc⟩:=h.at_ (by omega);refine ⟨b,off,e,hb,fun j u hu=>hc j u ?_⟩;rw [←Z0E,List.getElem?_take] at hu;split at hu
 ·exact hu
 ·cases hu
theorem Rd.of_own {base:Nat} {e:TypeId} {c:Nat} (h:w.ownsRow base e size (.slice A n c) n xs):Rd w w.heap.size size A n xs:=by
 refine ⟨h.1,fun hn=> ?_⟩;obtain ⟨g,cap,hv,_,hlt⟩:=h.form hn;injection hv with hA
 subst hA;exact ⟨g,0,rfl,hlt,fun j u hu=>by have:=h.cells (g:=g) rfl j u hu;rwa [Addr.add_lit] at this⟩
end
theorem _root_.Go.World.ownsRow.base {w:World} {base base':Nat} {e:TypeId} {size:Nat} {v:Value} {n:Nat} {xs:List Value} (h:w.ownsRow base e size v n xs) (hb:base'≤base):w.ownsRow base' e size v n xs:=by
 refine ⟨h.1,?_⟩;rcases h.2 with h2 | ⟨g,cap,cur,h1,h2,h3⟩
 ·exact .inl h2
 ·exact .inr ⟨g,cap,cur,h1,by omega,h3⟩
theorem Z1s {w:World} {base:Nat} {e:TypeId} {size:Nat} {v:Value} {n:Nat} {xs:List Value} (h:w.ownsRow base e size v n xs): ∃A c,v= .slice A n c∧n≤c∧c≤maxLen:=by
 rcases h.2 with ⟨rfl,rfl⟩ | ⟨g,cap,cur,rfl,_,_,hc,hm,_⟩
 ·exact ⟨none,0,rfl,lR _,by unfold maxLen;omega⟩
 ·exact ⟨_,_,rfl,hc,hm⟩
section
variable {P:Program} (w:World)
theorem Z2v (base:Nat) (t ty e:TypeId) (i:TypeInfo) (size:Nat) (ht:P.underlying t=some (.slice e)) (hi:P.info? e=some i)
  (v:Value) (n:Nat) (xs:List Value) (hown:w.ownsRow base e size v n xs) (A:OA) (c:Nat):(Builtin.append_ #[t,t] ty #[v,.slice A 0 c]).run P w= .ok v w:=by
 have hf: ∀w0:World,(Builtin.firstCells i.size 0 (.slice A 0 c)).run P w0= .ok #[] w0:=fun w0=>by
  cases A with
  | none=>simp [Builtin.firstCells]
  | some a=>simp [Builtin.firstCells,loadCells,loadCellsFrom]
 rcases hown.2 with ⟨rfl,rfl⟩ | ⟨g,cap,cur,rfl,_,_,hnc,_⟩
 ·simp [Builtin.append_,run_underlying ht,sizeOf,typeInfo,hi,Builtin.lenOf,hf]
 ·simp [Builtin.append_,run_underlying ht,sizeOf,typeInfo,hi,Builtin.lenOf,hf,hnc,storeCells]
theorem Z8r (base:Nat) (t ty e:TypeId) (i:TypeInfo) (z:Value) (size bytes:Nat) (ht:P.underlying t=some (.slice e)) (hi:P.info? e=some i) (hz:i.zero=some z)
  (hsize:i.size=size) (hby:i.bytes=bytes) (hzs:z.cells.size=size) (hsz:0<size)
  (v:Value) (n:Nat) (xs:List Value) (hown:w.ownsRow base e size v n xs)
  (B:Nat) (A:OA) (m c:Nat) (news:List Value) (hr:Rd w B size A m news) (h1: ∀u∈news,u.oneCell'=true)
  (h63:n+m≤maxLen) (hbytes:(n+m)*bytes≤140737488355328) (hbase:base≤w.heap.size):
  ∃v' w',(Builtin.append_ #[t,t] ty #[v,.slice A m c]).run P w= .ok v' w'∧w'.ownsRow base e size v' (n+m) (xs++news)∧w.grownBy w' v.ownBlock∧
   (v'.ownBlock=v.ownBlock∨v'.ownBlock=some w.heap.size):=by
 rcases Nat.eq_zero_or_pos m with h0 | h0
 ·subst h0
  obtain rfl:=hr.xs_nil;exact ⟨v,w,Z2v w base t ty e i size ht hi v n xs hown A c,by simpa using hown,gR w _,.inl rfl⟩
 ·obtain ⟨b,off,rfl,_,hcells⟩:=hr.at_ h0
  obtain ⟨v',w',hrun,h2,h3,_,h5⟩:=run_append_own_at (P:=P) w base t ty e i z size bytes ht hi hz hsize hby hzs hsz v n xs hown ⟨b,off,none⟩ m c news hr.len
   (fun j u hu=>by rw [Addr.add_lit];exact hcells j u hu) h1 h63 hbytes hbase
  exact ⟨v',w',hrun,h2,h3,h5⟩
variable {ops:Array Oper} {rest:List Oper} {o:Oper} {a:Act} {Q:Exit→Act→World→Prop}
theorem Z0U {K:Act→World→Prop} (s x:Operand) (t:TypeId)
  (ho:o.op= .call { callee:=.builtin .append,args:=#[s,x],argTypes:=#[t,t] })
  (base:Nat) (e:TypeId) (z:Value) (size bytes:Nat) (ht:P.underlying t=some (.slice e)) (hi:(P.info? e).map (fun i=>(i.zero,i.size,i.bytes))=some (some z,size,bytes))
  (hzs:z.cells.size=size) (hsz:0<size)
  (v:Value) (n:Nat) (xs:List Value) (hs:a.eval s=v) (hown:w.ownsRow base e size v n xs)
  (B:Nat) (A:OA) (m c:Nat) (news:List Value) (hx:a.eval x= .slice A m c) (hr:Rd w B size A m news) (h1: ∀u∈news,u.oneCell'=true)
  (h63:n+m≤maxLen) (hbytes:(n+m)*bytes≤140737488355328) (hbase:base≤w.heap.size)
  (h: ∀A' c' w',w'.ownsRow base e size (.slice A' (n+m) c') (n+m) (xs++news)→w.grownBy w' v.ownBlock→((Value.slice A' (n+m) c').ownBlock=v.ownBlock∨(Value.slice A' (n+m) c').ownBlock=some w.heap.size)→
   n+m≤c'→c'≤maxLen→K (a.put o.dst (.slice A' (n+m) c')) w'):o.wp P a w K Q:=by
 obtain ⟨i,hi0,hz0,hz1,hz2⟩:=info_parts hi;obtain ⟨v',w',hrun,h2,h3,h4⟩:=Z8r (P:=P) w base t o.type e i z size bytes ht hi0 hz0 hz1 hz2 hzs hsz v n xs hown B A m c news hr h1 h63 hbytes hbase;obtain ⟨A',c',rfl,hc1,hc2⟩:=Z1s h2;unfold Oper.wp execOp;simp only [ho,resolve,invoke,builtin,Sem.run_bind,Sem.run_pure,Result.andThen_ok,List.map_toArray,List.map_cons,List.map_nil,hs,hx,hrun];exact h A' c' w' h2 h3 h4 hc1 hc2
theorem Z0m (hgd:o.guard=none) (s x:Operand) (t:TypeId)
  (ho:o.op= .call { callee:=.builtin .append,args:=#[s,x],argTypes:=#[t,t] })
  (base:Nat) (e:TypeId) (z:Value) (size bytes:Nat) (ht:P.underlying t=some (.slice e)) (hi:(P.info? e).map (fun i=>(i.zero,i.size,i.bytes))=some (some z,size,bytes))
  (hzs:z.cells.size=size) (hsz:0<size)
  (v:Value) (n:Nat) (xs:List Value) (hs:a.eval s=v) (hown:w.ownsRow base e size v n xs)
  (B:Nat) (A:OA) (m c:Nat) (news:List Value) (hx:a.eval x= .slice A m c) (hr:Rd w B size A m news) (h1: ∀u∈news,u.oneCell'=true)
  (h63:n+m≤maxLen) (hbytes:(n+m)*bytes≤140737488355328) (hbase:base≤w.heap.size)
  (h: ∀A' c' w',w'.ownsRow base e size (.slice A' (n+m) c') (n+m) (xs++news)→w.grownBy w' v.ownBlock→((Value.slice A' (n+m) c').ownBlock=v.ownBlock∨(Value.slice A' (n+m) c').ownBlock=some w.heap.size)→
   n+m≤c'→c'≤maxLen→wpList P ops Q rest (a.put o.dst (.slice A' (n+m) c')) w'):wpList P ops Q (o::rest) a w:=
 wpList_plain hgd fun _ hK=>Z0U w s x t ho base e z size bytes ht hi hzs hsz v n xs hs hown B A m c news hx hr h1 h63 hbytes hbase fun A' c' w' h2 h3 h4 h5 h6=>hK _ _ (h A' c' w' h2 h3 h4 h5 h6)
end
theorem Z1n {P:Program} (w:World) (src dst e:TypeId) (hs:P.underlying src=some (.slice e)) (he:P.underlying e=some (.int .u8)) (hd:P.underlying dst=some .string)
  (B:Nat) (A:OA) (n c:Nat) (l:LU) (hr:Rd w B 1 A n (bc l)):(convert src dst (.slice A n c)).run P w= .ok (.string ⟨l.toArray⟩) w:=by
 have hl:l.length=n:=by have:=hr.len;rw [Zv] at this;omega
 cases A with
 | none=>
  have h0:=hr.none_zero;subst h0;obtain rfl:l=[]:=nZ hl;exact run_convert_bytes_nil w src e hs he _ c dst hd
 | some a=>
  have hload:(loadCells a n).run P w= .ok ((l.map fun c=>(c.toNat:Int)).map (Value.int .u8)).toArray w:=by
   have:=run_loadCells_list (P:=P) w a (bc l) (fun j v hj=>by
    have hjl:=(List.getElem?_eq_some_iff.1 hj).1;rw [Zv] at hjl;obtain ⟨b,off,e1,_,hc⟩:=hr.at_ (by omega);injection e1 with e1
    subst e1;rw [Addr.add_lit]
    exact hc j v hj)
   rw [Zv,hl] at this;rw [this];simp [bc,List.map_map,Function.comp_def]
  rw [run_convert_bytes_string w src dst e _ n c hs he hd,run_bytesToString w a n c _ hload,foldl_push_bytes];simp [ByteArray.empty,ByteArray.emptyWithCapacity,List.map_map,Function.comp_def]
  rfl
theorem Z7T {P:Program} {w:World} {ops:Array Oper} {rest:List Oper} {o:Oper} {a:Act} {Q:Exit→Act→World→Prop} (hgd:o.guard=none) (x:Operand) (src dst e:TypeId)
  (ho:o.op= .convert src dst x) (hs:P.underlying src=some (.slice e)) (he:P.underlying e=some (.int .u8)) (hd:P.underlying dst=some .string)
  (B:Nat) (A:OA) (n c:Nat) (l:LU) (hx:a.eval x= .slice A n c) (hr:Rd w B 1 A n (bc l))
  (h:wpList P ops Q rest (a.put o.dst (.string ⟨l.toArray⟩)) w):wpList P ops Q (o::rest) a w:=by
 refine wpList_plain hgd fun K hK=> ?_;unfold Oper.wp execOp;simp only [ho,hx,Sem.run_bind,Z1n w src dst e hs he hd B A n c l hr,Result.andThen_ok,Sem.run_pure];exact hK _ _ h
theorem Rd.one (w:World) (T:TypeId) (k:Int) (h0:0≤k) (h1:k<256):Rd (w.alloc (.cells #[.int .u8 k] T)) (w.heap.size+1) 1 (some ⟨w.heap.size,0,none⟩) 1 (bc [UInt8.ofNat k.toNat]):=by
 refine ⟨by simp [bc],fun _=>⟨w.heap.size,0,rfl,by omega,fun j u hu=> ?_⟩⟩;have hj:j<1:=by have:=(List.getElem?_eq_some_iff.1 hu).1;simpa [bc] using this
 obtain rfl:j=0:=by omega
 have e:((k.toNat%256:Nat):Int)=k:=by omega
 have:u= .int .u8 k:=by simpa [bc,e] using hu.symm
 subst this;simp
theorem Zdu (x:Nat):bits .or .u8 ((x:Int)%256) 128=((128+x%128:Nat):Int):=by
 have h: ∀i:Fin 256,bits .or .u8 ((i.val:Nat):Int) 128=((128+i.val%128:Nat):Int):=by decide+kernel
 have:=h ⟨x%256,Nat.mod_lt _ (by omega)⟩;simp only at this;rw [show ((x:Int)%256)=((x%256:Nat):Int) by omega,this];omega
theorem Zbs (x:Nat) (h1:x<9223372036854775808):bits .and .i64 (x:Int) 1=((x%2:Nat):Int):=by
 show IntKind.i64.wrap ((BitVec.ofInt 64 x &&& BitVec.ofInt 64 1).toNat:Int)=_
 rw [BitVec.toNat_and,BitVec.toNat_ofInt,BitVec.toNat_ofInt,IntKind.wrap_i64];have e1:((x:Int)%((2^64:Nat):Int)).toNat=x:=by omega
 have e2:((1:Int)%((2^64:Nat):Int)).toNat=1:=by omega
 rw [e1,e2,Nat.and_one_is_mod];omega
theorem Z6a (n:Int) (h₀:0≤n) (h₁:n<2^64):IntKind.u64.wrap n=n:=by rw [IntKind.wrap_u64];omega
theorem Z93 (x:Nat) (h:x<256):bits .and .u8 (x:Int) 127=((x%128:Nat):Int):=by
 rw [show (127:Int)=2^7-1 by decide,bits_mask .u8 8 (by decide) wraps_u8 7 (by decide) x (by omega) (by omega)];omega
theorem Z94 (n y k:Nat) (hk:k<9) (hn:n<128^k) (hy:y<128): ∃z m:Nat,IntKind.u64.wrap ((y:Int)*2^(7*k))=(z:Nat)∧bits .or .u64 (n:Int) (z:Int)=(m:Nat)∧m=n+128^k*y:=by
 have hp:(128:Nat)^k=2^(7*k):=by rw [Nat.pow_mul]
 have hle:128^k≤128^8:=Nat.pow_le_pow_right (by decide) (by omega);have hz:128^k*y≤128^8*127:=Nat.mul_le_mul hle (by omega);have hz2:128^k*y<9223372036854775808:=by omega
 refine ⟨128^k*y,n+128^k*y,?_,?_,rfl⟩
 ·have e2:(y:Int)*2^(7*k)=((128^k*y:Nat):Int):=by rw [hp,Int.mul_comm];simp
  rw [e2,IntKind.wrap_u64];omega
 ·have hn2:n<18446744073709551616:=by omega
  rw [(bits_nat .u64 64 (by decide) Z6a n (128^k*y) (by omega) (by omega)).2];rw [hp] at hn ⊢;rw [Nat.or_comm,←Nat.two_pow_add_eq_or_of_lt hn y,Nat.add_comm]
def RetB (T:TypeId) (w:World) (l:LU) (e:Ending) (w':World):Prop:=
 ∃(l':LU) (A:OA) (c:Nat),Hid (l'=l)∧e= .returned (.slice A l'.length c)∧w'.ownsRow w.heap.size T 1 (.slice A l'.length c) l'.length (bc l')∧Below w.heap.size w w'∧l'.length≤c∧c≤maxLen
def ZcC (T:TypeId) (w:World) (r:Option (Nat×LU)) (e:Ending) (w':World):Prop:=
 match r with
 | none=>e= .returned (.tuple #[.int .i64 0,.slice none 0 0,.int .i64 2])∧Below w.heap.size w w'
 | some (n,q)=> ∃(q':LU) (A:OA) (c:Nat),Hid (q'=q)∧e= .returned (.tuple #[.int .i64 (n:Nat),.slice A q'.length c,.int .i64 0])∧w'.ownsRow w.heap.size T 1 (.slice A q'.length c) q'.length (bc q')∧Below w.heap.size w w'∧q'.length≤c∧c≤maxLen
theorem _root_.Go.RowKit.Below.drewN' {B:Nat} {a w:World} (h:Below B a w) (n:Nat):Below B a (w.drewN n):=⟨h.os,h.tape,h.output,h.size,h.block⟩
open Go.RowKit
theorem Zg (s:BA):s.data.toList.length=s.size:=by rw [Array.length_toList];rfl
theorem Z6w {P:Program} (w:World) (src dst e:TypeId) (s:BA) (hs:P.underlying src=some .string) (hd:P.underlying dst=some (.slice e)) (he:P.underlying e=some (.int .u8)) (hl:s.size≤140737488355328):
  ∃A c w',(convert src dst (.string s)).run P w= .ok (.slice A s.size c) w'∧Rd w' w'.heap.size 1 A s.size (bc s.data.toList)∧Below w.heap.size w w'∧s.size≤c∧c≤maxLen:=by
 refine ⟨_,_,_,run_bytes_of_string w src dst e s hs hd he,⟨by rw [Zv,Zg,Nat.mul_one],fun _=>⟨w.heap.size,0,rfl,by simp,fun j u hu=> ?_⟩⟩,
  ((bR _ _).drew).alloc (by simp) _,grownCap_ge w s.size 0 e,grownCap_le_maxLen w s.size 0 e (by unfold maxLen;omega)⟩
 have hj:=(List.getElem?_eq_some_iff.1 hu).1;rw [Zv,Zg] at hj;show (World.alloc w.drew _).cell? ⟨w.drew.heap.size,0+j,none⟩=_
 rw [World.cell?_alloc_mark];simp only [bytesRow,Nat.zero_add];rw [Array.getElem?_append_left (by simpa using hj)];simp only [bc,List.getElem?_map] at hu;simpa using hu
theorem Z7U {P:Program} {w:World} {ops:Array Oper} {rest:List Oper} {o:Oper} {a:Act} {Q:Exit→Act→World→Prop} (hgd:o.guard=none) (x:Operand) (src dst e:TypeId)
  (ho:o.op= .convert src dst x) (hs:P.underlying src=some .string) (hd:P.underlying dst=some (.slice e)) (he:P.underlying e=some (.int .u8))
  (s:BA) (hx:a.eval x= .string s) (hl:s.size≤140737488355328)
  (h: ∀A c w',Rd w' w'.heap.size 1 A s.size (bc s.data.toList)→Below w.heap.size w w'→s.size≤c→c≤maxLen→wpList P ops Q rest (a.put o.dst (.slice A s.size c)) w'):wpList P ops Q (o::rest) a w:=by
 refine wpList_plain hgd fun K hK=> ?_;obtain ⟨A,c,w',hr,h1,h2,h3,h4⟩:=Z6w w src dst e s hs hd he hl;unfold Oper.wp execOp;simp only [ho,hx,Sem.run_bind,hr,Result.andThen_ok,Sem.run_pure];exact hK _ _ (h A c w' h1 h2 h3 h4)
open Go.RowKit
def Seg (w:World) (base:Nat) (e:TypeId) (size:Nat) (A:OA) (n c:Nat) (xs:List Value):Prop:=
 xs.length=n*size∧n≤c∧c≤maxLen∧
 (c=0∨ ∃g off cur,A=some ⟨g,off,none⟩∧base≤g∧w.heap[g]?=some (.cells cur e (0,0))∧off+c*size≤cur.size∧(cur.toList.drop off).take (n*size)=xs)
def Zl (A:OA):Option Nat:=A.map (·.block)
def Z0u (A:OA) (c:Nat):Option Nat:=if 0<c then Zl A else none
section
variable {w w':World} {base base':Nat} {e:TypeId} {size:Nat} {A:OA} {n c:Nat} {xs:List Value}
theorem Seg.of_own (h:w.ownsRow base e size (.slice A n c) n xs):Seg w base e size A n c xs:=by
 refine ⟨h.1,?_⟩;rcases h.2 with ⟨h1,rfl⟩ | ⟨g,cap,cur,h1,h2,h3,h4,h5,h6,h7⟩
 ·injection h1 with _ _ hc
  subst hc;exact ⟨lR _,by unfold maxLen;omega,.inl rfl⟩
 ·injection h1 with hA _ hc
  subst hc;exact ⟨h4,h5,.inr ⟨g,0,cur,hA,h2,h3,by omega,by simpa using h7⟩⟩
theorem Seg.nil:Seg w base e size A 0 0 []:=⟨by simp,lR _,by unfold maxLen;omega,.inl rfl⟩
theorem Seg.lower (h:Seg w base e size A n c xs) (hb:base'≤base):Seg w base' e size A n c xs:=by
 obtain ⟨h1,h2,h3,h4⟩:=h;refine ⟨h1,h2,h3,?_⟩;rcases h4 with h4 | ⟨g,off,cur,a1,a2,a3⟩
 ·exact .inl h4
 ·exact .inr ⟨g,off,cur,a1,by omega,a3⟩
theorem Seg.lt (h:Seg w base e size A n c xs) (hc:0<c): ∃g,Zl A=some g∧base≤g∧g<w.heap.size:=by
 rcases h.2.2.2 with h4 | ⟨g,off,cur,rfl,a2,a3,_⟩
 ·omega
 ·exact ⟨g,rfl,a2,(Array.getElem?_eq_some_iff.1 a3).1⟩
theorem Seg.row (h:Seg w base e size A n c xs): ∀g,Z0u A c=some g→base≤g∧g<w.heap.size:=by
 intro g hg;unfold Z0u at hg;split at hg
 ·obtain ⟨g',h1,h2,h3⟩:=h.lt (by assumption)
  rw [h1] at hg;injection hg with hg
  subst hg;exact ⟨h2,h3⟩
 ·cases hg
theorem Seg.keepB (h:Seg w base e size A n c xs) (hk: ∀g,Zl A=some g→g<w.heap.size→w'.heap[g]?=w.heap[g]?):Seg w' base e size A n c xs:=by
 obtain ⟨h1,h2,h3,h4⟩:=h;refine ⟨h1,h2,h3,?_⟩;rcases h4 with h4 | ⟨g,off,cur,rfl,a2,a3,a4⟩
 ·exact .inl h4
 ·exact .inr ⟨g,off,cur,rfl,a2,(hk g rfl (Array.getElem?_eq_some_iff.1 a3).1).trans a3,a4⟩
theorem Seg.belowW (h:Seg w base e size A n c xs) (hb:Below w.heap.size w w'):Seg w' base e size A n c xs:=h.keepB fun g _ hlt=>hb.block g hlt
theorem Seg.drew (h:Seg w base e size A n c xs):Seg w.drew base e size A n c xs:=h.keepB fun _ _ _=>rfl
theorem Seg.drewN (h:Seg w base e size A n c xs) (k:Nat):Seg (w.drewN k) base e size A n c xs:=h.keepB fun _ _ _=>rfl
theorem Seg.rd (h:Seg w base e size A n c xs):Rd w w.heap.size size A n xs:=by
 obtain ⟨h1,h2,h3,h4⟩:=h;refine ⟨h1,fun hn=> ?_⟩;rcases h4 with h4 | ⟨g,off,cur,rfl,a2,a3,a4,a5⟩
 ·omega
 ·refine ⟨g,off,rfl,(Array.getElem?_eq_some_iff.1 a3).1,fun j u hu=> ?_⟩
  rw [cell_of_row w g (off+j) cur e (0,0) a3];have hj:=(List.getElem?_eq_some_iff.1 hu).1;rw [←a5,List.getElem?_take] at hu;split at hu
  ·rw [List.getElem?_drop] at hu
   simpa using hu
  ·cases hu
theorem Seg.cut (h:Seg w base e size A n c xs) {lo hi:Nat} (h1:lo≤hi) (h2:hi≤n):
  Seg w base e size (if c=lo then A else A.map (·.add (lo*size))) (hi-lo) (c-lo) ((xs.drop (lo*size)).take ((hi-lo)*size)):=by
 obtain ⟨p1,p2,p3,p4⟩:=h;have hle:(hi-lo)*size≤n*size-lo*size:=by
  rw [←Nat.sub_mul];exact Nat.mul_le_mul_right _ (by omega)
 refine ⟨by simp only [List.length_take,List.length_drop,p1];omega,by omega,by omega,?_⟩
 by_cases hc:c=lo
 ·exact .inl (by omega)
 ·rcases p4 with p4 | ⟨g,off,cur,rfl,a2,a3,a4,a5⟩
  ·exact .inl (by omega)
  ·rw [if_neg hc]
   refine .inr ⟨g,off+lo*size,cur,by simp [Addr.add_lit],a2,a3,?_,?_⟩
   ·have e1:lo*size+(c-lo)*size=c*size:=by rw [←Nat.add_mul];congr 1;omega
    omega
   ·rw [←a5,List.drop_take,List.drop_drop,List.take_take]
    congr 1
    omega
end
section
variable {P:Program} (w:World)
theorem Z3E (base:Nat) (t tx ty e:TypeId) (i:TypeInfo) (z:Value) (size bytes:Nat) (ht:P.underlying t=some (.slice e)) (hi:P.info? e=some i) (hz:i.zero=some z)
  (hsize:i.size=size) (hby:i.bytes=bytes) (hzs:z.cells.size=size)
  (A:OA) (n c:Nat) (xs:List Value) (hseg:Seg w base e size A n c xs) (x:Value) (m:Nat) (news:List Value) (hs:Src P size tx x m news w)
  (h63:n+m≤maxLen) (hbytes:(n+m)*bytes≤140737488355328) (hbase:base≤w.heap.size):
  ∃A' c' w',(Builtin.append_ #[t,tx] ty #[.slice A n c,x]).run P w= .ok (.slice A' (n+m) c') w'∧Seg w' base e size A' (n+m) c' (xs++news)∧
   w.grownBy w' (Z0u A c)∧((A'=A∧c'=c)∨(c<n+m∧Zl A'=some w.heap.size)):=by
 subst hsize;subst hby
 obtain ⟨p1,p2,p3,p4⟩:=hseg;have hsmall:n+m≤9223372036854775807:=by simp only [maxLen] at h63;omega
 have hlen:(xs++news).length=(n+m)*i.size:=by rw [List.length_append,p1,hs.newsLen,Nat.add_mul]
 by_cases hroom:n+m≤c
 ·have hcz:c=0∨0<c:=by omega
  rcases hcz with p4' | hcp
  ·have hn:n=0:=by omega
   have hm:m=0:=by omega
   have hc:c=0:=by omega
   subst hn hm hc;have hnews:news=[]:=nZ (by rw [hs.newsLen];simp);have hxs:xs=[]:=nZ (by rw [p1];simp);subst hnews;subst hxs;refine ⟨A,0,w,?_,⟨by simp,lR _,p3,.inl rfl⟩,⟨rfl,rfl,rfl,lR _,fun _ _ _=>rfl⟩,.inl ⟨rfl,rfl⟩⟩;rcases hs.kind with ⟨e',hk⟩ | hk<;>cases A<;>simp [Builtin.append_,run_underlying ht,run_underlying hk,sizeOf,typeInfo,hi,hs.len,hs.cells,storeCells]
  ·rcases p4 with p4 | ⟨g,off,cur,rfl,a2,a3,a4,a5⟩
   ·omega
   have hl:off+n*i.size+news.length≤cur.size:=by
    have h1:(n+m)*i.size≤c*i.size:=Nat.mul_le_mul_right _ hroom;rw [Nat.add_mul] at h1;rw [hs.newsLen];omega
   have hst:=run_storeCells_at P g (off+n*i.size) e news 0 cur w a3 (by omega) hs.one;simp only [Nat.add_zero] at hst
   refine ⟨_,c,w.setRow g (cur.toList.take (off+n*i.size)++news++cur.toList.drop (off+n*i.size+news.length)).toArray,?_,
    ⟨hlen,hroom,p3,.inr ⟨g,off,_,rfl,a2,setRow_heap w g cur _ e _ a3,?_,?_⟩⟩,?_,.inl ⟨rfl,rfl⟩⟩
   ·rcases hs.kind with ⟨e',hk⟩ | hk<;>simp [Builtin.append_,run_underlying ht,run_underlying hk,sizeOf,typeInfo,hi,hs.len,hroom,hs.cells,Addr.add_lit,hst]
   ·simp only [List.size_toArray,List.length_append,List.length_take,List.length_drop,Array.length_toList]
    omega
   ·rw [←a5,List.append_assoc,List.drop_append,List.drop_take]
    have e1:off-(cur.toList.take (off+n*i.size)).length=0:=by rw [List.length_take,Array.length_toList];omega
    rw [e1,List.drop_zero,Nat.add_sub_cancel_left];have e2:((cur.toList.drop off).take (n*i.size)++news).length=(n+m)*i.size:=by rw [a5];exact hlen
    rw [←List.append_assoc,←e2];exact List.take_left
   ·unfold Z0u
    rw [if_pos hcp];exact ⟨rfl,rfl,rfl,by simp,fun k _ hk=>setRow_other w g k _ (fun e=>hk (by rw [e];rfl))⟩
 ·have hold:(Builtin.firstCells i.size n (.slice A n c)).run P w.drew= .ok xs.toArray w.drew:=by
   rcases Nat.eq_zero_or_pos n with h0 | h0
   ·subst h0
    have hxs:xs=[]:=nZ (by rw [p1];simp);subst hxs
    cases A with
    | none=>simp [Builtin.firstCells]
    | some a=>simp [Builtin.firstCells,loadCells,loadCellsFrom]
   ·rcases p4 with p4 | ⟨g,off,cur,rfl,a2,a3,a4,a5⟩
    ·omega
    ·refine run_firstCells_some w.drew i.size n _ n c xs p1 (fun j u hu=> ?_)
     rw [Addr.add_lit];show w.cell? _=_
     rw [cell_of_row w g (off+j) cur e (0,0) a3];rw [←a5,List.getElem?_take] at hu;split at hu
     ·rw [List.getElem?_drop] at hu
      simpa using hu
     ·cases hu
  have hr:=run_append_grow_src (P:=P) w t tx ty e i z ht hi hz A n c xs hold x m news hs (by omega) (by omega) (growslice_fits (by omega) hbytes);have hge:=grownCap_ge w (n+m) c e;have hcm:grownCap w (n+m) c e≤maxLen:=grownCap_le_maxLen w (n+m) c e h63;refine ⟨_,_,_,hr,⟨hlen,hge,hcm,.inr ⟨w.heap.size,0,_,rfl,hbase,heap_alloc_new w.drew _,?_,?_⟩⟩,?_,.inr ⟨by omega,rfl⟩⟩
  ·simp only [Array.size_append,List.size_toArray,size_zeroCells,hzs,hlen,←Nat.add_mul]
   have:n+m+(grownCap w (n+m) c e-(n+m))=grownCap w (n+m) c e:=by omega
   rw [this];omega
  ·rw [List.drop_zero,Array.toList_append,←hlen]
   exact List.take_left
  ·refine ⟨rfl,rfl,rfl,by simp,?_⟩
   intro k hk _;exact Below.heap_alloc w.drew _ k hk
theorem Z7V (base:Nat) (t tx ty e:TypeId) (i:TypeInfo) (z:Value) (size bytes:Nat) (ht:P.underlying t=some (.slice e)) (hi:P.info? e=some i) (hz:i.zero=some z)
  (hsize:i.size=size) (hby:i.bytes=bytes) (hzs:z.cells.size=size)
  (A:OA) (n c:Nat) (xs:List Value) (hseg:Seg w base e size A n c xs) (x:Value) (m:Nat) (news:List Value) (hs:Src P size tx x m news w)
  (h63:n+m≤maxLen) (hbytes:(n+m)*bytes≤140737488355328) (hbase:base≤w.heap.size):
  ∃A' c' w',(Builtin.append_ #[t,tx] ty #[.slice A n c,x]).run P w= .ok (.slice A' (n+m) c') w'∧Seg w' base e size A' (n+m) c' (xs++news)∧
   w.grownBy w' (Z0u A c)∧(Zl A'=Zl A∨Zl A'=some w.heap.size):=by
 obtain ⟨A',c',w',h1,h2,h3,h4⟩:=Z3E w base t tx ty e i z size bytes ht hi hz hsize hby hzs A n c xs hseg x m news hs h63 hbytes hbase;exact ⟨A',c',w',h1,h2,h3,h4.imp (fun h=>by rw [h.1]) (fun h=>h.2)⟩
variable {ops:Array Oper} {rest:List Oper} {o:Oper} {a:Act} {Q:Exit→Act→World→Prop}
theorem Z8s {K:Act→World→Prop} (s xo:Operand) (t tx:TypeId)
  (ho:o.op= .call { callee:=.builtin .append,args:=#[s,xo],argTypes:=#[t,tx] })
  (base:Nat) (e:TypeId) (z:Value) (size bytes:Nat) (ht:P.underlying t=some (.slice e)) (hi:(P.info? e).map (fun i=>(i.zero,i.size,i.bytes))=some (some z,size,bytes))
  (hzs:z.cells.size=size)
  (A:OA) (n c:Nat) (xs:List Value) (hsv:a.eval s= .slice A n c) (hseg:Seg w base e size A n c xs)
  (x:Value) (m:Nat) (news:List Value) (hx:a.eval xo=x) (hs:Src P size tx x m news w)
  (h63:n+m≤maxLen) (hbytes:(n+m)*bytes≤140737488355328) (hbase:base≤w.heap.size)
  (h: ∀A' c' w',Seg w' base e size A' (n+m) c' (xs++news)→w.grownBy w' (Z0u A c)→(Zl A'=Zl A∨Zl A'=some w.heap.size)→
   n+m≤c'→c'≤maxLen→K (a.put o.dst (.slice A' (n+m) c')) w'):o.wp P a w K Q:=by
 obtain ⟨i,hi0,hz0,hz1,hz2⟩:=info_parts hi;obtain ⟨A',c',w',hrun,h2,h3,h4⟩:=Z7V (P:=P) w base t tx o.type e i z size bytes ht hi0 hz0 hz1 hz2 hzs A n c xs hseg x m news hs h63 hbytes hbase;unfold Oper.wp execOp;simp only [ho,resolve,invoke,builtin,Sem.run_bind,Sem.run_pure,Result.andThen_ok,List.map_toArray,List.map_cons,List.map_nil,hsv,hx,hrun];exact h A' c' w' h2 h3 h4 h2.2.1 h2.2.2.1
end
theorem Src.ofRd {P:Program} {w:World} {B size:Nat} {tx e':TypeId} (hk:P.underlying tx=some (.slice e')) {A:OA} {m c:Nat} {news:List Value} (hr:Rd w B size A m news) (h1: ∀u∈news,u.oneCell'=true):
  Src P size tx (.slice A m c) m news w:=by
 rcases Nat.eq_zero_or_pos m with h0 | h0
 ·subst h0
  obtain rfl:=hr.xs_nil;have hf: ∀w0:World,(Builtin.firstCells size 0 (.slice A 0 c)).run P w0= .ok #[] w0:=fun w0=>by
   cases A with
   | none=>simp [Builtin.firstCells]
   | some a=>simp [Builtin.firstCells,loadCells,loadCellsFrom]
  exact ⟨.inl ⟨e',hk⟩,fun _=>rfl,hf w,hf w.drew,by simp,fun _ h=>by cases h⟩
 ·obtain ⟨b,off,rfl,_,hcells⟩:=hr.at_ h0
  exact Src.ofSlice w hk _ m c news hr.len (fun j u hu=>by rw [Addr.add_lit];exact hcells j u hu) h1
theorem ZfD (s:BA):byteCells s=bc s.data.toList:=rfl
end Go.Dol
namespace Go.Proofs.YtecpbcmpncgokaaGreat
open Go.RowKit Go.Dol
theorem Z2d:(Tryz.prog.info? 5).map (fun i=>(i.zero,i.size,i.bytes))=some (some (.int .u8 0),1,1):=by kernel_rfl
theorem ZcD (w:World) (A:OA) (n c:Nat):(binOp .eql 36 (.slice A n c) (.slice none 0 0)).run Tryz.prog w= .ok (.bool A.isNone) w:=Lib.run_eql_slice_nil w _ _ A n c 0 0 Tryz.underlying36
theorem app8 {w:World} {ops:Array Oper} {rest:List Oper} {o:Oper} {a:Act} {Q:Exit→Act→World→Prop} (hgd:o.guard=none) (s x:Operand)
  (ho:o.op= .call { callee:=.builtin .append,args:=#[s,x],argTypes:=#[36,36] })
  (base:Nat) (v:Value) (n:Nat) (xs:LU) (hs:a.eval s=v) (hown:w.ownsRow base 5 1 v n (bc xs))
  (B:Nat) (A:OA) (m c:Nat) (news:LU) (hx:a.eval x= .slice A m c) (hr:Rd w B 1 A m (bc news))
  (hlen:n+m≤140737488355328) (hbase:base≤w.heap.size)
  (h: ∀(l':LU) (A':OA) (c':Nat) (w':World),Hid (l'=xs++news)→w'.ownsRow base 5 1 (.slice A' l'.length c') l'.length (bc l')→Below base w w'→w.grownBy w' v.ownBlock→
   Hid ((Value.slice A' l'.length c').ownBlock=v.ownBlock∨(Value.slice A' l'.length c').ownBlock=some w.heap.size)→
   l'.length≤c'→c'≤maxLen→wpList Tryz.prog ops Q rest (a.put o.dst (.slice A' l'.length c')) w'):wpList Tryz.prog ops Q (o::rest) a w:=by
 refine Z0m w hgd s x _ ho base _ _ 1 1 Tryz.underlying36 Z2d rfl (by decide) v n (bc xs) hs hown B A m c (bc news) hx hr (Z7S _) (by unfold maxLen;omega) (by omega) hbase ?_;intro A' c' w' h1 h2 h3 h4 h5;have e1:n=xs.length:=by have:=hown.1;rw [Zv] at this;omega
 have e2:m=news.length:=by have:=hr.len;rw [Zv] at this;omega
 have e:n+m=(xs++news).length:=by rw [List.length_append];omega
 rw [←Z1m,e] at h1;rw [e] at h3 h4 ⊢;exact h _ A' c' w' rfl h1 ((bR _ _).grown h2 hbase (fun k hk=>(hown.lt k hk).1)) h2 h3 h4 h5
theorem Z1y {w:World} {k:Int} {ops:Array Oper} {rest:List Oper} {o:Oper} {a:Act} {Q:Exit→Act→World→Prop} (hgd:o.guard=none) (s x:Operand)
  (ho:o.op= .call { callee:=.builtin .append,args:=#[s,x],argTypes:=#[36,36] })
  (base:Nat) (v:Value) (n:Nat) (xs:LU) (hs:a.eval s=v) (hown:w.ownsRow base 5 1 v n (bc xs))
  (hx:a.eval x= .slice (some ⟨w.heap.size,0,none⟩) 1 1) (hk0:0≤k) (hk1:k<256)
  (hlen:n+1≤140737488355328) (hbase:base≤w.heap.size)
  (h: ∀(d:UInt8) (l':LU) (A':OA) (c':Nat) (w':World),Hid ((d.toNat:Int)=k)→Hid (l'=xs++[d])→w'.ownsRow base 5 1 (.slice A' l'.length c') l'.length (bc l')→Below base w w'→w.grownBy w' v.ownBlock→
   Hid ((Value.slice A' l'.length c').ownBlock=v.ownBlock∨(Value.slice A' l'.length c').ownBlock=some (w.heap.size+1))→
   l'.length≤c'→c'≤maxLen→wpList Tryz.prog ops Q rest (a.put o.dst (.slice A' l'.length c')) w'):
  wpList Tryz.prog ops Q (o::rest) a (w.alloc (.cells #[.int .u8 k] 5)):=by
 have hb:=(bR base w).alloc hbase (.cells #[.int .u8 k] 5);refine app8 hgd s x ho base v n xs hs (hown.alloc _) (w.heap.size+1) _ 1 1 [UInt8.ofNat k.toNat] hx (Rd.one w _ k hk0 hk1) hlen (by simp;omega) ?_;intro l' A' c' w' h0 h1 h2 h3 h4 h5 h6;refine h (UInt8.ofNat k.toNat) l' A' c' w' ?_ h0 h1 (hb.trans h2) ⟨h3.os,h3.tape,h3.output,lT (by simp) h3.size,fun i hi hne=>(h3.block i (by simp;omega) hne).trans (Below.heap_alloc w _ i hi)⟩ ?_ h5 h6
 ·unfold Hid
  rw [UInt8.toNat_ofNat'];omega
 ·have e:(w.alloc (.cells #[.int .u8 k] 5)).heap.size=w.heap.size+1:=by simp
  rw [←e];exact h4
theorem Z4S {w:World} {ops:Array Oper} {rest:List Oper} {o:Oper} {a:Act} {Q:Exit→Act→World→Prop} (hgd:o.guard=none) (s x:Operand)
  (ho:o.op= .call { callee:=.builtin .append,args:=#[s,x],argTypes:=#[36,9] })
  (base:Nat) (v:Value) (n:Nat) (xs:LU) (hs:a.eval s=v) (hown:w.ownsRow base 5 1 v n (bc xs))
  (st:BA) (hx:a.eval x= .string st) (hlen:n+st.size≤140737488355328) (hbase:base≤w.heap.size)
  (h: ∀(l':LU) (A':OA) (c':Nat) (w':World),Hid (l'=xs++st.data.toList)→w'.ownsRow base 5 1 (.slice A' l'.length c') l'.length (bc l')→Below base w w'→w.grownBy w' v.ownBlock→
   l'.length≤c'→c'≤maxLen→wpList Tryz.prog ops Q rest (a.put o.dst (.slice A' l'.length c')) w'):wpList Tryz.prog ops Q (o::rest) a w:=by
 obtain ⟨i0,hi,hz0,hz1,hz2⟩:=info_parts Z2d;refine Lib.wpList_append_own_string w hgd s x _ _ ho base _ i0 Tryz.underlying36 Tryz.underlying9 hi hz0 hz1 hz2 v n (bc xs) hs hown st hx (by unfold maxLen;omega) hlen hbase ?_;intro v' w' h1 h2 _;obtain ⟨A',c',rfl,h4,h5⟩:=Z1s h1;have e1:n=xs.length:=by have:=hown.1;rw [Zv] at this;omega
 have e2:st.size=st.data.toList.length:=by rw [Array.length_toList];rfl
 have e:n+st.size=(xs++st.data.toList).length:=by rw [List.length_append];omega
 have e3:bc xs++Lib.strCells st=bc (xs++st.data.toList):=by rw [Z1m];rfl
 rw [e3,e] at h1;rw [e] at h4 ⊢;exact h _ A' c' w' rfl h1 ((bR _ _).grown h2 hbase (fun k hk=>(hown.lt k hk).1)) h2 h4 h5
theorem Z0B (w:World):(w.alloc (.cells #[] 5)).ownsRow w.heap.size 5 1 (.slice (some ⟨w.heap.size,0,none⟩) 0 0) 0 (bc []):=
 World.ownsRow_made w #[] 0 (lR _) (by unfold maxLen;omega) rfl
theorem Z8t {P:Program} {w:World} {ops:Array Oper} {rest:List Oper} {o:Oper} {a:Act} {Q:Exit→Act→World→Prop} (hw:Region.wanted o (yielded ops a.tmps)=true)
  (h: ∀K:Act→World→Prop,(∀a w,wpList P ops Q rest a w→K a w)→o.wp P a w K Q):wpList P ops Q (o::rest) a w:=
 wpList_step fun K hK=>by rw [if_pos hw];exact h K hK
theorem Z0L {w:World} {B:Nat} {A:OA} {n c:Nat} {l:LU} (hr:Rd w B 1 A n (bc l)):(convert 36 9 (.slice A n c)).run Tryz.prog w= .ok (.string ⟨l.toArray⟩) w:=
 Z1n w _ _ _ Tryz.underlying36 Tryz.underlying5 Tryz.underlying9 B A n c l hr
theorem Z6x {w:World} {ops:Array Oper} {rest:List Oper} {o:Oper} {a:Act} {Q:Exit→Act→World→Prop} (hgd:o.guard=none) (x:Operand)
  (ho:o.op= .convert 36 9 x) (B:Nat) (A:OA) (n c:Nat) (l:LU) (hx:a.eval x= .slice A n c) (hr:Rd w B 1 A n (bc l))
  (h:wpList Tryz.prog ops Q rest (a.put o.dst (.string ⟨l.toArray⟩)) w):wpList Tryz.prog ops Q (o::rest) a w:=
 Z7T hgd x _ _ _ ho Tryz.underlying36 Tryz.underlying5 Tryz.underlying9 B A n c l hx hr h
theorem Z0F {d:UInt8} {k:Int} {n:Nat} (h:Hid ((d.toNat:Int)=k)) (e:k=(n:Nat)):d=UInt8.ofNat n:=by
 have h':=h.out;have:d.toNat=n:=by omega
 rw [←this];simp
theorem ZgV {w:World} {ops:Array Oper} {rest:List Oper} {o:Oper} {a:Act} {Q:Exit→Act→World→Prop} (hw:Region.wanted o (yielded ops a.tmps)=true) (s xo:Operand)
  (ho:o.op= .call { callee:=.builtin .append,args:=#[s,xo],argTypes:=#[36,36] })
  (base:Nat) (A:OA) (n c:Nat) (xs:LU) (hs:a.eval s= .slice A n c) (hseg:Seg w base 5 1 A n c (bc xs))
  (B:Nat) (A2:OA) (m c2:Nat) (news:LU) (hx:a.eval xo= .slice A2 m c2) (hr:Rd w B 1 A2 m (bc news))
  (hlen:n+m≤140737488355328) (hbase:base≤w.heap.size)
  (h: ∀(l':LU) (A':OA) (c':Nat) (w':World),Hid (l'=xs++news)→Seg w' base 5 1 A' l'.length c' (bc l')→Below base w w'→w.grownBy w' (Z0u A c)→
   l'.length≤c'→c'≤maxLen→wpList Tryz.prog ops Q rest (a.put o.dst (.slice A' l'.length c')) w'):wpList Tryz.prog ops Q (o::rest) a w:=by
 refine Z8t hw fun K hK=> ?_;refine Z8s w s xo _ _ ho base _ _ 1 1 Tryz.underlying36 Z2d rfl A n c (bc xs) hs hseg _ m (bc news) hx (Src.ofRd Tryz.underlying36 hr (Z7S _)) (by unfold maxLen;omega) (by omega) hbase ?_;intro A' c' w' h1 h2 _ h4 h5;have e1:n=xs.length:=by have:=hseg.1;rw [Zv] at this;omega
 have e2:m=news.length:=by have:=hr.len;rw [Zv] at this;omega
 have e:n+m=(xs++news).length:=by rw [List.length_append];omega
 rw [←Z1m,e] at h1;rw [e] at h4 ⊢;exact hK _ _ (h _ A' c' w' rfl h1 ((bR _ _).grown h2 hbase (fun k hk=>(hseg.row k hk).1)) h2 h4 h5)
end Go.Proofs.YtecpbcmpncgokaaGreat
namespace Go.Dol
open Go.RowKit
def Blk (w:World) (g:Nat) (T:TypeId) (cs:List Value):Prop:=w.heap[g]?=some (.cells cs.toArray T (0,0))
section
variable {w w':World} {g:Nat} {T:TypeId} {cs:List Value}
theorem Blk.lt (h:Blk w g T cs):g<w.heap.size:=(Array.getElem?_eq_some_iff.1 h).1
theorem Blk.cell (h:Blk w g T cs) (i:Nat):w.cell? ⟨g,i,none⟩=cs[i]?:=by
 have:=cell_of_row w g i cs.toArray T (0,0) h;simpa using this
theorem Blk.free (h:Blk w g T cs) (i:Nat):w.frozen? ⟨g,i,none⟩=false:=by
 unfold Blk at h;simp [World.frozen?,h]
theorem Blk.new (w:World) (T:TypeId) (cs:List Value):Blk (w.alloc (.cells cs.toArray T)) w.heap.size T cs:=heap_alloc_new w _
theorem Blk.keepB (h:Blk w g T cs) (hk:w'.heap[g]?=w.heap[g]?):Blk w' g T cs:=hk.trans h
theorem Blk.drew (h:Blk w g T cs):Blk w.drew g T cs:=h
theorem Blk.drewN (h:Blk w g T cs) (n:Nat):Blk (w.drewN n) g T cs:=h
theorem Blk.alloc (h:Blk w g T cs) (o:Obj):Blk (w.alloc o) g T cs:=h.keepB (Below.heap_alloc w o g h.lt)
theorem Blk.far (h:Blk w g T cs) {p:Addr} (hp:g≠p.block) (u:Value):Blk (w.setCell p u) g T cs:=h.keepB (Below.heap_setCell w p u g hp)
theorem Blk.below {B:Nat} (h:Blk w g T cs) (hb:Below B w w') (hg:g<B):Blk w' g T cs:=h.keepB (hb.block g hg)
theorem Blk.grown {row:Option Nat} (h:Blk w g T cs) (hb:w.grownBy w' row) (hg:some g≠row):Blk w' g T cs:=h.keepB (hb.block g h.lt hg)
theorem Blk.set (h:Blk w g T cs) (i:Nat) (u:Value):Blk (w.setCell ⟨g,i,none⟩ u) g T (cs.set i u):=by
 unfold Blk at h ⊢;simp [World.setCell,Array.getElem?_modify,h]
end
theorem Blk.store {P:Program} {w:World} {g:Nat} {T:TypeId} {cs:List Value} (h:Blk w g T cs) (o:Nat) (vs:List Value) (hl:o+vs.length≤cs.length) (h1: ∀v∈vs,v.oneCell'=true):
  ∃w',(storeCells ⟨g,o,none⟩ vs).run P w= .ok () w'∧Blk w' g T (cs.take o++vs++cs.drop (o+vs.length))∧w.grownBy w' (some g):=by
 have hst:=run_storeCells_at P g o T vs 0 cs.toArray w h (by simpa using hl) h1;simp only [Nat.add_zero] at hst;refine ⟨_,hst,setRow_heap w g cs.toArray _ T _ h,⟨rfl,rfl,rfl,by simp,fun k _ hk=>setRow_other w g k _ (fun e=>hk (by rw [e]))⟩⟩
theorem Z0 {w w':World} {g:Nat} (h:w.grownBy w' (some g)) (i:Nat) (u:Value):w.grownBy (w'.setCell ⟨g,i,none⟩ u) (some g):=
 ⟨h.os,h.tape,h.output,by simpa [World.setCell] using h.size,fun k hk hne=>(Below.heap_setCell w' _ u k (fun e=>hne (by rw [e]))).trans (h.block k hk hne)⟩
theorem Z0M {w w':World} {row:Option Nat} (h:w.grownBy w' row):w.grownBy w'.drew row:=⟨h.os,h.tape,h.output,h.size,h.block⟩
theorem Z4b {w w':World} {row:Option Nat} (h:w.grownBy w' row) (n:Nat):w.grownBy (w'.drewN n) row:=⟨h.os,h.tape,h.output,h.size,h.block⟩
theorem Z5 {w w':World} (h:Below w.heap.size w w') (row:Option Nat):w.grownBy w' row:=⟨h.os,h.tape,h.output,h.size,fun k hk _=>h.block k hk⟩
theorem Z6 {w w1 w':World} {g:Nat} (h:w.grownBy w1 (some g)) (k:w1.grownBy w' (some g)):w.grownBy w' (some g):=
 ⟨k.os.trans h.os,k.tape.trans h.tape,k.output.trans h.output,lT h.size k.size,fun i hi hne=>(k.block i (Nat.lt_of_lt_of_le hi h.size) hne).trans (h.block i hi hne)⟩
theorem Z1 {w w':World} {B g:Nat} (h:w.grownBy w' (some g)) (hg:B≤g) (hB:B≤w.heap.size):Below B w w':=
 ⟨h.os,h.tape,h.output,h.size,fun k hk=>h.block k (by omega) (fun e=>by injection e;omega)⟩
open Go.RowKit
theorem Seg.keepR {w w':World} {base:Nat} {e:TypeId} {size:Nat} {A:OA} {n c:Nat} {xs:List Value} (h:Seg w base e size A n c xs) {row:Option Nat} (hg:w.grownBy w' row) (hr: ∀g,Z0u A c=some g→some g≠row):Seg w' base e size A n c xs:=by
 obtain ⟨h1,h2,h3,h4⟩:=h;refine ⟨h1,h2,h3,?_⟩
 by_cases hc:c=0
 ·exact .inl hc
 ·rcases h4 with h4 | ⟨g,off,cur,rfl,a2,a3,a4⟩
  ·exact .inl h4
  ·refine .inr ⟨g,off,cur,rfl,a2,(hg.block g (Array.getElem?_eq_some_iff.1 a3).1 (hr g ?_)).trans a3,a4⟩
   unfold Z0u;rw [if_pos (by omega)]
   rfl
def Apart (A:OA) (c:Nat) (v:Value):Prop:=∀ g,Z0u A c=some g→some g≠v.ownBlock
theorem Apart.nil (A:OA) (c:Nat):Apart A c (.slice none 0 0):=fun g _ h=>by cases h
theorem Apart.app {w:World} {base:Nat} {e:TypeId} {size:Nat} {A:OA} {n c:Nat} {xs:List Value} {v v':Value} (h:Apart A c v) (hs:Seg w base e size A n c xs) {H:Nat} (hH:w.heap.size≤H) (hl:v'.ownBlock=v.ownBlock∨v'.ownBlock=some H):Apart A c v':=by
 intro g hg;rcases hl with hl | hl
 ·rw [hl]
  exact h g hg
 ·rw [hl]
  have:=(hs.row g hg).2;intro e;injection e;omega
theorem Apart.new {w w':World} {base base':Nat} {e e':TypeId} {size size':Nat} {A:OA} {n c n':Nat} {xs xs':List Value} {v:Value} (ho:w.ownsRow base e size v n xs) (hs:Seg w' base' e' size' A n' c xs') (hb:w.heap.size≤base'):Apart A c v:=by
 intro g hg e;have h1:=(ho.lt g e.symm).2;have h2:=(hs.row g hg).1;omega
theorem Apart.piece {A A':OA} {c c':Nat} {v:Value} (h:Apart A c v) (hc:0<c'→0<c) (hA:Zl A'=Zl A):Apart A' c' v:=by
 intro g hg;refine h g ?_;unfold Z0u at hg ⊢;split at hg
 ·rw [if_pos (hc (by assumption)),←hA]
  exact hg
 ·cases hg
theorem Z2e (A:OA) (k:Nat):Zl (A.map (·.add k))=Zl A:=by
 cases A with
 | none=>rfl
 | some a=>simp [Zl,Addr.add];split<;>rfl
theorem Seg.tail8 {w:World} {base:Nat} {e:TypeId} {A:OA} {c k:Nat} {l:LU} (h:Seg w base e 1 A l.length c (bc l)) (hk:k≤l.length):Seg w base e 1 (if c=k then A else A.map (·.add k)) (l.length-k) (c-k) (bc (l.drop k)):=by
 have:=h.cut (lo:=k) (hi:=l.length) hk (lR _);rw [Nat.mul_one,Nat.mul_one,Z18,Z0E,List.take_of_length_le (by simp)] at this;exact this
theorem bcell {W w1:World} (hb:Below W.heap.size W w1):(∀b o,b<W.heap.size→w1.cell? ⟨b,o,none⟩=W.cell? ⟨b,o,none⟩)∧(∀b o,b<W.heap.size→w1.frozen? ⟨b,o,none⟩=W.frozen? ⟨b,o,none⟩):=
 ⟨fun b o h=>hb.cell (p:=⟨b,o,none⟩) h,fun b o h=>hb.frozen (p:=⟨b,o,none⟩) h⟩
def lenV:Value→Nat
 | .slice _ n _=>n
 | _=>0
theorem Z95 (A:OA) (k:Nat):A.map (·.add (k+1))=A.map (fun x=>{ block:=x.block,off:=x.off+(k+1) }):=by
 cases A with
 | none=>rfl
 | some a=>simp [Addr.add]
theorem Zh {w w':World} {base:Nat} {e:TypeId} {size:Nat} {v:Value} {n:Nat} {xs:List Value} (h:w.ownsRow base e size v n xs) (hb:Below w.heap.size w w'):w'.ownsRow base e size v n xs:=by
 cases hv:v.ownBlock with
 | none=>exact h.kept (Z5 hb none) (.inl hv)
 | some g=>exact h.kept (Z5 hb none) (.inr (by rw [hv];simp))
theorem Z96 {w w':World} {base:Nat} {e:TypeId} {size:Nat} {v:Value} {n:Nat} {xs:List Value} {g:Nat} (h:w.ownsRow base e size v n xs) (hg:w.grownBy w' (some g)) (hlt:g<base):w'.ownsRow base e size v n xs:=by
 cases hv:v.ownBlock with
 | none=>exact h.kept hg (.inl hv)
 | some k=>
  have:=(h.lt k hv).1;exact h.kept hg (.inr (by rw [hv];intro e;injection e;omega))
theorem own_ne {w:World} {base:Nat} {e T:TypeId} {size:Nat} {v:Value} {n:Nat} {xs cs:List Value} {g:Nat} (h:w.ownsRow base e size v n xs) (hb:Blk w g T cs) (hT:T≠e):v.ownBlock≠some g:=by
 intro hv;rcases h.2 with ⟨rfl,_⟩ | ⟨k,cap,cur,rfl,_,hh,_⟩
 ·cases hv
 ·have hv':k=g:=by simpa [Value.ownBlock] using hv
  unfold Blk at hb;rw [hv'] at hh;rw [hb] at hh;injection hh with hh
  injection hh with _ hh
  exact hT hh
theorem Zc {w w':World} {base:Nat} {e T:TypeId} {size:Nat} {v:Value} {n:Nat} {xs cs:List Value} {g:Nat} (h:w.ownsRow base e size v n xs) (hb:Blk w g T cs) (hT:T≠e) (hg:w.grownBy w' (some g)):w'.ownsRow base e size v n xs:=
 h.kept hg (.inr (own_ne h hb hT))
theorem Z6b {w w':World} {base:Nat} {e T:TypeId} {size:Nat} {A:OA} {n c:Nat} {xs cs:List Value} {g:Nat} (h:Seg w base e size A n c xs) (hb:Blk w g T cs) (hT:T≠e) (hg:w.grownBy w' (some g)):Seg w' base e size A n c xs:=by
 refine h.keepR hg fun k hk hkg=> ?_;have hkg':k=g:=by simpa using hkg
 rw [hkg'] at hk;unfold Z0u at hk;split at hk
 ·rcases h.2.2.2 with h4 | ⟨k',off,cur,rfl,_,hh,_⟩
  ·omega
  ·unfold Blk at hb
   have hk':k'=g:=by simpa [Zl] using hk
   rw [hk'] at hh;rw [hb] at hh;injection hh with hh
   injection hh with _ hh
   exact hT hh
 ·cases hk
theorem Z3w {w:World} {base:Nat} {e:TypeId} {size:Nat} {A:OA} {n c:Nat} {xs:List Value} (h:w.ownsRow base e size (.slice A n c) n xs):n≤c∧c≤maxLen:=by
 obtain ⟨_,_,h,h1,h2⟩:=Z1s h;injection h with _ _ h
 omega
theorem _root_.Go.RowKit.Below.next {a b c:World} (h:Below a.heap.size a b) (h2:Below b.heap.size b c):Below a.heap.size a c:=h.trans (h2.mono h.size)
open Go.RowKit
section
variable {P:Program} {ops:Array Oper} {rest:List Oper} {o:Oper} {a:Act} {w:World} {Q:Exit→Act→World→Prop}
theorem Z3 (hgd:o.guard=none) (ty:TypeId) (x y:Operand) (ho:o.op= .store ty x y) (g:Nat) (vs:List Value) (hx:a.eval x= .pointer (some ⟨g,0,none⟩)) (hy:a.eval y= .agg vs.toArray)
  (T:TypeId) (old:List Value) (hg:Blk w g T old) (hi:(P.info? ty).map (·.size)=some vs.length) (hold:old.length=vs.length) (h1: ∀v∈vs,v.oneCell'=true)
  (h: ∀w',Blk w' g T vs→w.grownBy w' (some g)→wpList P ops Q rest (a.put o.dst undef) w'):wpList P ops Q (o::rest) a w:=by
 refine wpList_plain hgd fun K hK=> ?_;refine wp_store_row ty x y ho g vs.toArray hx hy T old.toArray hg (by simpa using hi) (by simpa using hold) ?_ (hK _ _ (h _ ?_ ?_))
 ·rw [Array.all_eq_true_iff_forall_mem]
  intro v hv;exact h1 v (by simpa using hv)
 ·exact setRow_heap w g old.toArray _ T _ hg
 ·exact ⟨rfl,rfl,rfl,by simp,fun k _ hk=>setRow_other w g k _ (fun e=>hk (by rw [e]))⟩
end
open Go.RowKit Go.MapKept
open Go.Maps (Keyed)
open Go.ChangeMaps (setBlock heap_setBlock_same heap_setBlock_other modify_eq_set)
def MapL (P:Program) (k:TypeId) (w:World) (B:Nat) (al:List (Value×Value)):Prop:=
 ∃es clock,w.heap[B]?=some (.map es clock)∧Stamped es clock∧(∀e∈es.toList,∃l,keyOf P k e.key=some l)∧es.toList.map (fun e=>(e.key,e.val))=al
def MPut (al:List (Value×Value)) (key v:Value) (al':List (Value×Value)):Prop:=
 ((∀p∈al,p.1≠key)∧al'=al++[(key,v)])∨ ∃l r v0,al=l++(key,v0)::r∧al'=l++(key,v)::r
def MapAt (w:World) (B:Nat):Prop:=∃ es clock,w.heap[B]?=some (.map es clock)
theorem MapAt.own_ne {w:World} {B base:Nat} {e:TypeId} {size:Nat} {v:Value} {n:Nat} {xs:List Value} (h:MapAt w B) (ho:w.ownsRow base e size v n xs):v.ownBlock≠some B:=by
 obtain ⟨es,clock,hb⟩:=h;intro hv;rcases ho.2 with ⟨rfl,_⟩ | ⟨g,cap,cur,rfl,_,hh,_⟩
 ·cases hv
 ·have hv':g=B:=by simpa [Value.ownBlock] using hv
  rw [hv',hb] at hh;cases hh
theorem MapAt.kept {w w':World} {B base:Nat} {e:TypeId} {size:Nat} {v:Value} {n:Nat} {xs:List Value} (h:MapAt w B) (ho:w.ownsRow base e size v n xs) (hg:w.grownBy w' (some B)):w'.ownsRow base e size v n xs:=
 ho.kept hg (.inr (h.own_ne ho))
theorem MapAt.keepB {w w':World} {B:Nat} (h:MapAt w B) (hk:w'.heap[B]?=w.heap[B]?):MapAt w' B:=by
 obtain ⟨es,clock,hb⟩:=h;exact ⟨es,clock,hk.trans hb⟩
theorem MapAt.lt {w:World} {B:Nat} (h:MapAt w B):B<w.heap.size:=by
 obtain ⟨es,clock,hb⟩:=h;exact (Array.getElem?_eq_some_iff.1 hb).1
section
variable {P:Program} {k e t:TypeId} {w w':World} {B:Nat} {al:List (Value×Value)}
theorem MapL.is (h:MapL P k w B al):MapAt w B:=by
 obtain ⟨es,clock,hb,_⟩:=h;exact ⟨es,clock,hb⟩
theorem MapL.lt (h:MapL P k w B al):B<w.heap.size:=by
 obtain ⟨es,clock,hb,_⟩:=h;exact (Array.getElem?_eq_some_iff.1 hb).1
theorem MapL.keepB (h:MapL P k w B al) (hk:w'.heap[B]?=w.heap[B]?):MapL P k w' B al:=by
 obtain ⟨es,clock,hb,h2⟩:=h;exact ⟨es,clock,hk.trans hb,h2⟩
theorem MapL.belowW (h:MapL P k w B al) (hb:Below w.heap.size w w'):MapL P k w' B al:=h.keepB (hb.block B h.lt)
theorem MapL.grown {row:Option Nat} (h:MapL P k w B al) (hb:w.grownBy w' row) (hr:some B≠row):MapL P k w' B al:=h.keepB (hb.block B h.lt hr)
theorem MapL.drew (h:MapL P k w B al):MapL P k w.drew B al:=h
theorem MapL.drewN (h:MapL P k w B al) (n:Nat):MapL P k (w.drewN n) B al:=h
theorem MapL.alloc (h:MapL P k w B al) (o:Obj):MapL P k (w.alloc o) B al:=h.keepB (Below.heap_alloc w o B h.lt)
theorem MapL.far (h:MapL P k w B al) {p:Addr} (hp:B≠p.block) (u:Value):MapL P k (w.setCell p u) B al:=h.keepB (Below.heap_setCell w p u B hp)
theorem MapL.new (w:World):MapL P k (w.alloc (.map #[] 0)) w.heap.size []:=⟨#[],0,heap_alloc_new w _,stamped_empty 0,by simp,rfl⟩
theorem MapL.nodup (h:MapL P k w B al):(al.map Prod.fst).Nodup:=by
 obtain ⟨es,clock,_,⟨_,_,h3⟩,_,rfl⟩:=h;rw [List.map_map];exact h3
theorem MapL.own_ne {base:Nat} {e:TypeId} {size:Nat} {v:Value} {n:Nat} {xs:List Value} (h:MapL P k w B al) (ho:w.ownsRow base e size v n xs):v.ownBlock≠some B:=by
 obtain ⟨es,clock,hb,_⟩:=h;intro hv;rcases ho.2 with ⟨rfl,_⟩ | ⟨g,cap,cur,rfl,_,hh,_⟩
 ·cases hv
 ·have hv':g=B:=by simpa [Value.ownBlock] using hv
  rw [hv',hb] at hh;cases hh
theorem MapL.blk_ne {g:Nat} {T:TypeId} {cs:List Value} (h:MapL P k w B al) (hb:Blk w g T cs):g≠B:=by
 obtain ⟨es,clock,h1,_⟩:=h;rintro rfl;unfold Blk at hb;rw [hb] at h1;cases h1
theorem ZW {es:Array MapEntry} {clock:Nat} (hb:w.heap[B]?=some (.map es clock)) (o:Obj):w.grownBy (setBlock w B o) (some B):=
 ⟨rfl,rfl,rfl,by simp [setBlock],fun i _ hi=>heap_setBlock_other hb o (fun e=>hi (by rw [e]))⟩
theorem MapL.look (h:MapL P k w B al) (K:Keyed P k) (ht:P.underlying t=some (.map k e)) {z:Value} (hz:(zeroValue e).run P w= .ok z w) {key:Value} {kl:Lit} (hkey:keyOf P k key=some kl) (ok:Bool):
  ((∀p∈al,p.1≠key)∧(Instr.lookup t (.map (some B)) key ok).run P w= .ok (if ok then .tuple #[z,.bool false] else z) w)∨
  ∃v,(key,v)∈al∧(Instr.lookup t (.map (some B)) key ok).run P w= .ok (if ok then .tuple #[v,.bool true] else v) w:=by
 obtain ⟨es,clock,hb,hs,hk,rfl⟩:=h;rcases K.find w hkey es.toList hk with ⟨h1,h2⟩ | ⟨j,e0,h1,h2,h3⟩
 ·refine .inl ⟨fun p hp=> ?_,?_⟩
  ·obtain ⟨x,hx,rfl⟩:=List.mem_map.1 hp
   exact h2 x hx
  ·simp [Instr.lookup,run_underlying ht,MapKept.run_getObj_map hb,K.check w _ hkey,h1,hz,Result.andThen]
 ·refine .inr ⟨e0.val,List.mem_map.2 ⟨e0,List.mem_of_getElem? h2,by rw [h3]⟩,?_⟩
  simp [Instr.lookup,run_underlying ht,MapKept.run_getObj_map hb,K.check w _ hkey,h1,Result.andThen]
theorem MapL.update (h:MapL P k w B al) (K:Keyed P k) (ht:P.underlying t=some (.map k e)) {key:Value} {kl:Lit} (hkey:keyOf P k key=some kl) (v:Value):
  ∃al' w',(Instr.mapUpdate t (.map (some B)) key v).run P w= .ok () w'∧MapL P k w' B al'∧MPut al key v al'∧w.grownBy w' (some B):=by
 obtain ⟨es,clock,hb,hs,hk,rfl⟩:=h;rcases K.find w hkey es.toList hk with ⟨h1,h2⟩ | ⟨j,e0,h1,h2,h3⟩
 ·refine ⟨_,setBlock w B (.map (es.push ⟨key,v,clock⟩) (clock+1)),?_,⟨_,_,heap_setBlock_same hb _,stamped_push hs h2,?_,rfl⟩,.inl ⟨?_,?_⟩,ZW hb _⟩
  ·simp [Instr.mapUpdate,run_underlying ht,MapKept.run_getObj_map hb,K.check w false hkey,h1,MapKept.run_setObj_map _ hb,Result.andThen,setBlock]
  ·intro x hx
   simp only [Array.toList_push,List.mem_append,List.mem_singleton] at hx;rcases hx with hx | rfl
   ·exact hk x hx
   ·exact ⟨kl,hkey⟩
  ·intro p hp
   obtain ⟨x,hx,rfl⟩:=List.mem_map.1 hp;exact h2 x hx
  ·simp
 ·have hj:es[j]?=some e0:=by simpa using h2
  have hkeyf: ∀e',es[j]?=some e'→({ e' with key:=key,val:=v }:MapEntry).key=e'.key:=fun e' he'=>by rw [hj] at he';cases he';exact h3.symm
  have hlist:(es.modify j (fun e'=>{ e' with key:=key,val:=v })).toList=es.toList.set j { e0 with key:=key,val:=v }:=by rw [Array.toList_modify,modify_eq_set _ _ _ _ h2]
  refine ⟨_,setBlock w B (.map (es.modify j (fun e'=>{ e' with key:=key,val:=v })) clock),?_,⟨_,_,heap_setBlock_same hb _,stamped_modify hs _ _ (fun _ _=>rfl) (fun e' _ he'=>hkeyf e' he'),?_,rfl⟩,.inr ⟨(es.toList.take j).map (fun e=>(e.key,e.val)),(es.toList.drop (j+1)).map (fun e=>(e.key,e.val)),e0.val,?_,?_⟩,ZW hb _⟩
  ·simp [Instr.mapUpdate,run_underlying ht,MapKept.run_getObj_map hb,K.check w false hkey,h1,hj,h3,K.stays w hkey,MapKept.run_setObj_map _ hb,Result.andThen,setBlock]
  ·intro x hx
   rw [hlist] at hx;rcases List.mem_or_eq_of_mem_set hx with hx | rfl
   ·exact hk x hx
   ·exact ⟨kl,hkey⟩
  ·have hjl:=(List.getElem?_eq_some_iff.1 h2).1
   have:=List.take_append_drop j es.toList;rw [List.drop_eq_getElem_cons hjl,(List.getElem?_eq_some_iff.1 h2).2] at this;rw [←h3]
   conv=>lhs;rw [←this]
   simp
  ·have hjl:=(List.getElem?_eq_some_iff.1 h2).1
   rw [hlist,List.set_eq_take_append_cons_drop,if_pos hjl];simp
theorem MapL.entry (h:MapL P k w B al) (K:Keyed P k) (ht:P.underlying t=some (.map k e)) {z:Value} (hz: ∀u:World,(zeroValue e).run P u= .ok z u) {key:Value} {kl:Lit} (hkey:keyOf P k key=some kl):
  ∃v0 st w1,(Instr.mapEntry t (.map (some B)) key).run P w= .ok (.tuple #[v0,goInt (st:Nat)]) w1∧w.grownBy w1 (some B)∧MapAt w1 B∧(((∀p∈al,p.1≠key)∧v0=z)∨(key,v0)∈al)∧
   ∀(w2:World) (v:Value),w2.heap[B]?=w1.heap[B]?→ ∃al' w3,(Instr.entryStore t (.map (some B)) (goInt st) v).run P w2= .ok () w3∧MapL P k w3 B al'∧MPut al key v al'∧w2.grownBy w3 (some B):=by
 obtain ⟨es,clock,hb,hs,hk,rfl⟩:=h;obtain ⟨s1,s2,_⟩:=hs;rcases K.find w hkey es.toList hk with ⟨h1,h2⟩ | ⟨j,e0,h1,h2,h3⟩
 ·refine ⟨z,clock,setBlock w B (.map (es.push ⟨key,z,clock⟩) (clock+1)),?_,ZW hb _,⟨_,_,heap_setBlock_same hb _⟩,.inl ⟨fun p hp=> ?_,rfl⟩,fun w2 v hw2=> ?_⟩
  ·simp [Instr.mapEntry,run_underlying ht,MapKept.run_getObj_map hb,K.check w false hkey,h1,hz,MapKept.run_setObj_map _ hb,Result.andThen,setBlock]
  ·obtain ⟨x,hx,rfl⟩:=List.mem_map.1 hp
   exact h2 x hx
  ·rw [heap_setBlock_same hb] at hw2
   have hidx:(es.push ⟨key,z,clock⟩).findIdx? (fun e=>((e.born:Nat):Int)==((clock:Nat):Int))=some es.size:=by
    rw [WideElems.findIdx_arr]
    exact WideElems.findIdx_born (l:=(es.push ⟨key,z,clock⟩).toList) (j:=es.size) (e0:=⟨key,z,clock⟩) (by
     simp only [Array.toList_push,List.map_append,List.map_cons,List.map_nil];refine List.nodup_append.2 ⟨s2,by simp,fun a ha c hc e1=> ?_⟩;simp only [List.mem_singleton] at hc;obtain ⟨x,hx,rfl⟩:=List.mem_map.1 ha;have:=s1 x hx
     omega) (by simp)
   have hmod:(es.push ⟨key,z,clock⟩).modify es.size (fun e=>{ e with val:=v })=es.push ⟨key,v,clock⟩:=by
    apply Array.ext';rw [Array.toList_modify,Array.toList_push,Array.toList_push,←Array.length_toList,WideElems.modify_last]
   refine ⟨_,setBlock w2 B (.map (es.push ⟨key,v,clock⟩) (clock+1)),?_,⟨_,_,heap_setBlock_same hw2 _,stamped_push ⟨s1,s2,by assumption⟩ h2,?_,rfl⟩,.inl ⟨?_,?_⟩,ZW hw2 _⟩
   ·simp [Instr.entryStore,MapKept.run_getObj_map hw2,asInt,asIntOf,goInt,hidx,hmod,MapKept.run_setObj_map _ hw2,Result.andThen,setBlock]
   ·intro x hx
    simp only [Array.toList_push,List.mem_append,List.mem_singleton] at hx;rcases hx with hx | rfl
    ·exact hk x hx
    ·exact ⟨kl,hkey⟩
   ·intro p hp
    obtain ⟨x,hx,rfl⟩:=List.mem_map.1 hp;exact h2 x hx
   ·simp
 ·have hj:es[j]?=some e0:=by simpa using h2
  have hsame:es.modify j (fun e=>{ e with key:=key })=es:=by
   apply Array.ext';rw [Array.toList_modify,modify_eq_set _ _ _ _ h2];have:({ e0 with key:=key }:MapEntry)=e0:=by rw [←h3]
   rw [this];exact WideElems.set_self _ _ _ h2
  refine ⟨e0.val,e0.born,setBlock w B (.map es clock),?_,ZW hb _,⟨_,_,heap_setBlock_same hb _⟩,.inr (List.mem_map.2 ⟨e0,List.mem_of_getElem? h2,by rw [h3]⟩),fun w2 v hw2=> ?_⟩
  ·simp [Instr.mapEntry,run_underlying ht,MapKept.run_getObj_map hb,K.check w false hkey,h1,hj,h3,K.stays w hkey,hsame,MapKept.run_setObj_map _ hb,Result.andThen,setBlock]
  ·rw [heap_setBlock_same hb] at hw2
   have hidx:es.findIdx? (fun e=>((e.born:Nat):Int)==((e0.born:Nat):Int))=some j:=by
    rw [WideElems.findIdx_arr];exact WideElems.findIdx_born s2 h2
   have hlist:(es.modify j (fun e'=>{ e' with val:=v })).toList=es.toList.set j { e0 with val:=v }:=by rw [Array.toList_modify,modify_eq_set _ _ _ _ h2]
   refine ⟨_,setBlock w2 B (.map (es.modify j (fun e'=>{ e' with val:=v })) clock),?_,⟨_,_,heap_setBlock_same hw2 _,stamped_modify ⟨s1,s2,by assumption⟩ _ _ (fun _ _=>rfl) (fun e' _ _=>rfl),?_,rfl⟩,.inr ⟨(es.toList.take j).map (fun e=>(e.key,e.val)),(es.toList.drop (j+1)).map (fun e=>(e.key,e.val)),e0.val,?_,?_⟩,ZW hw2 _⟩
   ·simp [Instr.entryStore,MapKept.run_getObj_map hw2,asInt,asIntOf,goInt,hidx,MapKept.run_setObj_map _ hw2,Result.andThen,setBlock]
   ·intro x hx
    rw [hlist] at hx;rcases List.mem_or_eq_of_mem_set hx with hx | rfl
    ·exact hk x hx
    ·exact hk e0 (List.mem_of_getElem? h2)
   ·have hjl:=(List.getElem?_eq_some_iff.1 h2).1
    have:=List.take_append_drop j es.toList;rw [List.drop_eq_getElem_cons hjl,(List.getElem?_eq_some_iff.1 h2).2] at this;rw [←h3]
    conv=>lhs;rw [←this]
    simp
   ·have hjl:=(List.getElem?_eq_some_iff.1 h2).1
    rw [hlist,List.set_eq_take_append_cons_drop,if_pos hjl,←h3];simp
end
theorem MPut.mem {al al':List (Value×Value)} {key v:Value} (h:MPut al key v al'):(key,v)∈al':=by
 rcases h with ⟨_,rfl⟩ | ⟨l,r,v0,_,rfl⟩<;>simp
theorem Zbt {P:Program} {k e:TypeId} {n:Nat} (hu:P.underlying k=some (.array n e)) (hkt:P.keyType k=true) (hc:P.cellsOf k=n) (he:P.underlying e=some (.int .u8)) (h1:P.cellsOf e=1) (hsz: ∃m,P.types.size=m+1) (l:LU) (hl:l.length=n):
  ∃kl,keyOf P k (.agg (bc l).toArray)=some kl:=by
 obtain ⟨m,hm⟩:=hsz;have hmap: ∀(n:Nat) (cs:LU),cs.length=n→(List.range n).mapM (fun i=>P.keyLits (m+1) e (((bc cs).drop (i*1)).take 1))=some (cs.map fun c=>[Lit.int .u8 c.toNat]):=by
  intro n cs hcs;subst hcs;have: ∀i∈List.range cs.length,P.keyLits (m+1) e (((bc cs).drop (i*1)).take 1)=some [Lit.int .u8 ((cs.getD i 0).toNat:Int)]:=by
   intro i hi;have hi':i<cs.length:=by simpa using hi
   rw [Nat.mul_one,Z18,List.drop_eq_getElem_cons hi',Z0E,List.take_succ_cons,List.take_zero];have hb:=(cs[i]).toNat_lt;simp [bc,Program.keyLits,he,Lit.wf,IntKind.min,IntKind.max,IntKind.signed,IntKind.bits,List.getD,gE hi'];omega
  have e2:(List.range cs.length).mapM (fun i=>P.keyLits (m+1) e (((bc cs).drop (i*1)).take 1))=some ((List.range cs.length).map fun i=>[Lit.int .u8 ((cs.getD i 0).toNat:Int)]):=by
   generalize List.range cs.length=L at this
   induction L with
   | nil=>rfl
   | cons a L ih=>
    rw [List.mapM_cons,this a (by simp),ih (fun i hi=>this i (by simp [hi]))]
    rfl
  rw [e2]
  congr 1
  apply List.ext_getElem
  ·simp
  ·intro i h1 h2
   simp only [List.length_map,List.length_range] at h1;simp [List.getD,gE h1]
 unfold keyOf;simp only [hu];rw [if_pos (by simp [hkt,Value.formed,hu,hc,bc,hl]),hm];unfold Program.keyLits;simp only [hu,Value.cells];rw [if_pos (by simp [hc,bc,hl])];have:=hmap n l hl;simp only [h1,Nat.mul_one] at this ⊢;rw [this];exact ⟨_,rfl⟩
end Go.Dol
namespace Go.Proofs.YtecpbcmpncgokaaGreat
open Go.RowKit Go.Dol
theorem ZeQ {w:World} {ops:Array Oper} {o:Oper} {a:Act} {K:Act→World→Prop} {Q:Exit→Act→World→Prop} {E:Prop} (hgd:o.guard=none) (s x:Operand)
  (ho:o.op= .call { callee:=.builtin .append,args:=#[s,x],argTypes:=#[36,36] })
  (base:Nat) (v:Value) (n:Nat) (xs:LU) (hs:a.eval s=v) (hown:w.ownsRow base 5 1 v n (bc xs))
  (B:Nat) (A:OA) (m c:Nat) (news:LU) (hx:a.eval x= .slice A m c) (hr:Rd w B 1 A m (bc news))
  (hlen:n+m≤140737488355328) (hbase:base≤w.heap.size)
  (h: ∀(l':LU) (A':OA) (c':Nat) (w':World),Hid (l'=xs++news)→w'.ownsRow base 5 1 (.slice A' l'.length c') l'.length (bc l')→Below base w w'→w.grownBy w' v.ownBlock→
   Hid ((Value.slice A' l'.length c').ownBlock=v.ownBlock∨(Value.slice A' l'.length c').ownBlock=some w.heap.size)→l'.length≤c'→c'≤maxLen→K (a.put o.dst (.slice A' l'.length c')) w'):if Region.wanted o (yielded ops a.tmps)=true then Oper.wp Tryz.prog o a w K Q else E:=by
 have hw:Region.wanted o (yielded ops a.tmps)=true:=by simp [Region.wanted,hgd]
 rw [if_pos hw];refine Z0U w s x _ ho base _ _ 1 1 Tryz.underlying36 Z2d rfl (by decide) v n (bc xs) hs hown B A m c (bc news) hx hr (Z7S _) (by unfold maxLen;omega) (by omega) hbase ?_;intro A' c' w' h1 h2 h3 h4 h5;have e1:n=xs.length:=by have:=hown.1;rw [Zv] at this;omega
 have e2:m=news.length:=by have:=hr.len;rw [Zv] at this;omega
 have e:n+m=(xs++news).length:=by rw [List.length_append];omega
 rw [←Z1m,e] at h1;rw [e] at h3 h4 ⊢;exact h _ A' c' w' rfl h1 ((bR _ _).grown h2 hbase (fun k hk=>(hown.lt k hk).1)) h2 h3 h4 h5
def ZcE (w:World) (B:Nat) (m:LU) (A':OA) (c':Nat):Prop:=Rd w B 1 A' m.length (bc m)∧m.length≤c'∧c'≤maxLen
theorem Z6Y (w:World):(sizeOf (Tryz.prog.elem 36)).run Tryz.prog w= .ok 1 w:=by kernel_rfl
section
variable {w:World} {B:Nat} {A:OA} {l:LU} {c k:Nat}
theorem Z9W {lo hi:Nat} (loI hiI:Int) (hlo:loI=(lo:Nat)) (hhi:hiI=(hi:Nat)) (hr:Rd w B 1 A l.length (bc l)) (h1:lo≤hi) (h2:hi≤l.length) (hc:l.length≤c) (hc2:c≤maxLen):
  ∃(m:LU) (A':OA) (c':Nat),Hid (m=(l.drop lo).take (hi-lo))∧m.length+lo≤hi∧hi≤m.length+lo∧ZcE w B m A' c'∧c'+lo=c∧Zl A'=Zl A∧Hid (∀w0 base,Seg w0 base 5 1 A l.length c (bc l)→Seg w0 base 5 1 A' m.length c' (bc m))∧
   ∀w':World,(Instr.sliceAt 36 (.slice A l.length c) (some (.int .i64 loI)) (some (.int .i64 hiI)) none).run Tryz.prog w'= .ok (.slice A' m.length c') w':=by
 subst hlo;subst hhi;have h:=hr.cut (lo:=lo) (hi:=hi) (cap:=c) h1 h2 hc;have hlen:((l.drop lo).take (hi-lo)).length=hi-lo:=by rw [List.length_take,List.length_drop];omega
 rw [Nat.mul_one,Nat.mul_one,Z18,Z0E] at h;refine ⟨(l.drop lo).take (hi-lo),_,c-lo,rfl,by omega,by omega,⟨by rw [hlen];exact h,by omega,by omega⟩,by omega,?_,?_,fun w'=> ?_⟩
 ·split
  ·rfl
  ·exact Z2e A lo
 ·intro w0 base hs
  have:=hs.cut (lo:=lo) (hi:=hi) h1 h2;rw [Nat.mul_one,Nat.mul_one,Z18,Z0E] at this;rw [hlen];exact this
 ·rw [run_sliceAt_slice _ _ _ _ _ _ (by kernel_rfl),run_slice_lh _ _ _ _ _ (by kernel_rfl) _ _ _ _ (by omega) (by omega) (by omega),Z6Y,hlen]
  simp [sliced,Result.andThen]
theorem Z0V (kI:Int) (hkI:kI=(k:Nat)) (hr:Rd w B 1 A l.length (bc l)) (hk:k≤l.length) (hc:l.length≤c) (hc2:c≤maxLen):
  ∃(m:LU) (A':OA) (c':Nat),Hid (m=l.drop k)∧m.length+k≤l.length∧l.length≤m.length+k∧ZcE w B m A' c'∧c'+k=c∧Zl A'=Zl A∧Hid (∀w0 base,Seg w0 base 5 1 A l.length c (bc l)→Seg w0 base 5 1 A' m.length c' (bc m))∧
   ∀w':World,(Instr.sliceAt 36 (.slice A l.length c) (some (.int .i64 kI)) none none).run Tryz.prog w'= .ok (.slice A' m.length c') w':=by
 subst hkI;have h:=hr.cut (lo:=k) (hi:=l.length) (cap:=c) hk (lR _) hc;have htk:(l.drop k).take (l.length-k)=l.drop k:=List.take_of_length_le (by rw [List.length_drop];exact lR _);rw [Nat.mul_one,Nat.mul_one,Z18,Z0E,htk] at h;have hlen:(l.drop k).length=l.length-k:=List.length_drop;refine ⟨l.drop k,_,c-k,rfl,by omega,by omega,⟨by rw [hlen];exact h,by omega,by omega⟩,by omega,?_,?_,fun w'=> ?_⟩
 ·split
  ·rfl
  ·exact Z2e A k
 ·intro w0 base hs
  have:=hs.cut (lo:=k) (hi:=l.length) hk (lR _);rw [Nat.mul_one,Nat.mul_one,Z18,Z0E,htk] at this;rw [hlen];exact this
 ·rw [run_sliceAt_slice _ _ _ _ _ _ (by kernel_rfl),run_slice_l _ _ _ _ _ (by kernel_rfl) _ _ (by omega) (by omega),Z6Y,hlen]
  simp [sliced,Result.andThen]
theorem ZeR (kI:Int) (hkI:kI=(k:Nat)) (hr:Rd w B 1 A l.length (bc l)) (hk:k≤l.length) (hc:l.length≤c) (hc2:c≤maxLen):
  ∃m:LU,Hid (m=l.take k)∧m.length≤k∧k≤m.length∧ZcE w B m A c∧Hid (∀w0 base,Seg w0 base 5 1 A l.length c (bc l)→Seg w0 base 5 1 A m.length c (bc m))∧
   ∀w':World,(Instr.sliceAt 36 (.slice A l.length c) none (some (.int .i64 kI)) none).run Tryz.prog w'= .ok (.slice A m.length c) w':=by
 subst hkI;have hlen:(l.take k).length=k:=by rw [List.length_take];omega
 refine ⟨l.take k,rfl,by omega,by omega,⟨by rw [hlen];exact hr.head hk,by omega,hc2⟩,?_,fun w'=> ?_⟩
 ·intro w0 base hs
  have:=hs.cut (lo:=0) (hi:=k) (zL _) hk;simp only [Nat.mul_one,Z0E,List.drop_zero,Nat.sub_zero] at this;rw [hlen];split at this
  ·exact this
  ·have e:A.map (·.add 0)=A:=by cases A with | none=>rfl | some a=>simp [Addr.add]
   rw [e] at this;exact this
 ·rw [run_sliceAt_slice _ _ _ _ _ _ (by kernel_rfl),run_slice_h _ _ _ _ _ (by kernel_rfl) _ _ (by omega) (by omega),Z6Y,hlen]
  cases A<;>simp [sliced,Result.andThen,Addr.add]
end
def Far (w:World) (B:Nat) (A:OA) (l:LU):Prop:=Rd w w.heap.size 1 A l.length (bc l)∧(0<l.length→ ∀k,Zl A=some k→k<B∨ ∃cur fr,w.heap[k]?=some (.cells cur 5 fr))
def Other (w:World) (B:Nat) (row:Option Nat):Prop:=∀ k,row=some k→B≤k∧ ∀cur fr,w.heap[k]?≠some (.cells cur 5 fr)
theorem Other.blk {w:World} {B g:Nat} {T:TypeId} {cs:List Value} (h:Blk w g T cs) (hT:T≠5) (hB:B≤g):Other w B (some g):=by
 intro k hk;injection hk with hk
 subst hk;refine ⟨hB,fun cur fr e=> ?_⟩;unfold Blk at h;rw [h] at e;injection e with e
 injection e with _ e
 exact hT e
theorem Other.own {w:World} {B base:Nat} {e:TypeId} {size:Nat} {v:Value} {n:Nat} {xs:List Value} (h:w.ownsRow base e size v n xs) (he:e≠5) (hB:B≤base):Other w B v.ownBlock:=by
 intro k hk;rcases h.2 with ⟨rfl,_⟩ | ⟨g,cap,cur,rfl,h2,h3,_⟩
 ·cases hk
 ·have e1:g=k:=by
   have e2:(some g:Option Nat)=some k:=hk;injection e2
  subst e1;refine ⟨by omega,fun cur' fr' e'=> ?_⟩;rw [h3] at e';injection e' with e'
  injection e' with _ e'
  exact he e'
theorem Far.nil {w:World} {B:Nat} {A:OA}:Far w B A []:=⟨Rd.nil,fun h=>absurd h (by decide)⟩
theorem Far.keep {w w':World} {B:Nat} {A:OA} {l:LU} (h:Far w B A l) {row:Option Nat} (hg:w.grownBy w' row) (hr:Other w B row):Far w' B A l:=by
 rcases Nat.eq_zero_or_pos l.length with h0 | h0
 ·obtain rfl:l=[]:=nZ h0
  exact Far.nil
 obtain ⟨b,off,e,hb,hc⟩:=h.1.at_ h0;have hs:Zl A=some b:=by rw [e];rfl
 have hne:some b≠row:=fun e2=>by
  obtain ⟨h1,h2⟩:=hr b e2.symm;rcases h.2 h0 b hs with h3 | ⟨cur,fr,h3⟩
  ·omega
  ·exact h2 cur fr h3
 refine ⟨⟨h.1.len,fun _=>⟨b,off,e,Nat.lt_of_lt_of_le hb hg.size,fun j u hu=>(World.cell?_of_block (hg.block b hb hne)).trans (hc j u hu)⟩⟩,fun _ k hk=> ?_⟩;rw [hs] at hk;injection hk with hk
 subst hk;rw [hg.block b hb hne];exact h.2 h0 b hs
theorem Far.below {w w':World} {B:Nat} {A:OA} {l:LU} (h:Far w B A l) (hb:Below w.heap.size w w'):Far w' B A l:=h.keep (Z5 hb none) fun _ e=>by cases e
theorem Far.drew {w:World} {B:Nat} {A:OA} {l:LU} (h:Far w B A l):Far w.drew B A l:=⟨h.1.drew,h.2⟩
theorem Far.of_rd {w:World} {B:Nat} {A:OA} {l:LU} (h:Rd w B 1 A l.length (bc l)) (hg:B≤w.heap.size):Far w B A l:=by
 refine ⟨h.more hg,fun hn k hk=> .inl ?_⟩;obtain ⟨b,off,e,hb,hc⟩:=h.at_ hn;rw [e] at hk;injection hk with hk
 have e3:b=k:=hk;omega
theorem Far.of_seg {w:World} {base B:Nat} {A:OA} {l:LU} {c:Nat} (h:Seg w base 5 1 A l.length c (bc l)):Far w B A l:=by
 refine ⟨h.rd,fun hn k hk=> .inr ?_⟩;have hc:=h.2.1;rcases h.2.2.2 with h4 | ⟨g,off,cur,rfl,a2,a3,_⟩
 ·omega
 ·injection hk with hk
  have e3:g=k:=hk;subst e3;exact ⟨cur,(0,0),a3⟩
theorem Far.piece {w:World} {B0 B k:Nat} {A A':OA} {l m:LU} {c':Nat} (h:Far w B A l) (hp:ZcE w B0 m A' c') (hB:B0≤w.heap.size) (hk:m.length+k≤l.length) (hs:Zl A'=Zl A):Far w B A' m:=
 ⟨hp.1.more hB,fun hn=>by rw [hs];exact h.2 (by omega)⟩
end Go.Proofs.YtecpbcmpncgokaaGreat
namespace Go.Dol
open Go
def idle (o:Oper):Oper:={ o with op:=.move (.const undef) }
def Z4c (P:Program) (o:Oper) (Q:Exit→Act→World→Prop):Exit→Act→World→Prop
 | .normal,a,w=>o.wp P a w (fun a' w'=>Q .normal a' w') Q
 | e,a,w=>Q e a w
def Z7W (md:Region.Mode) (ops:Array Oper) (L:Nat):Bool:=
 decide (L<ops.size)&&(List.range ops.size).all (fun i=>(match ops[i]? with | none=>true | some o=>o.after.all fun e=>decide (e.on<i))&&
  (i==L||(match ops[L]? with | none=>false | some o=>o.after.any fun e=>Region.binds md e&&e.on==i)))
section
variable {P:Program} {ops:Array Oper} {Q:Exit→Act→World→Prop} {md:Region.Mode} {L:Nat} {last:Oper}
theorem Zdv {o:Oper} {a:Act} {w:World} {K K':Act→World→Prop} (hK: ∀a w,K' a w→K a w) (h:o.wp P a w K' (Z4c P last Q)):o.wp P a w K Q:=by
 unfold Oper.wp at*;generalize (execOp a.eval o).run P w=r at*
 cases r with
 | ok n w'=>
  cases n<;>simp only [Oper.upon] at h ⊢
  case value v=>exact hK _ _ h
  case skip=>exact hK _ _ h
  case defer d=>exact hK _ _ h
  case enter f args=>exact Calls.mono h fun e w'' he=>by cases e<;>first | exact hK _ _ he | exact he
  case row row args=>exact Rows.mono h fun v w'' he=>hK _ _ he
 | halt x w'=>cases x<;>simp only [Oper.upon] at h ⊢ <;>exact h
theorem Z9X {i:Nat} (h:i≠L):(ops.setIfInBounds L (idle last))[i]?=ops[i]?:=Array.getElem?_setIfInBounds_ne (Ne.symm h)
theorem Z6c (hL:ops[L]?=some last):(ops.setIfInBounds L (idle last))[L]?=some (idle last):=by
 have h:=(Array.getElem?_eq_some_iff.1 hL).1;rw [Array.getElem?_setIfInBounds,if_pos rfl,if_pos h]
theorem Z5a (hL:ops[L]?=some last) (listed:Array Bool):Region.ready md (ops.setIfInBounds L (idle last)) listed=Region.ready md ops listed:=by
 unfold Region.ready;rw [Array.size_setIfInBounds];refine List.filter_congr fun i _=> ?_
 by_cases h:i=L
 ·subst h
  rw [Z6c hL,hL]
  rfl
 ·rw [Z9X h]
theorem Z9Y (hL:ops[L]?=some last) (tmps:Array Value):yielded (ops.setIfInBounds L (idle last)) tmps=yielded ops tmps:=by
 funext i
 unfold yielded
 by_cases h:i=L
 ·subst h
  rw [Z6c hL,hL]
  rfl
 ·rw [Z9X h]
theorem Z97 (h:Z7W md ops L=true):L<ops.size∧(∀(i:Nat) (o:Oper),ops[i]?=some o→ ∀e∈o.after,e.on<i)∧ ∀(i:Nat),i<ops.size→i≠L→ ∀o,ops[L]?=some o→ ∃e∈o.after,Region.binds md e=true∧e.on=i:=by
 unfold Z7W at h;rw [Bool.and_eq_true,decide_eq_true_eq,List.all_eq_true] at h;refine ⟨h.1,fun i o ho e he=> ?_,fun i hi hne o ho=> ?_⟩
 ·have h1:=h.2 i (List.mem_range.2 (Array.getElem?_eq_some_iff.1 ho).1)
  rw [Bool.and_eq_true,ho] at h1;have h2:=Array.all_eq_true_iff_forall_mem.1 h1.1 e he;exact of_decide_eq_true h2
 ·have h1:=h.2 i (List.mem_range.2 hi)
  rw [Bool.and_eq_true,Bool.or_eq_true,ho] at h1;rcases h1.2 with h2 | h2
  ·exact absurd (by simpa using h2) hne
  ·obtain ⟨e,he,hb⟩:=Array.any_eq_true'.1 h2
   rw [Bool.and_eq_true] at hb;exact ⟨e,he,hb.1,by simpa using hb.2⟩
theorem Z7X (h:Z7W md ops L=true) (listed:Array Bool) (hs:listed.size=ops.size): ∀n,n≤L→listed.getD n true=false→Region.ready md ops listed≠[]:=by
 obtain ⟨hL,hb,_⟩:=Z97 h;intro n
 induction n using Nat.strongRecOn with
 | _ n ih=>
  intro hn hun he;have hno: ¬ ∃j,j<n∧listed.getD j true=false:=fun ⟨j,hj,hu⟩=>ih j hj (by omega) hu he;have hm:n∈Region.ready md ops listed:=by
   rw [mem_ready];refine ⟨hun,ops[n]'(by omega),Array.getElem?_eq_getElem (by omega),fun e hee _=> ?_⟩;have hlt:=hb n _ (Array.getElem?_eq_getElem (by omega)) e hee
   cases hx:listed.getD e.on false with
   | true=>rfl
   | false=>
    refine absurd ⟨e.on,hlt,?_⟩ hno;rw [Array.getD_eq_getD_getElem?,Array.getElem?_eq_getElem (by omega)] at hx ⊢;exact hx
  rw [he] at hm;cases hm
theorem Zcf (hends:Z7W md ops L=true) (hL:ops[L]?=some last) (hd:last.dst=none) (hg:last.guard=none):
  ∀(fuel:Nat) (listed:Array Bool) (a:Act) (w:World),listed.size=ops.size→listed.getD L true=false→
   wpAny P md (ops.setIfInBounds L (idle last)) (Z4c P last Q) fuel listed a w→wpAny P md ops Q fuel listed a w:=by
 intro fuel
 induction fuel with
 | zero=>
  intro listed a w hs hu h;rw [wpAny,Z5a hL] at h;exact absurd h.1 (Z7X hends listed hs L (lR _) hu)
 | succ fuel ih=>
  intro listed a w hs hu h;rw [wpAny,Z5a hL] at h;refine ⟨fun h0=>absurd h0 (Z7X hends listed hs L (lR _) hu),fun i hi=> ?_⟩;have h1:=h.2 i hi
  by_cases hiL:i=L
  ·subst hiL
   have hall: ∀j,j<ops.size→(listed.setIfInBounds i true).getD j true=true:=by
    intro j hj
    by_cases hji:j=i
    ·subst hji
     rw [Array.getD_eq_getD_getElem?,Array.getElem?_setIfInBounds,if_pos rfl,if_pos (by omega)]
     rfl
    ·obtain ⟨_,o,ho,ha⟩:=mem_ready.1 hi
     obtain ⟨e,he,hb,he2⟩:=(Z97 hends).2.2 j hj hji o ho;have h2:=ha e he hb;rw [he2] at h2;rw [getD_set_ne true (Ne.symm hji)];rw [Array.getD_eq_getD_getElem?,Array.getElem?_eq_getElem (by omega)] at h2 ⊢;exact h2
   have hnone:Region.ready md ops (listed.setIfInBounds i true)=[]:=by
    unfold Region.ready;rw [List.filter_eq_nil_iff];intro j hj;rw [hall j (List.mem_range.1 hj)];simp
   unfold wpOp at h1 ⊢;rw [Z6c hL] at h1;rw [hL];simp only at h1 ⊢;have hw1:Region.wanted (idle last) (yielded (ops.setIfInBounds i (idle last)) a.tmps)=true:=by
    show (match last.guard with | none=>true | some (j,want)=>_)=true
    rw [hg]
   have hw2:Region.wanted last (yielded ops a.tmps)=true:=by
    unfold Region.wanted;rw [hg]
   rw [if_pos hw1] at h1;rw [if_pos hw2];have hfin: ∀a' w',wpAny P md (ops.setIfInBounds i (idle last)) (Z4c P last Q) fuel (listed.setIfInBounds i true) a' w'→Z4c P last Q .normal a' w':=by
    intro a' w' h3
    cases fuel with
    | zero=>exact h3.2
    | succ f=>exact h3.1 (by rw [Z5a hL];exact hnone)
   have hput:a.put (idle last).dst undef=a:=by
    show a.put last.dst undef=a
    rw [hd]
    rfl
   rcases h1 with h1 | h1
   ·have h2:wpAny P md (ops.setIfInBounds i (idle last)) (Z4c P last Q) fuel (listed.setIfInBounds i true) (a.put (idle last).dst undef) w:=h1
    rw [hput] at h2;refine .inl (Oper.wp_mono (fun a' w' h3=>wpAny_done hnone h3 fuel) (hfin _ _ h2))
   ·exfalso
    have h3:=h1.1.1
    revert h3
    simp [execOp,idle,noRoomEvent];exact fun h=>by
     have h4:({ loc:=Loc.mark Mark.noRoom,write:=false,sync:=true }:Event)∈(#[]:Array Event):=h;simp at h4
  ·unfold wpOp at h1 ⊢
   rw [Z9X hiL,Z9Y hL] at h1
   cases ho:ops[i]? with
   | none=>
    rw [ho] at h1;simp only at h1 ⊢;exact ih _ _ _ (by simpa using hs) (by rw [getD_set_ne true hiL];exact hu) h1
   | some o=>
    rw [ho] at h1;simp only at h1 ⊢;have hK: ∀a' w',wpAny P md (ops.setIfInBounds L (idle last)) (Z4c P last Q) fuel (listed.setIfInBounds i true) a' w'→wpAny P md ops Q fuel (listed.setIfInBounds i true) a' w':=
     fun a' w' h3=>ih _ _ _ (by simpa using hs) (by rw [getD_set_ne true hiL];exact hu) h3
    split
    ·rename_i hw
     rw [if_pos hw] at h1;rcases h1 with h1 | h1
     ·exact .inl (Zdv hK h1)
     ·exact .inr ⟨h1.1,by obtain ⟨a',w',h2⟩:=h1.2;exact ⟨a',w',h2⟩⟩
    ·rename_i hw
     rw [if_neg hw] at h1;exact hK _ _ h1
theorem Z1t {id:Nat} {a:Act} {w:World} {S:World→Prop} (L:Nat) (last:Oper) (hm:P.follows .mixedOrders=true) (hL:ops[L]?=some last) (hends:Z7W .any ops L=true) (hd:last.dst=none) (hg:last.guard=none)
  (hS:S w.drew) (h:S w.drew→wpAnyH P .any (ops.setIfInBounds L (idle last)) (Z4c P last Q) S ops.size (Array.replicate ops.size false) a w.drew):(Code.region id ops true).wp P Q a w:=by
 refine wp_region_any hm (Zcf hends hL hd hg _ _ _ _ (by simp) ?_ (wpAny_of_held _ _ _ _ (h hS)));have:=(Array.getElem?_eq_some_iff.1 hL).1;simp [this]
end
open Go.RowKit
theorem ZgW {P:Program} {w:World} {ops:Array Oper} {o:Oper} {a:Act} {K:Act→World→Prop} {Q:Exit→Act→World→Prop} {E:Prop} (hgd:o.guard=none) (s x:Operand) (t e:TypeId) (z:Value) (bytes:Nat)
  (ho:o.op= .call { callee:=.builtin .append,args:=#[s,x],argTypes:=#[t,t] })
  (ht:P.underlying t=some (.slice e)) (hi:(P.info? e).map (fun i=>(i.zero,i.size,i.bytes))=some (some z,1,bytes)) (hzs:z.cells.size=1)
  (base:Nat) (v:Value) (n:Nat) (xs:List Value) (hs:a.eval s=v) (hown:w.ownsRow base e 1 v n xs)
  (B:Nat) (A:OA) (m c:Nat) (news:List Value) (hx:a.eval x= .slice A m c) (hr:Rd w B 1 A m news) (h1: ∀u∈news,u.oneCell'=true)
  (hmax:n+m≤maxLen) (hlen:(n+m)*bytes≤140737488355328) (hbase:base≤w.heap.size)
  (h: ∀(A':OA) (c':Nat) (w':World),w'.ownsRow base e 1 (.slice A' (n+m) c') (n+m) (xs++news)→Below base w w'→w.grownBy w' v.ownBlock→
   n+m≤c'→c'≤maxLen→K (a.put o.dst (.slice A' (n+m) c')) w'):if Region.wanted o (yielded ops a.tmps)=true then Oper.wp P o a w K Q else E:=by
 have hw:Region.wanted o (yielded ops a.tmps)=true:=by simp [Region.wanted,hgd]
 rw [if_pos hw];refine Z0U w s x _ ho base _ _ 1 bytes ht hi hzs (by decide) v n xs hs hown B A m c news hx hr h1 hmax hlen hbase ?_;intro A' c' w' h1 h2 h3 h4 h5;exact h _ c' w' h1 ((bR _ _).grown h2 hbase (fun k hk=>(hown.lt k hk).1)) h2 h4 h5
theorem ZeS {P:Program} {w:World} {ops:Array Oper} {rest:List Oper} {o:Oper} {a:Act} {Q:Exit→Act→World→Prop} (hgd:o.guard=none) (s x:Operand) (t e:TypeId) (z:Value) (bytes:Nat)
  (ho:o.op= .call { callee:=.builtin .append,args:=#[s,x],argTypes:=#[t,t] })
  (ht:P.underlying t=some (.slice e)) (hi:(P.info? e).map (fun i=>(i.zero,i.size,i.bytes))=some (some z,1,bytes)) (hzs:z.cells.size=1)
  (base:Nat) (v:Value) (n:Nat) (xs:List Value) (hs:a.eval s=v) (hown:w.ownsRow base e 1 v n xs)
  (B:Nat) (A:OA) (m c:Nat) (news:List Value) (hx:a.eval x= .slice A m c) (hr:Rd w B 1 A m news) (h1: ∀u∈news,u.oneCell'=true)
  (hmax:n+m≤maxLen) (hlen:(n+m)*bytes≤140737488355328) (hbase:base≤w.heap.size)
  (h: ∀(A':OA) (c':Nat) (w':World),w'.ownsRow base e 1 (.slice A' (n+m) c') (n+m) (xs++news)→Below base w w'→w.grownBy w' v.ownBlock→
   n+m≤c'→c'≤maxLen→wpList P ops Q rest (a.put o.dst (.slice A' (n+m) c')) w'):wpList P ops Q (o::rest) a w:=by
 refine Z0m w hgd s x _ ho base _ _ 1 bytes ht hi hzs (by decide) v n xs hs hown B A m c news hx hr h1 hmax hlen hbase ?_;intro A' c' w' h1 h2 h3 h4 h5;exact h _ c' w' h1 ((bR _ _).grown h2 hbase (fun k hk=>(hown.lt k hk).1)) h2 h4 h5
theorem Rd.new1 (w:World) (T:TypeId) (u:Value):Rd (w.alloc (.cells #[u] T)) (w.heap.size+1) 1 (some ⟨w.heap.size,0,none⟩) 1 [u]:=by
 refine ⟨by simp,fun _=>⟨w.heap.size,0,rfl,by omega,fun j u' hu=> ?_⟩⟩;have hj:j<1:=by have:=(List.getElem?_eq_some_iff.1 hu).1;simpa using this
 obtain rfl:j=0:=by omega
 have:u'=u:=by simpa using hu.symm
 subst this;simp
theorem Z7Y {w:World} {base:Nat} {e:TypeId} {A:OA} {c n:Nat} {xs:List Value} (h:w.ownsRow base e 1 (.slice A n c) n xs) (hn:0<n):
  ∃g tail,A=some ⟨g,0,none⟩∧base≤g∧Blk w g e (xs++tail):=by
 rcases h.2 with ⟨h1,_⟩ | ⟨g,cap,cur,h1,h2,h3,h4,h5,h6,h7⟩
 ·injection h1 with _ h1
  omega
 ·injection h1 with hA _ hc
  refine ⟨g,cur.toList.drop (n*1),hA,h2,?_⟩;unfold Blk;rw [h3,←h7,List.take_append_drop]
open Go.RowKit
theorem ZfE (w:World) (e:TypeId) (base n:Nat) (cs:List Value) (hn:cs.length=n) (hb:base≤w.heap.size) (hm:n≤maxLen):(w.alloc (.cells cs.toArray e)).ownsRow base e 1 (.slice (some ⟨w.heap.size,0,none⟩) n n) n cs:=
 ⟨by omega,.inr ⟨w.heap.size,n,cs.toArray,rfl,hb,heap_alloc_new w _,lR _,hm,by simp [hn],by simp [←hn]⟩⟩
open Go.RowKit
theorem Z7Z {P:Program} {w:World} {ops:Array Oper} {o:Oper} {a:Act} {K:Act→World→Prop} {Q:Exit→Act→World→Prop} {E:Prop} (hgd:o.guard=none) (s x:Operand) (t e:TypeId) (z:Value) (size bytes:Nat)
  (ho:o.op= .call { callee:=.builtin .append,args:=#[s,x],argTypes:=#[t,t] })
  (ht:P.underlying t=some (.slice e)) (hi:(P.info? e).map (fun i=>(i.zero,i.size,i.bytes))=some (some z,size,bytes)) (hzs:z.cells.size=size) (hsz:0<size)
  (base:Nat) (v:Value) (n:Nat) (xs:List Value) (hs:a.eval s=v) (hown:w.ownsRow base e size v n xs)
  (B:Nat) (A:OA) (m c:Nat) (news:List Value) (hx:a.eval x= .slice A m c) (hr:Rd w B size A m news) (h1: ∀u∈news,u.oneCell'=true)
  (hmax:n+m≤maxLen) (hlen:((n+m)+(n+m)/4+192)*bytes≤281474976710656) (hbase:base≤w.heap.size)
  (h: ∀(A':OA) (c':Nat) (w':World),w'.ownsRow base e size (.slice A' (n+m) c') (n+m) (xs++news)→Below base w w'→w.grownBy w' v.ownBlock→
   n+m≤c'→c'≤maxLen→K (a.put o.dst (.slice A' (n+m) c')) w'):if Region.wanted o (yielded ops a.tmps)=true then Oper.wp P o a w K Q else E:=by
 have hw:Region.wanted o (yielded ops a.tmps)=true:=by simp [Region.wanted,hgd]
 rw [if_pos hw];obtain ⟨i,hi0,hz0,hz1,hz2⟩:=info_parts hi;rcases Nat.eq_zero_or_pos m with h0 | h0
 ·subst h0
  obtain rfl:=hr.xs_nil;obtain ⟨A',c',rfl,hc1,hc2⟩:=Z1s hown;have hrun:=Z2v (P:=P) w base t o.type e i size ht hi0 _ n xs hown A c;unfold Oper.wp execOp;simp only [ho,resolve,invoke,builtin,Sem.run_bind,Sem.run_pure,Result.andThen_ok,List.map_toArray,List.map_cons,List.map_nil,hs,hx,hrun];exact h A' c' w (by simpa using hown) (bR _ _) (gR w _) hc1 hc2
 ·obtain ⟨b,off,rfl,_,hcells⟩:=hr.at_ h0
  refine wp_append_own_wide w s x t ho base e i z size bytes ht hi0 hz0 hz1 hz2 hzs hsz v n xs hs hown ⟨b,off,none⟩ m c news hx hr.len (fun j u hu=>by rw [Addr.add_lit];exact hcells j u hu) h1 hmax hlen hbase ?_;intro v' w' h2 h3 _;obtain ⟨A',c',rfl,hc1,hc2⟩:=Z1s h2;exact h _ c' w' h2 ((bR _ _).grown h3 hbase (fun k hk=>(hown.lt k hk).1)) h3 hc1 hc2
theorem ZgX {P:Program} {w:World} {ops:Array Oper} {rest:List Oper} {o:Oper} {a:Act} {Q:Exit→Act→World→Prop} (hgd:o.guard=none) (s x:Operand) (t e:TypeId) (z:Value) (size bytes:Nat)
  (ho:o.op= .call { callee:=.builtin .append,args:=#[s,x],argTypes:=#[t,t] })
  (ht:P.underlying t=some (.slice e)) (hi:(P.info? e).map (fun i=>(i.zero,i.size,i.bytes))=some (some z,size,bytes)) (hzs:z.cells.size=size) (hsz:0<size)
  (base:Nat) (v:Value) (n:Nat) (xs:List Value) (hs:a.eval s=v) (hown:w.ownsRow base e size v n xs)
  (B:Nat) (A:OA) (m c:Nat) (news:List Value) (hx:a.eval x= .slice A m c) (hr:Rd w B size A m news) (h1: ∀u∈news,u.oneCell'=true)
  (hmax:n+m≤maxLen) (hlen:((n+m)+(n+m)/4+192)*bytes≤281474976710656) (hbase:base≤w.heap.size)
  (h: ∀(A':OA) (c':Nat) (w':World),w'.ownsRow base e size (.slice A' (n+m) c') (n+m) (xs++news)→Below base w w'→w.grownBy w' v.ownBlock→
   n+m≤c'→c'≤maxLen→wpList P ops Q rest (a.put o.dst (.slice A' (n+m) c')) w'):wpList P ops Q (o::rest) a w:=
 wpList_step fun _ hK=>Z7Z hgd s x t e z size bytes ho ht hi hzs hsz base v n xs hs hown B A m c news hx hr h1 hmax hlen hbase fun A' c' w' a1 a2 a3 a4 a5=>hK _ _ (h A' c' w' a1 a2 a3 a4 a5)
end Go.Dol
