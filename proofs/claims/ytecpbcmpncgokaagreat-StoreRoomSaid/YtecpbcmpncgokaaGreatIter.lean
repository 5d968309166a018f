/- Files as they lie in memory, one behind the other: of two cells each. Conditions: none beyond what each law names. A disk whose files are in order and fit memory, whatever they cost together. No program is in sight. Conditions: none beyond what each law names. What a save leaves, in plain Lean. No program is in sight. Conditions: as each lemma names: a disk in good order, its power on, no cut to come. What keeps a disk in good order, whatever its files cost together: commands, saves, sweeps. No program is in sight. Conditions: as each lemma names. What a save leaves wherever the power goes, in plain Lean. No program is in sight. Conditions: files in order; the power is on. What a disk's turning leaves as it lies: bytes, rows, files. Conditions: none beyond what each law names. The library's contracts on slices.Sorted(maps.Keys(m)), at this seat. Conditions: as the library's. -/
import Derived.Test.YtecpbcmpncgokaaGreatDiskLaw
import Derived.Test.YtecpbcmpncgokaaGreatWordsA
import Derived.Test.YtecpbcmpncgokaaGreatShort
import Derived.Test.YtecpbcmpncgokaaGreatStoSpec
import Derived.Test.YtecpbcmpncgokaaGreatDisk2
import Derived.Shelf.SlIter.Nil
import Derived.Shelf.SortM.Plain
import Derived.Shelf.SortM.SortNone
import Derived.Ground.GgzProg
import Derived.Ground.SlgmProg
import Derived.Test.YtecpbcmpncgokaaGreatRows
set_option linter.unusedVariables false
namespace Go.Proofs.YtecpbcmpncgokaaGreat
open Go.RowKit Go.Dol
structure FilA where
 n:BA
 b:LU
 A:OA
 c:Nat
def FilA.f (x:FilA):Fil:=(x.n,x.b)
def FilA.cells (x:FilA):List Value:=[.string x.n,.slice x.A x.b.length x.c]
def fc (l:List FilA):List Value:=l.flatMap FilA.cells
theorem Z9r (a b:List FilA):fc (a++b)=fc a++fc b:=by simp [fc]
theorem Zdi (l:List FilA): ∀u∈fc l,u.oneCell'=true:=by
 intro u hu;obtain ⟨x,_,hx⟩:=List.mem_flatMap.1 hu;rcases List.mem_cons.1 hx with rfl | hx
 ·rfl
 ·obtain rfl:=List.mem_singleton.1 hx
  rfl
theorem Z3a {l:List FilA} {k:Nat} {x:FilA} (h:l[k]?=some x):(fc l)[k*2]?=some (.string x.n)∧(fc l)[k*2+1]?=some (.slice x.A x.b.length x.c):=by
 induction l generalizing k with
 | nil=>cases h
 | cons y r ih=>
  cases k with
  | zero=>
   have:y=x:=by simpa using h
   subst this;exact ⟨rfl,rfl⟩
  | succ k=>
   have h':r[k]?=some x:=by simpa using h
   have e1:(fc (y::r))[(k+1)*2]?=(fc r)[k*2]?:=by
    show (y.cells++fc r)[_]?=_
    rw [List.getElem?_append_right (by show 2≤_;omega)]
    congr 1
    show (k+1)*2-2=_
    omega
   have e2:(fc (y::r))[(k+1)*2+1]?=(fc r)[k*2+1]?:=by
    show (y.cells++fc r)[_]?=_
    rw [List.getElem?_append_right (by show 2≤_;omega)]
    congr 1
    show (k+1)*2+1-2=_
    omega
   rw [e1,e2];exact ih h'
theorem Rd.fileT (w:World) (T:TypeId) (x:FilA):Rd (w.alloc (.cells #[.string x.n,.slice x.A x.b.length x.c] T)) (w.heap.size+1) 2 (some ⟨w.heap.size,0,none⟩) 1 (fc [x]):=by
 have hB:=Blk.new w T x.cells;refine ⟨rfl,fun _=>⟨w.heap.size,0,rfl,by omega,fun j u hu=> ?_⟩⟩;rw [Nat.zero_add];have e:fc [x]=x.cells:=by simp [fc]
 rw [e] at hu;exact (hB.cell j).trans hu
def Fls8 (w:World) (B:Nat) (l:List FilA):Prop:=∀ x∈l,Far w B x.A x.b∧x.b.length≤x.c∧x.c≤maxLen
theorem Fls8.below {w w':World} {B:Nat} {l:List FilA} (h:Fls8 w B l) (hb:Below w.heap.size w w'):Fls8 w' B l:=fun x hx=>⟨(h x hx).1.below hb,(h x hx).2⟩
theorem Fls8.keep {w w':World} {B:Nat} {l:List FilA} (h:Fls8 w B l) {row:Option Nat} (hg:w.grownBy w' row) (hr:Other w B row):Fls8 w' B l:=fun x hx=>⟨(h x hx).1.keep hg hr,(h x hx).2⟩
theorem Far.more {w:World} {B B':Nat} {A:OA} {l:LU} (h:Far w B A l) (hB:B≤B'):Far w B' A l:=⟨h.1,fun h0 k hk=>by
 rcases h.2 h0 k hk with h1 | h1
 ·exact .inl (by omega)
 ·exact .inr h1⟩
theorem Fls8.more {w:World} {B B':Nat} {l:List FilA} (h:Fls8 w B l) (hB:B≤B'):Fls8 w B' l:=fun x hx=>⟨(h x hx).1.more hB,(h x hx).2⟩
end Go.Proofs.YtecpbcmpncgokaaGreat
namespace Go.Dol
def Z0E:List Fil→List Fil→Option (List Fil)
 | acc,[]=>some acc
 | acc,f::r=>if Z4 f.1=false∨(Z1 acc f.1).isSome=true then none else Z0E (putF acc f.1 f.2) r
theorem Z7B {acc l r:List Fil} (h:Z0E acc l=none):Z0E acc (l++r)=none:=by
 induction l generalizing acc with
 | nil=>cases h
 | cons f q ih=>
  unfold Z0E at h;show (if Z4 f.1=false∨(Z1 acc f.1).isSome=true then none else Z0E (putF acc f.1 f.2) (q++r))=none
  split at h
  ·rw [if_pos (by assumption)]
  ·rw [if_neg (by assumption)]
   exact ih h
theorem Zdj {acc l m:List Fil} (h:Z0E acc l=some m) (f:Fil):Z0E acc (l++[f])=if Z4 f.1=false∨(Z1 m f.1).isSome=true then none else some (putF m f.1 f.2):=by
 induction l generalizing acc with
 | nil=>
  have:acc=m:=by simpa [Z0E] using h
  subst this
  rfl
 | cons g q ih=>
  unfold Z0E at h;show (if Z4 g.1=false∨(Z1 acc g.1).isSome=true then none else Z0E (putF acc g.1 g.2) (q++[f]))=_
  split at h
  ·cases h
  ·rw [if_neg (by assumption)]
   exact ih h
theorem ZbD {acc l m:List Fil} (h:Z0E acc l=some m) (ho:InOrder acc):InOrder m:=by
 induction l generalizing acc with
 | nil=>
  have:acc=m:=by simpa [Z0E] using h
  subst this;exact ho
 | cons g q ih=>
  unfold Z0E at h;split at h
  ·cases h
  ·exact ih h (Z05 ho)
theorem Zdk (l:List Fil) (k:Nat):Zg (l.take k)≤Zg l:=by
 have h1:=List.take_append_drop k l;have h2:=Z5q (l.take k) (l.drop k);rw [h1] at h2;have:=Z0o (l.drop k);omega
theorem costs_mem {l:List Fil} {f:Fil} (h:f∈l):Z1n f≤Zg l:=by
 obtain ⟨a,b,rfl⟩:=List.append_of_mem h;have h1:=Z5q a (f::b);have h2:=Z0o a;have h3:=Z0o b;simp only [Zg] at h1;omega
theorem Z5Z (l:List Fil):16*(l.length:Int)≤Zg l:=by
 induction l with
 | nil=>exact Int.le_refl _
 | cons f r ih=>
  have:=Z4n f;simp only [Zg,List.length_cons];omega
def Z5r (cap:Int) (l:List Fil):Option Dk×Int:=
 if cap<0∨1099511627776<cap then (none,1) else match Z0E [] l with
  | none=>(none,1)
  | some m=>if frD ⟨cap,m,0,-1,false⟩<0 then (none,4) else (some ⟨cap,m,0,-1,false⟩,0)
end Go.Dol
set_option linter.unusedVariables false
namespace Go.Dol
open Go.RowKit
structure OkL (D:Dk):Prop where
 ord:InOrder D.l
 cap0:0≤D.cap
 cap1:D.cap≤1099511627776
 names: ∀f∈D.l,Z4 f.1=true
 len:D.l.length≤3518437208880
 small: ∀f∈D.l,f.2.length≤140737488355328
theorem OkD.toL {D:Dk} (h:OkD D):OkL D:=by
 refine ⟨h.ord,h.cap0,h.cap1,h.names,?_,fun f hf=>h.small ((Zj h.ord).2 hf)⟩;have h1:=Z5Z D.l;have h2:=h.room;have h3:=h.cap1;omega
theorem OkW.toL {D:Dk} (h:OkW D):OkL D:=⟨h.ord,h.cap0,h.cap1,h.names,h.len,fun f hf=>by have:=h.bytes f hf;omega⟩
theorem Zc8 {l:List Fil} (h:Zg l≤140737488355328): ∀f∈l,f.1.size≤140737488355328∧f.2.length≤140737488355328:=fun f hf=>by
 have h1:=costs_mem hf;unfold Z1n at h1;omega
end Go.Dol
namespace Go.Proofs.YtecpbcmpncgokaaGreat
open Go.RowKit Go.Dol
theorem Z9J {fs:List FilA} (h:Zg (fs.map FilA.f)≤140737488355328):fs.length≤140737488355328∧ ∀x∈fs,x.n.size≤140737488355328∧x.b.length≤140737488355328:=by
 refine ⟨?_,fun x hx=>Zc8 h x.f (List.mem_map.2 ⟨x,hx,rfl⟩)⟩;have h1:=Z5Z (fs.map FilA.f);rw [List.length_map] at h1;omega
end Go.Proofs.YtecpbcmpncgokaaGreat
set_option linter.unusedVariables false
namespace Go.Dol
open Go.RowKit
theorem ZaQ (l:LU):(Z0r l).flatten=l:=by
 induction h:l.length using Nat.strongRecOn generalizing l with
 | ind n ih=>
  rw [Z0r];split
  ·rename_i h0
   rw [nZ h0]
   rfl
  ·rename_i h0
   rw [List.flatten_cons,ih (l.drop 64).length (by rw [List.length_drop];omega) _ rfl,List.take_append_drop]
theorem Z2I (l:LU):(Zn l).flatten=l:=by
 unfold Zn;split
 ·rename_i h0
  rw [nZ h0]
  rfl
 ·exact ZaQ l
theorem Z96 (l:LU): ∀c∈Z0r l,c.length≤64:=by
 induction h:l.length using Nat.strongRecOn generalizing l with
 | ind n ih=>
  intro c hc;rw [Z0r] at hc;split at hc
  ·cases hc
  ·rcases List.mem_cons.1 hc with rfl | hc
   ·rw [List.length_take];omega
   ·exact ih (l.drop 64).length (by rw [List.length_drop];omega) _ rfl c hc
theorem Z2r (l:LU): ∀c∈Zn l,c.length≤64:=by
 unfold Zn;split
 ·intro c hc
  rw [List.mem_singleton.1 hc];simp
 ·exact Z96 l
theorem ZcD (l:LU):(Z0r l).length=(l.length+63)/64:=by
 induction h:l.length using Nat.strongRecOn generalizing l with
 | ind n ih=>
  rw [Z0r];split
  ·simp;omega
  ·rw [List.length_cons,ih (l.drop 64).length (by rw [List.length_drop];omega) _ rfl,List.length_drop]
   omega
theorem ZaR (l:LU):(Zn l).length=max 1 ((l.length+63)/64):=by
 unfold Zn;split
 ·rename_i h0
  rw [h0]
  rfl
 ·rw [ZcD]
  omega
theorem Z43 (l:LU):Zn l≠[]:=by
 intro h;have:=ZaR l;rw [h] at this;simp at this;omega
structure CalmD (D:Dk):Prop where
 ok:OkD D
 left:D.left= -1
 dark:D.dark=false
structure Later (D D':Dk) (k:Nat):Prop where
 calm:CalmD D'
 cap:D'.cap=D.cap
 done:D'.done=D.done+k
theorem Z3n {D:Dk} (h:CalmD D) (l':List Fil):ZY D l'=(0,{ D with done:=D.done+1,l:=l' }):=by
 unfold ZY;rw [h.left]
 rfl
theorem CalmD.free {D:Dk} (h:CalmD D):frD D=D.cap-Zg D.l:=h.ok.free
theorem Zhk {D:Dk} (h:CalmD D) {s:BA} (hs:Z4 s=true) {c:LU} (hc:c.length≤64) (hr:Z0p D s c≤frD D):
  appD D s c=(0,{ D with done:=D.done+1,l:=putF D.l s ((Z1 D.l s).getD []++c) })∧Later D { D with done:=D.done+1,l:=putF D.l s ((Z1 D.l s).getD []++c) } 1:=by
 have e:appD D s c=(0,{ D with done:=D.done+1,l:=putF D.l s ((Z1 D.l s).getD []++c) }):=by
  unfold appD;rw [if_neg (by rw [hs];simp;omega),if_neg (by rw [h.dark];decide)];unfold Z1J;rw [if_neg (by omega),Z3n h]
 refine ⟨e,⟨?_,h.left,h.dark⟩,rfl,rfl⟩;have:=h.ok.app s c;rw [e] at this;exact this
theorem ZaS {D:Dk} {s:BA} {c b:LU} (h:Z1 D.l s=some b):Z0p D s c=c.length:=by unfold Z0p;rw [h];simp
theorem ZaT {D:Dk} {s:BA} {c:LU} (h:Z1 D.l s=none):Z0p D s c=c.length+(16+(s.size:Int)):=by unfold Z0p;rw [h]
theorem Zjm {D:Dk} (h:CalmD D) {s:BA} (hs:Z4 s=true) {acc:LU} (hl:Z1 D.l s=some acc) (cs:List (LU)) (hc: ∀c∈cs,c.length≤64) (hr:(cs.flatten.length:Int)≤frD D):
  ∃D',ZH D s cs=(0,D')∧Later D D' cs.length∧Z1 D'.l s=some (acc++cs.flatten)∧(∀x,x≠s→Z1 D'.l x=Z1 D.l x)∧Zg D'.l=Zg D.l+cs.flatten.length:=by
 induction cs generalizing D acc with
 | nil=>exact ⟨D,rfl,⟨h,rfl,rfl⟩,by simpa using hl,fun _ _=>rfl,by simp⟩
 | cons c r ih=>
  rw [List.flatten_cons,List.length_append] at hr;obtain ⟨e,hL⟩:=Zhk h hs (hc c (List.mem_cons_self ..)) (by rw [ZaS hl];omega);rw [hl,Option.getD_some] at e hL;have hord:=h.ok.ord;have hl':Z1 (putF D.l s (acc++c)) s=some (acc++c):=by rw [ZL hord,if_pos rfl]
  have hcs:Zg (putF D.l s (acc++c))=Zg D.l+c.length:=by
   rw [Z1u hord,hl];simp only [List.length_append];omega
  obtain ⟨D',e',hL',h1,h2,h3⟩:=ih (D:={ D with done:=D.done+1,l:=putF D.l s (acc++c) }) hL.calm hl' (fun d hd=>hc d (List.mem_cons_of_mem _ hd)) (by
   rw [hL.calm.free];rw [h.free] at hr;simp only;rw [hcs]
   omega)
  refine ⟨D',?_,⟨hL'.calm,hL'.cap,?_⟩,?_,?_,?_⟩
  ·rw [Z0O,e,if_neg (by simp)]
   exact e'
  ·rw [hL'.done,List.length_cons]
   simp only;omega
  ·rw [h1,List.flatten_cons,List.append_assoc]
  ·intro x hx
   rw [h2 x hx];show Z1 (putF D.l s (acc++c)) x=_
   rw [ZL hord,if_neg hx]
  ·rw [h3,List.flatten_cons,List.length_append]
   show Zg (putF D.l s (acc++c))+_=_
   rw [hcs];omega
theorem Zir {D:Dk} (h:CalmD D) {s:BA} (hs:Z4 s=true) (hl:Z1 D.l s=none) (cs:List (LU)) (hne:cs≠[]) (hc: ∀c∈cs,c.length≤64) (hr:16+(s.size:Int)+cs.flatten.length≤frD D):
  ∃D',ZH D s cs=(0,D')∧Later D D' cs.length∧Z1 D'.l s=some cs.flatten∧(∀x,x≠s→Z1 D'.l x=Z1 D.l x)∧Zg D'.l=Zg D.l+(16+(s.size:Int)+cs.flatten.length):=by
 cases cs with
 | nil=>exact absurd rfl hne
 | cons c r=>
  rw [List.flatten_cons,List.length_append] at hr;obtain ⟨e,hL⟩:=Zhk h hs (hc c (List.mem_cons_self ..)) (by rw [ZaT hl];omega);rw [hl,Option.getD_none,List.nil_append] at e hL;have hord:=h.ok.ord;have hl':Z1 (putF D.l s c) s=some c:=by rw [ZL hord,if_pos rfl]
  have hcs:Zg (putF D.l s c)=Zg D.l+(16+(s.size:Int)+c.length):=by rw [Z1u hord,hl]
  obtain ⟨D',e',hL',h1,h2,h3⟩:=Zjm (D:={ D with done:=D.done+1,l:=putF D.l s c }) hL.calm hs hl' r (fun d hd=>hc d (List.mem_cons_of_mem _ hd)) (by
   rw [hL.calm.free];rw [h.free] at hr;simp only;rw [hcs]
   omega)
  refine ⟨D',?_,⟨hL'.calm,hL'.cap,?_⟩,?_,?_,?_⟩
  ·rw [Z0O,e,if_neg (by simp)]
   exact e'
  ·rw [hL'.done,List.length_cons]
   simp only;omega
  ·rw [h1,List.flatten_cons]
  ·intro x hx
   rw [h2 x hx];show Z1 (putF D.l s c) x=_
   rw [ZL hord,if_neg hx]
  ·rw [h3,List.flatten_cons,List.length_append]
   show Zg (putF D.l s c)+_=_
   rw [hcs];omega
theorem Zis {D:Dk} (h:CalmD D) {s:BA} (hs:Z4 s=true) {b:LU} (hl:Z1 D.l s=some b):Z10 D s=(0,{ D with done:=D.done+1 }):=by
 unfold Z10 Z0j;rw [if_neg (by rw [if_neg (by rw [hs];decide),if_neg (by rw [h.dark];decide),hl];simp),Z3n h]
theorem Zjn {D:Dk} (h:CalmD D) {s n:BA} (hs:Z4 s=true) (hn:Z4 n=true) (hsz:n.size≤s.size) {b:LU} (hl:Z1 D.l s=some b):
  renD D s n=(0,{ D with done:=D.done+1,l:=putF (Zr D.l s) n b }):=by
 unfold renD Z0j;rw [if_neg (by rw [hs,hn];simp),if_neg (by rw [if_neg (by rw [hs];decide),if_neg (by rw [h.dark];decide),hl];simp),hl,Option.getD_some];unfold Z1J;rw [if_neg (by unfold Z39;cases Z1 D.l n<;>simp only<;>omega),Z3n h]
theorem ZcE {n:BA} (h:Z4 (shd n)=true) (h0:n.size≠0):Z4 n=true:=by
 unfold Z4 at*;simp only [Bool.and_eq_true,decide_eq_true_eq,Bool.not_eq_true'] at*;have h1:=Z0a n;refine ⟨⟨by omega,by omega⟩,?_⟩;have h2:=h.2;unfold shd at h2;rw [ByteArray.data_append,Array.toList_append] at h2;rw [Bool.eq_false_iff] at*;intro h3;exact h2 (by rw [List.contains_iff_mem] at *; exact List.mem_append.2 (.inl h3))
theorem ZdW (n:BA):n≠shd n:=fun e=>by
 have:=Z0a n;rw [←e] at this;omega
theorem ZeN {D:Dk} (h:CalmD D) {n:BA} {b:LU} (hs:Z4 (shd n)=true) (h0:n.size≠0) (hl:Z1 D.l (shd n)=none) (hr:16+((n.size:Int)+1)+b.length≤frD D):
  ∃D',Z20 D n b=(0,D')∧Later D D' ((Zn b).length+2)∧Z1 D'.l n=some b∧Z1 D'.l (shd n)=none∧(∀x,x≠n→x≠shd n→Z1 D'.l x=Z1 D.l x):=by
 have hn:=ZcE hs h0;have hsz:=Z0a n;have hfl:=Z2I b;obtain ⟨D1,e1,L1,l1,o1,c1⟩:=Zir h hs hl (Zn b) (Z43 b) (Z2r b) (by rw [hfl,hsz];omega);rw [hfl] at l1 c1;have k1:=L1.calm;have hord:=k1.ok.ord;have e2:=Zis k1 hs l1;have k2:CalmD { D1 with done:=D1.done+1 }:=⟨by have:=k1.ok.sync (shd n);rw [e2] at this;exact this,k1.left,k1.dark⟩;have e3:=Zjn (D:={ D1 with done:=D1.done+1 }) k2 hs hn (by rw [hsz];omega) l1;have k3:CalmD { D1 with done:=D1.done+1+1,l:=putF (Zr D1.l (shd n)) n b }:=⟨by have:=k2.ok.ren (shd n) n;rw [e3] at this;exact this,k1.left,k1.dark⟩;refine ⟨{ D1 with done:=D1.done+1+1,l:=putF (Zr D1.l (shd n)) n b },?_,⟨k3,L1.cap,?_⟩,?_,?_,?_⟩
 ·unfold Z20
  rw [e1,if_neg (by simp)];unfold lstD;rw [e2,if_neg (by simp)];exact e3
 ·show D1.done+1+1=_
  rw [L1.done];omega
 ·show Z1 (putF (Zr D1.l (shd n)) n b) n=_
  rw [ZL (ZG hord),if_pos rfl]
 ·show Z1 (putF (Zr D1.l (shd n)) n b) (shd n)=_
  rw [ZL (ZG hord),if_neg (fun e=>ZdW n e.symm),Z0y hord,if_pos rfl]
 ·intro x h1 h2
  show Z1 (putF (Zr D1.l (shd n)) n b) x=_
  rw [ZL (ZG hord),if_neg h1,Z0y hord,if_neg h2];exact o1 x h2
theorem Zhl {D:Dk} (h:CalmD D) {s:BA} {b:LU} (hl:Z1 D.l s=some b) (hs:Z4 s=true):remD D s=(0,{ D with done:=D.done+1,l:=Zr D.l s })∧Later D { D with done:=D.done+1,l:=Zr D.l s } 1:=by
 have e:remD D s=(0,{ D with done:=D.done+1,l:=Zr D.l s }):=by
  unfold remD Z0j;rw [if_neg (by rw [if_neg (by rw [hs];decide),if_neg (by rw [h.dark];decide),hl];simp),Z3n h]
 refine ⟨e,⟨?_,h.left,h.dark⟩,rfl,rfl⟩;have:=h.ok.rem s;rw [e] at this;exact this
theorem Z6k {D:Dk} (h:CalmD D) {n:BA} {b:LU} (hl:Z4 (shd n)=true→Z1 D.l (shd n)=none):
  (ZR D n b=(1,D))∨(ZR D n b=(4,D)∧frD D<16+((n.size:Int)+1)+b.length∧Z4 (shd n)=true)∨
  (¬frD D<16+((n.size:Int)+1)+b.length∧Z4 (shd n)=true∧n.size≠0∧ ∃D',ZR D n b=(0,D')∧Later D D' ((Zn b).length+2)∧Z1 D'.l n=some b∧Z1 D'.l (shd n)=none∧(∀x,x≠n→x≠shd n→Z1 D'.l x=Z1 D.l x)):=by
 by_cases hbad:Z4 (shd n)=false∨n.size=0∨ZO n=true
 ·exact .inl (if_pos hbad)
 ·have hs:Z4 (shd n)=true:=by
   cases hB:Z4 (shd n) with
   | true=>rfl
   | false=>exact absurd (.inl hB) hbad
  have h0:n.size≠0:=fun e=>hbad (.inr (.inl e));have hln:=hl hs;have e:ZR D n b=Z2X D n b:=by
   unfold ZR;rw [if_neg hbad,if_neg (by rw [h.dark];decide),if_neg (by rw [hln];decide)]
  rw [e];unfold Z2X
  by_cases hr:frD D<16+((n.size:Int)+1)+b.length
  ·rw [if_pos hr]
   exact .inr (.inl ⟨rfl,hr,hs⟩)
  ·rw [if_neg hr]
   exact .inr (.inr ⟨hr,hs,h0,ZeN h hs h0 hln (by omega)⟩)
end Go.Dol
set_option linter.unusedVariables false
namespace Go.Dol
open Go.RowKit
section
variable {L B:Nat} {D:Dk}
theorem ZeC (l:List Fil) (n:BA) (b:LU):(putF l n b).length=l.length+(match Z1 l n with | none=>1 | some _=>0):=by
 have h1:=(Z2h l n b).length_eq
 cases hl:Z1 l n with
 | none=>
  rw [Z0x hl] at h1;rw [h1]
  rfl
 | some c=>
  have h2:=(Z1f hl).length_eq;simp only [List.length_cons] at h1 h2;rw [h1,h2]
  rfl
theorem Z7S (l:List Fil) (n:BA):(Zr l n).length≤l.length:=by
 cases hl:Z1 l n with
 | none=>rw [Z0x hl];omega
 | some c=>have h2:=(Z1f hl).length_eq;simp only [List.length_cons] at h2;omega
theorem OkG.mono {L' B':Nat} (h:OkG L B D) (hL:L≤L') (hB:B≤B'):OkG L' B' D:=⟨h.ord,h.cap0,h.cap1,h.left0,h.left1,h.names,lT h.len hL,fun f hf=>lT (h.bytes f hf) hB⟩
theorem OkG.look (h:OkG L B D) {n:BA} {b:LU} (hb:Z1 D.l n=some b):b.length≤B:=h.bytes _ ((Zj h.ord).1 hb)
theorem OkG.spend (h:OkG L B D) {l':List Fil} (h1:InOrder l') (h2: ∀f∈l',Z4 f.1=true) (h3:l'.length≤L) (h4: ∀f∈l',f.2.length≤B):OkG L B (ZY D l').2:=by
 have a0:=h.left0;have a1:=h.left1;unfold ZY;split
 ·exact ⟨h.ord,h.cap0,h.cap1,by simp,by simp,h.names,h.len,h.bytes⟩
 ·refine ⟨h1,h.cap0,h.cap1,?_,?_,h2,h3,h4⟩<;>simp only<;>split<;>omega
theorem OkG.app (h:OkG L B D) (n:BA) (b:LU) (hl:Z1 D.l n=none→D.l.length+1≤L) (hb:((Z1 D.l n).getD []++b).length≤B):OkG L B (appD D n b).2:=by
 unfold appD;split
 ·exact h
 ·rename_i h1
  split
  ·exact h
  ·unfold Z1J
   split
   ·exact h
   ·have hn:Z4 n=true:=by
     cases hB:Z4 n with
     | true=>rfl
     | false=>exact absurd (.inr hB) h1
    refine h.spend (Z05 h.ord) (Z4l h.names hn _) ?_ fun f hf=> ?_
    ·rw [ZeC]
     cases hl2:Z1 D.l n with
     | none=>exact hl hl2
     | some c=>exact h.len
    ·rcases Z37 f hf with e | hm
     ·rw [e];exact hb
     ·exact h.bytes f hm
theorem OkG.rem (h:OkG L B D) (n:BA):OkG L B (remD D n).2:=by
 unfold remD;split
 ·exact h
 ·exact h.spend (ZG h.ord) (Z34 h.names n) (lT (Z7S _ _) h.len) fun f hf=>h.bytes f (Z3G f hf)
theorem OkG.sync (h:OkG L B D) (n:BA):OkG L B (Z10 D n).2:=by
 unfold Z10;split
 ·exact h
 ·exact h.spend h.ord h.names h.len h.bytes
theorem OkG.ren (h:OkG L B D) (a b:BA):OkG L B (renD D a b).2:=by
 unfold renD;split
 ·exact h
 ·rename_i h1
  split
  ·exact h
  ·rename_i h2
   obtain ⟨hna,_,c,hc⟩:=Z35 (Decidable.not_not.1 h2);have hnb:Z4 b=true:=by
    cases hB:Z4 b with
    | true=>rfl
    | false=>exact absurd (.inr hB) h1
   unfold Z1J;split
   ·exact h
   ·rw [hc,Option.getD_some]
    refine h.spend (Z05 (ZG h.ord)) (Z4l (Z34 h.names a) hnb _) ?_ fun f hf=> ?_
    ·have h3:=(Z1f hc).length_eq
     have h4:=ZeC (Zr D.l a) b c;have h5:=h.len;simp only [List.length_cons] at h3;rw [h4]
     cases Z1 (Zr D.l a) b with
     | none=>show _+1≤L;omega
     | some c=>show _+0≤L;omega
    ·rcases Z37 f hf with e | hm
     ·rw [e];exact h.look hc
     ·exact h.bytes f (Z3G f hm)
theorem ZiK (D:Dk) (n:BA) (b:LU):(appD D n b).2.l=D.l∨(appD D n b).2.l=putF D.l n ((Z1 D.l n).getD []++b):=by
 unfold appD;split
 ·exact .inl rfl
 ·split
  ·exact .inl rfl
  ·unfold Z1J
   split
   ·exact .inl rfl
   ·unfold ZY
    split
    ·exact .inl rfl
    ·exact .inr rfl
theorem OkG.all (h:OkG L B D) {s:BA}: ∀cs:List (LU),(Z1 D.l s=none→D.l.length+1≤L)→((Z1 D.l s).getD []++cs.flatten).length≤B→OkG L B (ZH D s cs).2:=by
 intro cs
 induction cs generalizing D with
 | nil=>intro _ _;exact h
 | cons c r ih=>
  intro hl hb;have hb':((Z1 D.l s).getD []++c).length≤B:=by
   simp only [List.flatten_cons,List.length_append] at hb ⊢;omega
  have h1:=h.app s c hl hb';unfold ZH;split
  ·exact h1
  ·refine ih h1 ?_ ?_
   ·rcases ZiK D s c with e | e
    ·rw [e];exact hl
    ·rw [e,ZL h.ord,if_pos rfl]
     intro h2;cases h2
   ·rcases ZiK D s c with e | e
    ·rw [e]
     simp only [List.flatten_cons,List.length_append] at hb ⊢;omega
    ·rw [e,ZL h.ord,if_pos rfl,Option.getD_some]
     simp only [List.flatten_cons,List.length_append] at hb ⊢;omega
theorem Z7T (b:LU):(Zn b).flatten.length≤b.length:=by
 rw [Z2I];exact lR _
theorem OkG.pre (h:OkG L B D) {n:BA} {b:LU} (hs:(Z1 D.l (shd n)).isSome=false) (hl:D.l.length+1≤L) (hb:b.length≤B) {pre r:List (LU)} (hc:Zn b=pre++r):OkG L B (ZH D (shd n) pre).2:=by
 have h1:=Z7T b;rw [hc,List.flatten_append,List.length_append] at h1;have hs':Z1 D.l (shd n)=none:=by cases hx:Z1 D.l (shd n) with | none=>rfl | some c=>rw [hx] at hs;cases hs
 exact h.all (s:=shd n) pre (fun _=>hl) (by rw [hs',Option.getD_none,List.nil_append];omega)
theorem OkG.last (h:OkG L B D) (n:BA):OkG L B (lstD D n).2:=by
 unfold lstD;split
 ·exact h.sync _
 ·exact (h.sync _).ren _ _
theorem OkG.laid (h:OkG L B D) (n:BA) (b:LU) (hs:Z1 D.l (shd n)=none) (hl:D.l.length+1≤L) (hb:b.length≤B):OkG L B (Z20 D n b).2:=by
 have h1:=h.all (s:=shd n) (Zn b) (fun _=>hl) (by rw [hs];exact lT (Z7T b) hb);unfold Z20;split
 ·exact h1
 ·exact h1.last n
theorem OkG.tail (h:OkG L B D) (n:BA) (b:LU) (hs:Z1 D.l (shd n)=none) (hl:D.l.length+1≤L) (hb:b.length≤B):OkG L B (Z2X D n b).2:=by
 unfold Z2X;split
 ·exact h
 ·exact h.laid n b hs hl hb
theorem Z7U (h:InOrder D.l) {n:BA} (hz:(remD D n).1=0):Z1 (remD D n).2.l n=none∧(remD D n).2.l=Zr D.l n:=by
 unfold remD at hz ⊢;split
 ·rename_i h1
  rw [if_pos h1] at hz;exact absurd hz h1
 ·rename_i h1
  rw [if_neg h1] at hz;unfold ZY at hz ⊢;split
  ·rename_i h2
   rw [if_pos h2] at hz;cases hz
  ·exact ⟨by show Z1 (Zr D.l n) n=none;rw [Z0y h,if_pos rfl],rfl⟩
theorem OkG.save (h:OkG L B D) (n:BA) (b:LU) (hl:D.l.length+1≤L) (hb:b.length≤B):OkG L B (ZR D n b).2:=by
 unfold ZR;split
 ·exact h
 ·split
  ·exact h
  ·split
   ·split
    ·exact h.rem _
    ·rename_i h1
     obtain ⟨h2,h3⟩:=Z7U h.ord (Decidable.not_not.1 h1);exact (h.rem _).tail n b h2 (by rw [h3];exact lT (Nat.succ_le_succ (Z7S _ _)) hl) hb
   ·rename_i h1
    exact h.tail n b (by cases hs:Z1 D.l (shd n) with | none=>rfl | some c=>rw [hs] at h1;exact absurd rfl h1) hl hb
end
theorem OkD.lenW {D:Dk} (h:OkD D):D.l.length≤68719476736:=by
 have h1:=Z5Z D.l;have h2:=h.room;have h3:=h.cap1;omega
end Go.Dol
set_option linter.unusedVariables false
namespace Go.Dol
open Go.RowKit
structure SvOut (D:Dk) (n:BA) (P:Dk→Prop) (r:Int×Dk):Prop where
 ord:InOrder r.2.l
 oth: ∀x,x≠n→x≠shd n→Z1 r.2.l x=Z1 D.l x
 way:(r.1=0∧P r.2∧r.2.dark=false)∨((r.1=4∧r.2.dark=false∨r.1=5∧r.2.dark=true)∧Z1 r.2.l n=Z1 D.l n)
 calm:D.left= -1→r.1≠5∧r.2.left= -1
theorem SvOut.same {D:Dk} (ho:InOrder D.l) (hd:D.dark=false) (n:BA) (P:Dk→Prop):SvOut D n P (4,D):=
 ⟨ho,fun _ _ _=>rfl,.inr ⟨.inl ⟨rfl,hd⟩,rfl⟩,fun h=>⟨by simp,h⟩⟩
theorem SvOut.spend {D:Dk} (ho:InOrder D.l) (hd:D.dark=false) {l':List Fil} (ho':InOrder l') {n:BA} (hoth: ∀x,x≠n→x≠shd n→Z1 l' x=Z1 D.l x) {P:Dk→Prop} (hP: ∀E:Dk,E.l=l'→P E):SvOut D n P (ZY D l'):=by
 unfold ZY;split
 ·rename_i h0
  exact ⟨ho,fun _ _ _=>rfl,.inr ⟨.inr ⟨rfl,rfl⟩,rfl⟩,fun h=>by rw [h] at h0;cases h0⟩
 ·refine ⟨ho',hoth,.inl ⟨rfl,hP _ rfl,hd⟩,fun h=>⟨by simp,?_⟩⟩
  show (if 0<D.left then D.left-1 else D.left)= -1
  rw [h]
  rfl
theorem SvOut.room {D:Dk} (ho:InOrder D.l) (hd:D.dark=false) {l':List Fil} (ho':InOrder l') {n:BA} (hoth: ∀x,x≠n→x≠shd n→Z1 l' x=Z1 D.l x) {P:Dk→Prop} (hP: ∀E:Dk,E.l=l'→P E) (more:Int):SvOut D n P (Z1J D more l'):=by
 unfold Z1J;split
 ·exact SvOut.same ho hd n P
 ·exact SvOut.spend ho hd ho' hoth hP
theorem SvOut.bind {D:Dk} {n:BA} {P Q:Dk→Prop} {r1 r2:Int×Dk} (h:SvOut D n P r1) (hP: ∀E,P E→Z1 E.l n=Z1 D.l n) (h2:r1.1=0→P r1.2→r1.2.dark=false→SvOut r1.2 n Q r2):SvOut D n Q (if r1.1≠0 then r1 else r2):=by
 split
 ·rename_i h0
  refine ⟨h.ord,h.oth,?_,h.calm⟩;rcases h.way with ⟨e,_⟩ | w
  ·exact absurd e h0
  ·exact .inr w
 ·rename_i h0
  have e0:r1.1=0:=Decidable.not_not.1 h0;rcases h.way with ⟨_,hp,hd⟩ | ⟨⟨e,_⟩ | ⟨e,_⟩,_⟩
  ·have q:=h2 e0 hp hd
   refine ⟨q.ord,fun x a b=>by rw [q.oth x a b,h.oth x a b],?_,fun hl=>q.calm (h.calm hl).2⟩;rcases q.way with w | ⟨w,k⟩
   ·exact .inl w
   ·exact .inr ⟨w,by rw [k,hP _ hp]⟩
  ·rw [e] at e0;cases e0
  ·rw [e] at e0;cases e0
theorem ZhY {D:Dk} (ho:InOrder D.l) (hd:D.dark=false) {n:BA} (hs:Z4 (shd n)=true) {c acc:LU} (hc:c.length≤64) (ha:(Z1 D.l (shd n)).getD []=acc):
  SvOut D n (fun E=>Z1 E.l (shd n)=some (acc++c)∧Z1 E.l n=Z1 D.l n) (appD D (shd n) c):=by
 unfold appD;rw [if_neg (by rw [hs];simp;omega),if_neg (by rw [hd];decide),ha];refine SvOut.room ho hd (Z05 ho) (fun x _ h2=>by rw [ZL ho,if_neg h2]) (fun E hE=> ?_) _;rw [hE,ZL ho,if_pos rfl,ZL ho,if_neg (ZdW n)];exact ⟨rfl,rfl⟩
theorem Zeg {n:BA} (hs:Z4 (shd n)=true) (cs:List (LU)) (hc: ∀c∈cs,c.length≤64): ∀(D:Dk) (acc:LU),InOrder D.l→D.dark=false→(Z1 D.l (shd n)).getD []=acc→
  (cs=[]→Z1 D.l (shd n)=some acc)→SvOut D n (fun E=>Z1 E.l (shd n)=some (acc++cs.flatten)∧Z1 E.l n=Z1 D.l n) (ZH D (shd n) cs):=by
 induction cs with
 | nil=>
  intro D acc ho hd ha hn;exact ⟨ho,fun _ _ _=>rfl,.inl ⟨rfl,⟨by rw [List.flatten_nil,List.append_nil];exact hn rfl,rfl⟩,hd⟩,fun h=>⟨by simp [ZH],h⟩⟩
 | cons c r ih=>
  intro D acc ho hd ha _;rw [Z0O];have h1:=ZhY ho hd hs (hc c (List.mem_cons_self ..)) ha;refine h1.bind (fun E hE=>hE.2) fun h0 hp hd1=> ?_;have h2:=ih (fun d hd=>hc d (List.mem_cons_of_mem _ hd)) (appD D (shd n) c).2 (acc++c) h1.ord hd1 (by rw [hp.1];rfl) fun _=>hp.1;refine ⟨h2.ord,h2.oth,?_,h2.calm⟩;rcases h2.way with ⟨a1,⟨a2,a3⟩,a4⟩ | w
  ·exact .inl ⟨a1,⟨by rw [a2,List.flatten_cons,List.append_assoc],by rw [a3,hp.2]⟩,a4⟩
  ·exact .inr w
theorem Z7m {D:Dk} {s:BA} (hs:Z4 s=true) (hd:D.dark=false) {b:LU} (hl:Z1 D.l s=some b):Z0j D s=0:=by
 unfold Z0j;rw [if_neg (by rw [hs];decide),if_neg (by rw [hd];decide),hl]
 rfl
theorem Zg8 {D:Dk} (ho:InOrder D.l) (hd:D.dark=false) {n:BA} (hs:Z4 (shd n)=true) (hn:Z4 n=true) {b:LU} (hl:Z1 D.l (shd n)=some b):
  SvOut D n (fun E=>Z1 E.l n=some b) (lstD D n):=by
 unfold lstD;have h1:SvOut D n (fun E=>E.l=D.l) (Z10 D (shd n)):=by
  unfold Z10;rw [if_neg (by rw [Z7m hs hd hl];simp)];exact SvOut.spend ho hd ho (fun _ _ _=>rfl) fun E hE=>hE
 refine h1.bind (fun E hE=>by rw [hE]) fun h0 hp hd1=> ?_;have hp':(Z10 D (shd n)).2.l=D.l:=hp;have hl1:Z1 (Z10 D (shd n)).2.l (shd n)=some b:=by rw [hp'];exact hl
 have ho1:=h1.ord;unfold renD;rw [if_neg (by rw [hs,hn];simp),if_neg (by rw [Z7m hs hd1 hl1];simp),hl1,Option.getD_some];refine SvOut.room ho1 hd1 (Z05 (ZG ho1)) (fun x a1 a2=> ?_) (fun E hE=> ?_) _
 ·rw [ZL (ZG ho1),if_neg a1,Z0y ho1,if_neg a2]
 ·rw [hE,ZL (ZG ho1),if_pos rfl]
theorem Zbj {D:Dk} (ho:InOrder D.l) (hd:D.dark=false) (n:BA) (b:LU):
  ((Z4 (shd n)=false∨n.size=0∨ZO n=true)∧ZR D n b=(1,D))∨(Z4 (shd n)=true∧n.size≠0∧ZO n=false∧SvOut D n (fun E=>Z1 E.l n=some b) (ZR D n b)):=by
 by_cases hbad:Z4 (shd n)=false∨n.size=0∨ZO n=true
 ·exact .inl ⟨hbad,if_pos hbad⟩
 ·have hs:Z4 (shd n)=true:=by
   cases hB:Z4 (shd n) with
   | true=>rfl
   | false=>exact absurd (.inl hB) hbad
  have h0:n.size≠0:=fun e=>hbad (.inr (.inl e));have hE:ZO n=false:=by
   cases hB:ZO n with
   | false=>rfl
   | true=>exact absurd (.inr (.inr hB)) hbad
  have hn:=ZcE hs h0;have tail: ∀D1:Dk,InOrder D1.l→D1.dark=false→Z1 D1.l (shd n)=none→SvOut D1 n (fun E=>Z1 E.l n=some b) (Z2X D1 n b):=by
   intro D1 ho1 hd1 hl1;unfold Z2X;split
   ·exact SvOut.same ho1 hd1 n _
   ·unfold Z20
    refine (Zeg hs (Zn b) (Z2r b) D1 [] ho1 hd1 (by rw [hl1];rfl) (fun e=>absurd e (Z43 b))).bind (fun E hE=>hE.2) fun h0 hp hd2=> ?_;have ho2:=(Zeg hs (Zn b) (Z2r b) D1 [] ho1 hd1 (by rw [hl1];rfl) (fun e=>absurd e (Z43 b))).ord;have hp1:=hp.1;rw [List.nil_append,Z2I] at hp1;exact Zg8 ho2 hd2 hs hn hp1
  refine .inr ⟨hs,h0,hE,?_⟩;unfold ZR;rw [if_neg hbad,if_neg (by rw [hd];decide)]
  cases hl:Z1 D.l (shd n) with
  | none=>
   rw [if_neg (by decide)];exact tail D ho hd hl
  | some c=>
   rw [if_pos (by rfl)];have h1:SvOut D n (fun E=>Z1 E.l (shd n)=none∧Z1 E.l n=Z1 D.l n) (remD D (shd n)):=by
    unfold remD;rw [if_neg (by rw [Z7m hs hd hl];simp)];refine SvOut.spend ho hd (ZG ho) (fun x _ a2=>by rw [Z0y ho,if_neg a2]) fun E hE=> ?_;rw [hE,Z0y ho,if_pos rfl,Z0y ho,if_neg (ZdW n)];exact ⟨rfl,rfl⟩
   refine h1.bind (fun E hE=>hE.2) fun h0 hp hd1=> ?_;exact tail _ h1.ord hd1 hp.1
theorem Z9g {l:List Fil} (h:InOrder l):l.Nodup:=List.Pairwise.imp (fun {a b} hab e=>by rw [e] at hab;exact absurd rfl (Z5Y hab)) h
theorem Zbk {l m:List Fil} (hl:InOrder l) (hm:InOrder m) (p:BA→Bool) (h: ∀x,p x=true→Z1 l x=Z1 m x):l.filter (fun f=>p f.1)=m.filter fun f=>p f.1:=by
 refine Zam (List.Pairwise.filter _ hl) (List.Pairwise.filter _ hm) ?_;refine (List.perm_ext_iff_of_nodup ((Z9g hl).filter _) ((Z9g hm).filter _)).2 fun f=> ?_;rw [List.mem_filter,List.mem_filter];refine ⟨fun ⟨h1,h2⟩=>⟨?_,h2⟩,fun ⟨h1,h2⟩=>⟨?_,h2⟩⟩
 ·have e:=(Zj hl (n:=f.1) (b:=f.2)).2 h1
  rw [h f.1 h2] at e;exact (Zj hm).1 e
 ·have e:=(Zj hm (n:=f.1) (b:=f.2)).2 h1
  rw [←h f.1 h2] at e;exact (Zj hl).1 e
end Go.Dol
set_option linter.unusedVariables false
namespace Go.Proofs.YtecpbcmpncgokaaGreat
open Go.RowKit Go.Dol
theorem ZhS (x:Int) (k:Nat) (m:Int) (hm:m=((2^k-1:Nat):Int)) (hk:k≤62):0≤bits .and .i64 x m∧bits .and .i64 x m≤m:=by
 subst hm;have h2:(2:Nat)^k≤2^62:=Nat.pow_le_pow_right (by decide) hk;have hp:0<(2:Nat)^k:=Nat.two_pow_pos k;have hb:(BitVec.ofInt 64 ((2^k-1:Nat):Int)).toNat=2^k-1:=by
  rw [BitVec.ofInt_natCast,BitVec.toNat_ofNat];exact Nat.mod_eq_of_lt (by omega)
 obtain ⟨r,hr⟩: ∃r,r=(BitVec.ofInt 64 x &&& BitVec.ofInt 64 ((2^k-1:Nat):Int)).toNat:=⟨_,rfl⟩;have ha:r≤2^k-1:=by
  rw [hr,BitVec.toNat_and,hb];exact Nat.and_le_right
 have e:bits .and .i64 x ((2^k-1:Nat):Int)=IntKind.i64.wrap (r:Int):=by rw [hr];rfl
 rw [e,qJ _ (by omega)];omega
section
variable {w w':World} {g m:Nat} {D:Dk}
theorem Far.tw {W W':World} {B g m:Nat} {A:OA} {l:LU} (h:Far W B A l) (ht:Tw W W' g m) (hg:Other W B (some g)) (hm:Other W B (some m)):Far W' B A l:=by
 rcases Nat.eq_zero_or_pos l.length with h0 | h0
 ·rw [nZ h0]
  exact Far.nil
 obtain ⟨b,off,e,hb,hc⟩:=h.1.at_ h0;have hs:Z9 A=some b:=by rw [e];rfl
 have hne: ∀k,Other W B (some k)→b≠k:=by
  rintro k hk rfl;obtain ⟨h1,h2⟩:=hk b rfl;rcases h.2 h0 b hs with h3 | ⟨cur,fr,h3⟩
  ·omega
  ·exact h2 cur fr h3
 have hk:=ht.block b hb (hne g hg) (hne m hm);refine ⟨⟨h.1.len,fun _=>⟨b,off,e,Nat.lt_of_lt_of_le hb ht.size,fun j u hu=>(World.cell?_of_block hk).trans (hc j u hu)⟩⟩,fun _ k hk2=> ?_⟩;rw [hs] at hk2;injection hk2 with hk2
 subst hk2;rw [hk];exact h.2 h0 b hs
theorem Dsk.others (h:Dsk w g m D) {B:Nat} (hg:B≤g) (hm:B≤m):Other w B (some g)∧Other w B (some m):=by
 obtain ⟨al,hB,hM,_⟩:=h;refine ⟨Other.blk hB (by decide) hg,fun k hk=> ?_⟩;injection hk with hk
 subst hk;exact ⟨hm,(Other.map hM m rfl).2⟩
theorem Zec {base:Nat} {T:TypeId} {size:Nat} {v:Value} {n:Nat} {xs:List Value} (hD:Dsk w g m D) (ht:Tw w w' g m) (ho:w.ownsRow base T size v n xs) (hT:T≠145):w'.ownsRow base T size v n xs:=by
 refine ⟨ho.1,?_⟩;rcases ho.2 with hn | ⟨k,cap,cur,rfl,hb,hk,rest⟩
 ·exact .inl hn
 ·have hlt:k<w.heap.size:=(Array.getElem?_eq_some_iff.1 hk).1
  obtain ⟨al,hB,hM,_⟩:=hD;have h1:k≠g:=by
   rintro rfl;unfold Blk at hB;rw [hB] at hk;injection hk with hk
   injection hk with _ hk
   exact hT hk.symm
  have h2:k≠m:=by
   rintro rfl;obtain ⟨es,clock,hb2,_⟩:=hM;rw [hb2] at hk;cases hk
  exact .inr ⟨k,cap,cur,rfl,hb,(ht.block k hlt h1 h2).trans hk,rest⟩
end
end Go.Proofs.YtecpbcmpncgokaaGreat
set_option linter.unusedVariables false
namespace Go.Proofs.YtecpbcmpncgokaaGreat
open Go.RowKit Go.Maps Go.Sort Go.Shelf
def Z9u:Go.Shelf.Ren:=⟨fun | 7=>133 | 10=>206 | n=>n,fun | 23=>140 | 26=>9 | 3=>36 | 28=>170 | 0=>0 | 27=>169 | 33=>104 | 4=>4 | n=>n,fun | n=>n⟩
theorem ZiI:Go.Proofs.SlLaysZ.n7 Tryz.prog Z9u:={
  mixed:=by kernel_rfl
  f7:=⟨Tryz.f133.name,by decide,Tryz.func133.trans (congrArg some (by kernel_rfl))⟩
  f10:=⟨Tryz.f206.name,by decide,Tryz.func206.trans (congrArg some (by kernel_rfl))⟩
  t0:=Tryz.underlying0
  a0:=Tryz.isAgg0
  z0:=Tryz.sizeOf0
  v0:=Tryz.zeroValue0
  t4:=Tryz.underlying4
  a4:=Tryz.isAgg4
  z4:=Tryz.sizeOf4
  v4:=Tryz.zeroValue4
  t23:=Tryz.underlying140
  a23:=Tryz.isAgg140
  z23:=Tryz.sizeOf140
  v23:=Tryz.zeroValue140
  t26:=Tryz.underlying9
  a26:=Tryz.isAgg9
  z26:=Tryz.sizeOf9
  v26:=Tryz.zeroValue9
  t27:=Tryz.underlying169
  a27:=Tryz.isAgg169
  z27:=Tryz.sizeOf169
  v27:=Tryz.zeroValue169
  t28:=Tryz.underlying170
  a28:=Tryz.isAgg170
  z28:=Tryz.sizeOf170
  v28:=Tryz.zeroValue170
  t33:=Tryz.underlying104
  a33:=Tryz.isAgg104
  z33:=Tryz.sizeOf104
  v33:=Tryz.zeroValue104 }
def Z6u:Go.Shelf.Ren:=⟨fun | 6=>132 | 8=>114 | 9=>83 | 11=>182 | 13=>155 | 12=>154 | 23=>225 | 24=>226 | 14=>216 | 15=>217 | 16=>218 | 17=>219 | 18=>220 | 19=>221 | 20=>222 | 21=>223 | 22=>224 | 25=>263 | 26=>264 | 27=>265 | 28=>266 | 29=>267 | 30=>268 | 31=>283 | n=>n,fun | 26=>9 | 28=>170 | 24=>38 | 0=>0 | 3=>3 | 37=>202 | 48=>128 | 50=>249 | 4=>4 | 40=>282 | 39=>281 | 45=>209 | 5=>5 | 9=>9 | 51=>313 | 55=>317 | 57=>324 | 58=>234 | 33=>104 | n=>n,fun | n=>n⟩
theorem Zi7:Go.Proofs.SlLaysZ.n6 Tryz.prog Z6u:={
  mixed:=by kernel_rfl
  f6:=⟨Tryz.f132.name,by decide,Tryz.func132.trans (congrArg some (by kernel_rfl))⟩
  f8:=⟨Tryz.f114.name,by decide,Tryz.func114.trans (congrArg some (by kernel_rfl))⟩
  f11:=⟨Tryz.f182.name,by decide,Tryz.func182.trans (congrArg some (by kernel_rfl))⟩
  t0:=Tryz.underlying0
  a0:=Tryz.isAgg0
  z0:=Tryz.sizeOf0
  v0:=Tryz.zeroValue0
  t24:=Tryz.underlying38
  a24:=Tryz.isAgg38
  z24:=Tryz.sizeOf38
  v24:=Tryz.zeroValue38
  t26:=Tryz.underlying9
  a26:=Tryz.isAgg9
  z26:=Tryz.sizeOf9
  v26:=Tryz.zeroValue9
  t28:=Tryz.underlying170
  a28:=Tryz.isAgg170
  z28:=Tryz.sizeOf170
  v28:=Tryz.zeroValue170
  i26:=by kernel_rfl }
def Zfd:Go.Shelf.Ren:=⟨fun | 6=>83 | 8=>155 | 9=>154 | 19=>225 | 20=>226 | 21=>216 | 22=>217 | 23=>218 | 24=>219 | 25=>220 | 26=>221 | 27=>222 | 28=>223 | 29=>224 | 36=>263 | 31=>264 | 32=>265 | 37=>266 | 38=>267 | 39=>268 | 41=>283 | n=>n,fun | 27=>38 | 29=>9 | 3=>3 | 32=>202 | 26=>38 | 0=>0 | 44=>128 | 46=>249 | 4=>4 | 36=>282 | 35=>281 | 41=>209 | 5=>5 | 9=>9 | 53=>313 | 57=>317 | 63=>324 | 64=>234 | n=>n,fun | n=>n⟩
theorem Zem:Go.Proofs.SlLaysM.n6 Tryz.prog Zfd:={
  mixed:=by kernel_rfl
  f6:=⟨Tryz.f83.name,by decide,Tryz.func83.trans (congrArg some (by kernel_rfl))⟩
  f8:=Tryz.func155.trans (congrArg some (by kernel_rfl))
  f9:=⟨Tryz.f154.name,by decide,Tryz.func154.trans (congrArg some (by kernel_rfl))⟩
  f19:=Tryz.func225.trans (congrArg some (by kernel_rfl))
  f20:=Tryz.func226.trans (congrArg some (by kernel_rfl))
  f21:=⟨Tryz.f216.name,by decide,Tryz.func216.trans (congrArg some (by kernel_rfl))⟩
  f22:=⟨Tryz.f217.name,by decide,Tryz.func217.trans (congrArg some (by kernel_rfl))⟩
  f23:=⟨Tryz.f218.name,by decide,Tryz.func218.trans (congrArg some (by kernel_rfl))⟩
  f24:=⟨Tryz.f219.name,by decide,Tryz.func219.trans (congrArg some (by kernel_rfl))⟩
  f25:=⟨Tryz.f220.name,by decide,Tryz.func220.trans (congrArg some (by kernel_rfl))⟩
  f26:=⟨Tryz.f221.name,by decide,Tryz.func221.trans (congrArg some (by kernel_rfl))⟩
  f27:=⟨Tryz.f222.name,by decide,Tryz.func222.trans (congrArg some (by kernel_rfl))⟩
  f28:=⟨Tryz.f223.name,by decide,Tryz.func223.trans (congrArg some (by kernel_rfl))⟩
  f29:=⟨Tryz.f224.name,by decide,Tryz.func224.trans (congrArg some (by kernel_rfl))⟩
  f31:=Tryz.func264.trans (congrArg some (by kernel_rfl))
  f32:=Tryz.func265.trans (congrArg some (by kernel_rfl))
  f36:=⟨Tryz.f263.name,by decide,Tryz.func263.trans (congrArg some (by kernel_rfl))⟩
  f37:=⟨Tryz.f266.name,by decide,Tryz.func266.trans (congrArg some (by kernel_rfl))⟩
  f38:=⟨Tryz.f267.name,by decide,Tryz.func267.trans (congrArg some (by kernel_rfl))⟩
  f39:=⟨Tryz.f268.name,by decide,Tryz.func268.trans (congrArg some (by kernel_rfl))⟩
  f41:=⟨Tryz.f283.name,by decide,Tryz.func283.trans (congrArg some (by kernel_rfl))⟩
  t0:=Tryz.underlying0
  a0:=Tryz.isAgg0
  z0:=Tryz.sizeOf0
  v0:=Tryz.zeroValue0
  t3:=Tryz.underlying3
  a3:=Tryz.isAgg3
  z3:=Tryz.sizeOf3
  v3:=Tryz.zeroValue3
  t4:=Tryz.underlying4
  a4:=Tryz.isAgg4
  z4:=Tryz.sizeOf4
  v4:=Tryz.zeroValue4
  t5:=Tryz.underlying5
  a5:=Tryz.isAgg5
  z5:=Tryz.sizeOf5
  v5:=Tryz.zeroValue5
  t9:=Tryz.underlying9
  a9:=Tryz.isAgg9
  z9:=Tryz.sizeOf9
  v9:=Tryz.zeroValue9
  t26:=Tryz.underlying38
  a26:=Tryz.isAgg38
  z26:=Tryz.sizeOf38
  v26:=Tryz.zeroValue38
  t27:=Tryz.underlying38
  a27:=Tryz.isAgg38
  z27:=Tryz.sizeOf38
  v27:=Tryz.zeroValue38
  t29:=Tryz.underlying9
  a29:=Tryz.isAgg9
  z29:=Tryz.sizeOf9
  v29:=Tryz.zeroValue9
  t32:=Tryz.underlying202
  a32:=Tryz.isAgg202
  z32:=Tryz.sizeOf202
  v32:=Tryz.zeroValue202
  t35:=Tryz.underlying281
  a35:=Tryz.isAgg281
  z35:=Tryz.sizeOf281
  v35:=Tryz.zeroValue281
  t36:=Tryz.underlying282
  a36:=Tryz.isAgg282
  z36:=Tryz.sizeOf282
  v36:=Tryz.zeroValue282
  t41:=Tryz.underlying209
  a41:=Tryz.isAgg209
  z41:=Tryz.sizeOf209
  v41:=Tryz.zeroValue209
  t44:=Tryz.underlying128
  a44:=Tryz.isAgg128
  z44:=Tryz.sizeOf128
  v44:=Tryz.zeroValue128
  t46:=Tryz.underlying249
  a46:=Tryz.isAgg249
  z46:=Tryz.sizeOf249
  v46:=Tryz.zeroValue249
  t53:=Tryz.underlying313
  a53:=Tryz.isAgg313
  z53:=Tryz.sizeOf313
  v53:=Tryz.zeroValue313
  t57:=Tryz.underlying317
  a57:=Tryz.isAgg317
  z57:=Tryz.sizeOf317
  v57:=Tryz.zeroValue317
  t63:=Tryz.underlying324
  a63:=Tryz.isAgg324
  z63:=Tryz.sizeOf324
  v63:=Tryz.zeroValue324
  t64:=Tryz.underlying234
  a64:=Tryz.isAgg234
  z64:=Tryz.sizeOf234
  v64:=Tryz.zeroValue234 }
theorem ZiY (m:Nat):AnyZ.SortsIn Tryz.prog Z6u Fence.wide m:=
  ⟨fun blk off cap ss W hH hblk hsz=>callsIn_wide.2 (AnyM.slices_Sort_string Zem blk off cap ss W hH hblk hsz),
   fun p cap W=>callsIn_wide.2 (AnyM.slices_Sort_string_none Zem p cap W)⟩
theorem ZbF (mb:Option Nat) (W:World):CallsIn Fence.wide 5 Tryz.prog 133 #[.map mb] W fun e w'=>e= .returned (.func (.func 206) #[] #[.pointer (some ⟨W.heap.size,0,none⟩)])∧w'=W.alloc (.cells #[.map mb] 140):=
  AnyZ.keys_in ZiI Fence.wide 5 trivial rfl mb W
set_option maxHeartbeats 1000000 in
theorem Z7C {H:Type} (b nn:Nat) (D0:DataW H) (R:Value→Option (DataW H×List MemPlace)) (w:World) (hown:w.ownsMap Tryz.prog 9 R b nn D0) (hmax:Maps.size D0≤maxLen) (hbytes:Maps.size D0*16≤140737488355328):
    CallsIn Fence.wide 5 Tryz.prog 132 #[.func (.func 206) #[] #[.pointer (some ⟨w.heap.size,0,none⟩)]] (w.alloc (.cells #[.map (some b)] 140)) fun e w'=> ∃(v:Value) (ss:List (LU)),e= .returned v∧ss.Perm (strKeys D0)∧
      w'.ownsRow (w.alloc (.cells #[.map (some b)] 140)).heap.size 9 1 v ss.length ((ss.mergeSort (fun x y=>decide (x≤y))).map encStr)∧(v= .slice none 0 0↔ss=[])∧Below (w.alloc (.cells #[.map (some b)] 140)).heap.size (w.alloc (.cells #[.map (some b)] 140)) w':=by
  have hbl:=hown.lt;have hseq:SeqGives Fence.wide 2 Tryz.prog 206 #[.pointer (some ⟨w.heap.size,0,none⟩)] encStr (fun ss=>ss.Perm (strKeys D0)) (Maps.size D0) (w.alloc (.cells #[.map (some b)] 140)):=
    AnyZ.keys_gives (ρ:=Z9u) { ZiI with } Fence.wide _ trivial rfl (by omega) w.heap.size b nn D0 _ (by simp) (by simp) (by
      obtain ⟨es,clock,hb,Ft,hs,hD⟩:=hown
      exact ⟨es,clock,(Below.heap_alloc _ _ b hbl).trans hb,Ft,hs,hD⟩)
  exact AnyZ.sorted_in Zi7 Fence.wide 5 trivial trivial trivial trivial rfl (by omega) (ZiY _) (enters_of Tryz.func83 (by kernel_rfl) rfl) 206 #[.pointer (some ⟨w.heap.size,0,none⟩)] trivial (enters_of Tryz.func206 (by kernel_rfl) rfl) _ _ hmax hbytes _ hseq
end Go.Proofs.YtecpbcmpncgokaaGreat
