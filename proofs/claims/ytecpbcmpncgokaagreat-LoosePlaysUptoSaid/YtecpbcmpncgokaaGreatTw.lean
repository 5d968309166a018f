/- What layer 'pack' computes, in plain Lean: how each object is kept behind the one ahead, a pack's bytes, and which pack bytes are. No program is in sight. Conditions: none. What a save does, in plain Lean. No program is in sight. Conditions: none beyond what each lemma names. A map that is known by its entries, as the library's laws want it. Conditions: at most 2^47 entries. A pack in memory: its block, its row of parts, its map of bytes, its ids; the walks of Has, Get, Parts. Conditions: at most 2^40 parts. What layer 'loose' computes, in plain Lean: each object in a file of its own. No program is in sight. Conditions: none. Files as they lie in memory, one behind the other: of two cells each. Conditions: none beyond what each law names. A disk whose files are in order and fit memory, whatever they cost together. No program is in sight. Conditions: none beyond what each law names. What  -/
import Derived.Test.YtecpbcmpncgokaaGreatSumA
import Derived.Test.YtecpbcmpncgokaaGreatPressA
import Derived.Test.YtecpbcmpncgokaaGreatCodeA
import Derived.Test.YtecpbcmpncgokaaGreatWordsA
import Derived.Deep.QuietTactic
import Derived.BigQuiet
import Derived.Test.YtecpbcmpncgokaaGreatObjA
import Derived.Test.YtecpbcmpncgokaaGreatShort
import Derived.Test.YtecpbcmpncgokaaGreatColl
import Derived.Deep.Onto
import Derived.Shelf.SlIter.Nil
import Derived.Test.YtecpbcmpncgokaaGreatHexLaw
import Derived.Test.YtecpbcmpncgokaaGreatDiskLaw
import Derived.Test.YtecpbcmpncgokaaGreatDisk3
set_option linter.unusedVariables false
namespace Go.Dol
def ZB (ge:BA→BA→Bool) (raw:LU):Bool:=(decO ge raw).isSome
theorem Z64 (size:Nat): ∀(f:Nat) (out p r:LU),Z2Z size f out p=some r→out.length≤size→p.length≤19*(size-out.length)∧r.length=size
  | f,out,[],r,h,ho=>by
    have h':(if out.length=size then some out else none)=some r:=by cases f<;>exact h
    split at h'
    · rename_i e;injection h' with h';subst h';exact ⟨by simp,e⟩
    · cases h'
  | 0,out,c::q,r,h,ho=>by cases h
  | f+1,out,c::q,r,h,ho=>by
    unfold Z2Z at h
    cases ht:Z7 (c::q) with
    | none=>rw [ht] at h;cases h
    | some x=>
      obtain ⟨t,rest⟩:=x;have h9:=ZC ht;have hn:=Za 8 t (by have:=h9.2;unfold Ze at this;omega);have hlen:(c::q).length=(num t).length+rest.length:=by rw [h9.1,List.length_append]
      rw [ht] at h;simp only at h;split at h
      · split at h
        · rename_i h2
          have:=Z64 size f _ _ _ h (by rw [List.length_append,List.length_take];omega);rw [List.length_append,List.length_take,List.length_drop] at this;omega
        · cases h
      · cases hd:Z7 rest with
        | none=>rw [hd] at h;cases h
        | some y=>
          obtain ⟨d,rest2⟩:=y;have h8:=ZC hd;have hm:=Za 8 d (by have:=h8.2;unfold Ze at this;omega);have hlen2:rest.length=(num d).length+rest2.length:=by rw [h8.1,List.length_append]
          rw [hd] at h;simp only at h;split at h
          · rename_i h2
            have:=Z64 size f _ _ _ h (by rw [Z2b];omega);rw [Z2b] at this;omega
          · cases h
theorem Z8X {p r:LU} {most:Int} (h:Z1v p most=some r):p.length≤19*r.length+9∧(r.length:Int)≤most:=by
  unfold Z1v at h
  cases ht:Z7 p with
  | none=>rw [ht] at h;cases h
  | some x=>
    obtain ⟨size,rest⟩:=x;have h9:=ZC ht;have hn:=Za 8 size (by have:=h9.2;unfold Ze at this;omega);have hlen:p.length=(num size).length+rest.length:=by rw [h9.1,List.length_append]
    rw [ht] at h;simp only at h;split at h
    · rename_i h2
      have:=Z64 size _ [] rest r h (by simp);simp only [List.length_nil] at this;omega
    · cases h
end Go.Dol
set_option linter.unusedVariables false
namespace Go.Dol
open Go.RowKit
def shd (n:BA):BA:=n++⟨#[126]⟩
def Z07 (n:BA):Bool:=decide (n.data.toList.getLast?=some 126)
def Zn (D:Dk) (s:BA):List (LU)→Int×Dk
 | []=>(0,D)
 | c::r=>if (appD D s c).1≠0 then appD D s c else Zn (appD D s c).2 s r
def lstD (D:Dk) (n:BA):Int×Dk:=if (ZM D (shd n)).1≠0 then ZM D (shd n) else renD (ZM D (shd n)).2 (shd n) n
def Z20 (D:Dk) (n:BA) (b:LU):Int×Dk:=if (Zn D (shd n) (Zf b)).1≠0 then Zn D (shd n) (Zf b) else lstD (Zn D (shd n) (Zf b)).2 n
def Z1w (D:Dk) (n:BA) (b:LU):Int×Dk:=if frD D<16+((n.size:Int)+1)+b.length then (4,D) else Z20 D n b
def ZP (D:Dk) (n:BA) (b:LU):Int×Dk:=
 if Z8 (shd n)=false∨n.size=0∨Z07 n=true then (1,D) else if D.dark=true then (5,D) else
  if (Z4 D.l (shd n)).isSome=true then (if (remD D (shd n)).1≠0 then remD D (shd n) else Z1w (remD D (shd n)).2 n b) else Z1w D n b
theorem Z1i (D:Dk) (s:BA) (c:LU) (r:List (LU)):Zn D s (c::r)=if (appD D s c).1≠0 then appD D s c else Zn (appD D s c).2 s r:=rfl
theorem Z0d (n:BA):(shd n).size=n.size+1:=by
 unfold shd;rw [ByteArray.size_append]
 rfl
theorem Z1j {D:Dk} {s:BA} {l:List (LU)} {c:LU} (h:(Zn D s l).1=0):Zn D s (l++[c])=appD (Zn D s l).2 s c:=by
 induction l generalizing D with
 | nil=>
  show (if (appD D s c).1≠0 then appD D s c else (0,(appD D s c).2))=appD D s c
  split
  ·rfl
  ·rename_i h1
   have h2:(appD D s c).1=0:=Decidable.not_not.1 h1;rw [←h2]
 | cons d r ih=>
  rw [List.cons_append,Z1i];rw [Z1i] at h ⊢
  by_cases h1:(appD D s d).1≠0
  ·rw [if_pos h1] at h
   exact absurd h h1
  ·rw [if_neg h1] at h
   rw [if_neg h1,if_neg h1];exact ih h
theorem Z1k {D:Dk} {s:BA} {l r:List (LU)} (h:(Zn D s l).1≠0):Zn D s (l++r)=Zn D s l:=by
 induction l generalizing D with
 | nil=>exact absurd rfl h
 | cons d q ih=>
  rw [List.cons_append,Z1i];rw [Z1i] at h ⊢
  by_cases h1:(appD D s d).1≠0
  ·rw [if_pos h1,if_pos h1]
  ·rw [if_neg h1] at h
   rw [if_neg h1,if_neg h1];exact ih h
end Go.Dol
set_option linter.unusedVariables false
namespace Go.Dol
open Go.RowKit Go.MapKept Go.Maps
open Go.WideElems (Fit rd rg)
theorem MapL.owns {P:Program} {k:TypeId} {w:World} {B:Nat} {al:List (Value×Value)} (hk:P.underlying k=some .string) (h:MapL P k w B al) (hl:al.length≤maxLen):
  ∃D0:DataW Unit,w.ownsMap P k (fun _=>some (.nil,[])) B al.length D0∧Maps.size D0=al.length∧ ∀ns:List BA,al.map Prod.fst=ns.map Value.string→(strKeys D0).Perm (ns.map fun n=>n.data.toList):=by
 obtain ⟨es,clock,hb,hS,hK,hal⟩:=h;have hlen:es.toList.length=al.length:=by rw [←hal,List.length_map]
 have hsz:es.size=al.length:=by rw [←hlen,Array.length_toList]
 have hp:=WideShapes.sorted_perm (H:=Unit) (es.toList.map (rg P k fun _=>some (.nil,[])));refine ⟨_,⟨es,clock,hb,⟨by omega,hS,fun x hx=> ?_⟩,by omega,rfl⟩,?_,fun ns hns=> ?_⟩
 ·obtain ⟨l,hl⟩:=hK x hx
  exact ⟨(l,.nil),by simp [rd,hl]⟩
 ·rw [size_eq,hp.length_eq,List.length_map,hlen]
 ·show (((es.toList.map (rg P k fun _=>some (.nil,[]))).foldr DataW.insert []).map fun p=>strOf p.1).Perm _
  refine (hp.map _).trans ?_;rw [List.map_map];have e:es.toList.map ((fun p=>strOf p.1)∘rg P k fun _=>some ((.nil:DataW Unit),[]))=ns.map fun n=>n.data.toList:=by
   have h1:es.toList.map (fun e=>e.key)=ns.map Value.string:=by
    rw [←hns,←hal,List.map_map]
    rfl
   have h2: ∀(l:List MapEntry) (m:List BA),(∀x∈l,∃t,keyOf P k x.key=some t)→l.map (fun e=>e.key)=m.map Value.string→l.map ((fun p=>strOf p.1)∘rg P k fun _=>some ((.nil:DataW Unit),[]))=m.map fun n=>n.data.toList:=by
    intro l
    induction l with
    | nil=>
     intro m _ hm
     cases m with
     | nil=>rfl
     | cons a b=>cases hm
    | cons x r ih=>
     intro m hx hm
     cases m with
     | nil=>cases hm
     | cons a b=>
      simp only [List.map_cons,List.cons.injEq] at hm ⊢;refine ⟨?_,ih b (fun y hy=>hx y (List.mem_cons_of_mem _ hy)) hm.2⟩;obtain ⟨t,ht⟩:=hx x (List.mem_cons_self ..);obtain ⟨s,hs1,hs2,_⟩:=Maps.keyOf_str hk ht;have hv:a=⟨s.toArray⟩:=by
       have:=hm.1.symm.trans hs1;injection this
      simp only [Function.comp,rg,rd,ht,hs2,Option.bind_some,Option.map_some,Option.getD_some,strOf];rw [hv]
   exact h2 _ _ hK h1
  rw [e]
end Go.Dol
set_option linter.unusedVariables false
namespace Go.Dol
open Go.RowKit
def idS (l:LU):BA:=⟨l.toArray⟩
end Go.Dol
namespace Go.Proofs.YtecpbcmpncgokaaGreat
open Go.RowKit Go.Dol
section
variable {w w':World} {base g:Nat} {A:OA} {c m:Nat} {d:Int} {vi:Value}
def Ze9 (w:World) (r:Except Int (LU)) (e:Ending) (w':World):Prop:=
 Below w.heap.size w w'∧match r with
  | .error k=>e= .returned (.tuple #[.slice none 0 0,.int .i64 k])
  | .ok p=> ∃(q:LU) (A:OA) (c:Nat),Hid (q=p)∧e= .returned (.tuple #[.slice A q.length c,.int .i64 0])∧w'.ownsRow w.heap.size 5 1 (.slice A q.length c) q.length (bc q)∧q.length≤c∧c≤maxLen
end
end Go.Proofs.YtecpbcmpncgokaaGreat
set_option linter.unusedVariables false
namespace Go.Dol
def Zd (id:BA):BA:=⟨#[111,47]⟩++⟨(Z1x id.data.toList).toArray⟩
theorem Z0N (id:BA):(Zd id).data.toList=111::47::Z1x id.data.toList:=by
 unfold Zd;rw [ByteArray.data_append];simp
theorem Z0q (id:BA):(Zd id).size=2+2*id.size:=by
 have h:=congrArg List.length (Z0N id);rw [List.length_cons,List.length_cons,Z0T] at h;have h1:(Zd id).data.toList.length=(Zd id).size:=by rw [Array.length_toList];rfl
 have h2:id.data.toList.length=id.size:=by rw [Array.length_toList];rfl
 omega
theorem Z5M {a b:BA} (h:Zd a=Zd b):a=b:=by
 have h1:=Z0N a;rw [h,Z0N b] at h1;injection h1 with _ h1
 injection h1 with _ h1
 exact Z4U (ZcM h1).symm
def getO (ge:BA→BA→Bool) (D:Dk) (id:BA):Except Int (LU):=
 if id.size≠32 then .error 1 else match Z4 D.l (Zd id) with
  | none=> .error 6
  | some b=>match Z1v b 2097152 with
   | none=> .error 2
   | some raw=>if Z21 raw=id.data.toList∧ZB ge raw=true then .ok raw else .error 2
def idO (raw:LU):BA:=idS (Z21 raw)
theorem Z2p (raw:LU):(idO raw).size=32:=by
 show (Z21 raw).toArray.size=32
 rw [List.size_toArray,Z9O]
def putO (ge:BA→BA→Bool) (D:Dk) (raw:LU):Except Int BA×Dk:=
 if ZB ge raw=false then (.error 1,D) else
 match getO ge D (idO raw) with
 | .ok b=>if b=raw then (.ok (idO raw),D) else (.error 7,D)
 | .error k=>if k=2 then (.error 2,D) else
  if (ZP D (Zd (idO raw)) (Zp raw)).1≠0 then (.error (ZP D (Zd (idO raw)) (Zp raw)).1,(ZP D (Zd (idO raw)) (Zp raw)).2) else (.ok (idO raw),(ZP D (Zd (idO raw)) (Zp raw)).2)
def dropO (D:Dk) (id:BA):Int×Dk:=if id.size≠32 then (1,D) else if (Z4 D.l (Zd id)).isSome=true then remD D (Zd id) else (6,D)
def Z03 (n:BA):Option BA:=
 match n.data.toList with
 | 111::47::t=>match Zx t with
  | none=>none
  | some q=>if q.length=32 then some (idS q) else none
 | _=>none
def idsO (D:Dk):List BA:=(D.l.map (·.1)).filterMap Z03
end Go.Dol
set_option linter.unusedVariables false
namespace Go.Proofs.YtecpbcmpncgokaaGreat
open Go.RowKit Go.Dol
structure FilA where
 n:BA
 b:LU
 A:OA
 c:Nat
def FilA.f (x:FilA):Fil:=(x.n,x.b)
def FilA.cells (x:FilA):List Value:=[.string x.n,.slice x.A x.b.length x.c]
def fc (l:List FilA):List Value:=l.flatMap FilA.cells
theorem Z1B (l:List FilA):(fc l).length=l.length*2:=by
 induction l with
 | nil=>rfl
 | cons x r ih=>
  show (x.cells++fc r).length=_
  rw [List.length_append,ih,List.length_cons];show 2+_=_
  omega
theorem Z2S (a b:List FilA):fc (a++b)=fc a++fc b:=by simp [fc]
theorem Z7d (l:List FilA): ∀u∈fc l,u.oneCell'=true:=by
 intro u hu;obtain ⟨x,_,hx⟩:=List.mem_flatMap.1 hu;rcases List.mem_cons.1 hx with rfl | hx
 ·rfl
 ·obtain rfl:=List.mem_singleton.1 hx
  rfl
theorem Z0X {l:List FilA} {k:Nat} {x:FilA} (h:l[k]?=some x):(fc l)[k*2]?=some (.string x.n)∧(fc l)[k*2+1]?=some (.slice x.A x.b.length x.c):=by
 induction l generalizing k with
 | nil=>cases h
 | cons y r ih=>
  cases k with
  | zero=>
   have:y=x:=by simpa using h
   subst this;exact ⟨rfl,rfl⟩
  | succ k=>
   have h':r[k]?=some x:=by simpa using h
   have e1:(fc (y::r))[(k+1)*2]?=(fc r)[k*2]?:=by
    show (y.cells++fc r)[_]?=_
    rw [List.getElem?_append_right (by show 2≤_;omega)]
    congr 1
    show (k+1)*2-2=_
    omega
   have e2:(fc (y::r))[(k+1)*2+1]?=(fc r)[k*2+1]?:=by
    show (y.cells++fc r)[_]?=_
    rw [List.getElem?_append_right (by show 2≤_;omega)]
    congr 1
    show (k+1)*2+1-2=_
    omega
   rw [e1,e2];exact ih h'
theorem Zck (l:List FilA) (k:Nat):(fc l).take (k*2)=fc (l.take k):=by
 induction l generalizing k with
 | nil=>simp [fc]
 | cons y r ih=>
  cases k with
  | zero=>simp [fc]
  | succ k=>
   rw [List.take_succ_cons];show (y.cells++fc r).take _=y.cells++fc (r.take k)
   rw [List.take_append,←ih]
   congr 1
   ·exact List.take_of_length_le (by show 2≤_;omega)
   ·congr 1
    show (k+1)*2-2=_
    omega
theorem Z9f (l:List FilA) (k:Nat):(fc l).drop (k*2)=fc (l.drop k):=by
 induction l generalizing k with
 | nil=>simp [fc]
 | cons y r ih=>
  cases k with
  | zero=>simp
  | succ k=>
   rw [List.drop_succ_cons,←ih];show (y.cells++fc r).drop _=_
   rw [List.drop_append];rw [List.drop_eq_nil_of_le (by show 2≤_;omega),List.nil_append]
   congr 1
   show (k+1)*2-2=_
   omega
theorem Rd.fileT (w:World) (T:TypeId) (x:FilA):Rd (w.alloc (.cells #[.string x.n,.slice x.A x.b.length x.c] T)) (w.heap.size+1) 2 (some ⟨w.heap.size,0,none⟩) 1 (fc [x]):=by
 have hB:=Blk.new w T x.cells;refine ⟨rfl,fun _=>⟨w.heap.size,0,rfl,by omega,fun j u hu=> ?_⟩⟩;rw [Nat.zero_add];have e:fc [x]=x.cells:=by simp [fc]
 rw [e] at hu;exact (hB.cell j).trans hu
def Fls8 (w:World) (B:Nat) (l:List FilA):Prop:=∀ x∈l,Far w B x.A x.b∧x.b.length≤x.c∧x.c≤maxLen
theorem Fls8.below {w w':World} {B:Nat} {l:List FilA} (h:Fls8 w B l) (hb:Below w.heap.size w w'):Fls8 w' B l:=fun x hx=>⟨(h x hx).1.below hb,(h x hx).2⟩
theorem Fls8.keep {w w':World} {B:Nat} {l:List FilA} (h:Fls8 w B l) {row:Option Nat} (hg:w.grownBy w' row) (hr:Other w B row):Fls8 w' B l:=fun x hx=>⟨(h x hx).1.keep hg hr,(h x hx).2⟩
theorem Far.more {w:World} {B B':Nat} {A:OA} {l:LU} (h:Far w B A l) (hB:B≤B'):Far w B' A l:=⟨h.1,fun h0 k hk=>by
 rcases h.2 h0 k hk with h1 | h1
 ·exact .inl (by omega)
 ·exact .inr h1⟩
theorem Fls8.more {w:World} {B B':Nat} {l:List FilA} (h:Fls8 w B l) (hB:B≤B'):Fls8 w B' l:=fun x hx=>⟨(h x hx).1.more hB,(h x hx).2⟩
end Go.Proofs.YtecpbcmpncgokaaGreat
namespace Go.Dol
def ZJ:List Fil→List Fil→Option (List Fil)
 | acc,[]=>some acc
 | acc,f::r=>if Z8 f.1=false∨(Z4 acc f.1).isSome=true then none else ZJ (putF acc f.1 f.2) r
theorem Z3a {acc l r:List Fil} (h:ZJ acc l=none):ZJ acc (l++r)=none:=by
 induction l generalizing acc with
 | nil=>cases h
 | cons f q ih=>
  unfold ZJ at h;show (if Z8 f.1=false∨(Z4 acc f.1).isSome=true then none else ZJ (putF acc f.1 f.2) (q++r))=none
  split at h
  ·rw [if_pos (by assumption)]
  ·rw [if_neg (by assumption)]
   exact ih h
theorem Z7e {acc l m:List Fil} (h:ZJ acc l=some m) (f:Fil):ZJ acc (l++[f])=if Z8 f.1=false∨(Z4 m f.1).isSome=true then none else some (putF m f.1 f.2):=by
 induction l generalizing acc with
 | nil=>
  have:acc=m:=by simpa [ZJ] using h
  subst this
  rfl
 | cons g q ih=>
  unfold ZJ at h;show (if Z8 g.1=false∨(Z4 acc g.1).isSome=true then none else ZJ (putF acc g.1 g.2) (q++[f]))=_
  split at h
  ·cases h
  ·rw [if_neg (by assumption)]
   exact ih h
theorem Z3L {acc l m:List Fil} (h:ZJ acc l=some m) (ho:InOrder acc):InOrder m:=by
 induction l generalizing acc with
 | nil=>
  have:acc=m:=by simpa [ZJ] using h
  subst this;exact ho
 | cons g q ih=>
  unfold ZJ at h;split at h
  ·cases h
  ·exact ih h (Z0g ho)
theorem Zad {acc l m:List Fil} (h:ZJ acc l=some m) (ho: ∀f∈acc,Z8 f.1=true): ∀f∈m,Z8 f.1=true:=by
 induction l generalizing acc with
 | nil=>
  have:acc=m:=by simpa [ZJ] using h
  subst this;exact ho
 | cons g q ih=>
  unfold ZJ at h;split at h
  ·cases h
  ·rename_i h1
   refine ih h (Z2P ho ?_ _)
   cases hB:Z8 g.1 with
   | true=>rfl
   | false=>exact absurd (.inl hB) h1
def Z1o (cap:Int) (l:List Fil):Option Dk×Int:=
 if cap<0∨1099511627776<cap then (none,1) else match ZJ [] l with
  | none=>(none,1)
  | some m=>if frD ⟨cap,m,0,-1,false⟩<0 then (none,4) else (some ⟨cap,m,0,-1,false⟩,0)
end Go.Dol
set_option linter.unusedVariables false
namespace Go.Dol
open Go.RowKit
structure OkL (D:Dk):Prop where
 ord:InOrder D.l
 cap0:0≤D.cap
 cap1:D.cap≤1099511627776
 names: ∀f∈D.l,Z8 f.1=true
 len:D.l.length≤3518437208880
 small: ∀f∈D.l,f.2.length≤140737488355328
theorem OkW.toL {D:Dk} (h:OkW D):OkL D:=⟨h.ord,h.cap0,h.cap1,h.names,h.len,fun f hf=>by have:=h.bytes f hf;omega⟩
end Go.Dol
namespace Go.Proofs.YtecpbcmpncgokaaGreat
open Go.RowKit Go.Dol
end Go.Proofs.YtecpbcmpncgokaaGreat
set_option linter.unusedVariables false
namespace Go.Dol
open Go.RowKit
theorem Z9J (l:LU):(Z0t l).flatten=l:=by
 induction h:l.length using Nat.strongRecOn generalizing l with
 | ind n ih=>
  rw [Z0t];split
  ·rename_i h0
   rw [nZ h0]
   rfl
  ·rename_i h0
   rw [List.flatten_cons,ih (l.drop 64).length (by rw [List.length_drop];omega) _ rfl,List.take_append_drop]
theorem Z4N (l:LU):(Zf l).flatten=l:=by
 unfold Zf;split
 ·rename_i h0
  rw [nZ h0]
  rfl
 ·exact Z9J l
theorem Z8o (l:LU): ∀c∈Z0t l,c.length≤64:=by
 induction h:l.length using Nat.strongRecOn generalizing l with
 | ind n ih=>
  intro c hc;rw [Z0t] at hc;split at hc
  ·cases hc
  ·rcases List.mem_cons.1 hc with rfl | hc
   ·rw [List.length_take];omega
   ·exact ih (l.drop 64).length (by rw [List.length_drop];omega) _ rfl c hc
theorem Z7K (l:LU): ∀c∈Zf l,c.length≤64:=by
 unfold Zf;split
 ·intro c hc
  rw [List.mem_singleton.1 hc];simp
 ·exact Z8o l
theorem Zbd (l:LU):(Z0t l).length=(l.length+63)/64:=by
 induction h:l.length using Nat.strongRecOn generalizing l with
 | ind n ih=>
  rw [Z0t];split
  ·simp;omega
  ·rw [List.length_cons,ih (l.drop 64).length (by rw [List.length_drop];omega) _ rfl,List.length_drop]
   omega
theorem Z9K (l:LU):(Zf l).length=max 1 ((l.length+63)/64):=by
 unfold Zf;split
 ·rename_i h0
  rw [h0]
  rfl
 ·rw [Zbd]
  omega
theorem Zbe (l:LU):Zf l≠[]:=by
 intro h;have:=Z9K l;rw [h] at this;simp at this;omega
structure CalmD (D:Dk):Prop where
 ok:OkD D
 left:D.left= -1
 dark:D.dark=false
structure Later (D D':Dk) (k:Nat):Prop where
 calm:CalmD D'
 cap:D'.cap=D.cap
 done:D'.done=D.done+k
theorem Z3u {D:Dk} (h:CalmD D) (l':List Fil):Zw D l'=(0,{ D with done:=D.done+1,l:=l' }):=by
 unfold Zw;rw [h.left]
 rfl
theorem CalmD.free {D:Dk} (h:CalmD D):frD D=D.cap-Zo D.l:=h.ok.free
theorem Zev {D:Dk} (h:CalmD D) {s:BA} (hs:Z8 s=true) {c:LU} (hc:c.length≤64) (hr:ZX D s c≤frD D):
  appD D s c=(0,{ D with done:=D.done+1,l:=putF D.l s ((Z4 D.l s).getD []++c) })∧Later D { D with done:=D.done+1,l:=putF D.l s ((Z4 D.l s).getD []++c) } 1:=by
 have e:appD D s c=(0,{ D with done:=D.done+1,l:=putF D.l s ((Z4 D.l s).getD []++c) }):=by
  unfold appD;rw [if_neg (by rw [hs];simp;omega),if_neg (by rw [h.dark];decide)];unfold Z1c;rw [if_neg (by omega),Z3u h]
 refine ⟨e,⟨?_,h.left,h.dark⟩,rfl,rfl⟩;have:=h.ok.app s c;rw [e] at this;exact this
theorem Z9L {D:Dk} {s:BA} {c b:LU} (h:Z4 D.l s=some b):ZX D s c=c.length:=by unfold ZX;rw [h];simp
theorem Z9M {D:Dk} {s:BA} {c:LU} (h:Z4 D.l s=none):ZX D s c=c.length+(16+(s.size:Int)):=by unfold ZX;rw [h]
theorem Zgi {D:Dk} (h:CalmD D) {s:BA} (hs:Z8 s=true) {acc:LU} (hl:Z4 D.l s=some acc) (cs:List (LU)) (hc: ∀c∈cs,c.length≤64) (hr:(cs.flatten.length:Int)≤frD D):
  ∃D',Zn D s cs=(0,D')∧Later D D' cs.length∧Z4 D'.l s=some (acc++cs.flatten)∧(∀x,x≠s→Z4 D'.l x=Z4 D.l x)∧Zo D'.l=Zo D.l+cs.flatten.length:=by
 induction cs generalizing D acc with
 | nil=>exact ⟨D,rfl,⟨h,rfl,rfl⟩,by simpa using hl,fun _ _=>rfl,by simp⟩
 | cons c r ih=>
  rw [List.flatten_cons,List.length_append] at hr;obtain ⟨e,hL⟩:=Zev h hs (hc c (List.mem_cons_self ..)) (by rw [Z9L hl];omega);rw [hl,Option.getD_some] at e hL;have hord:=h.ok.ord;have hl':Z4 (putF D.l s (acc++c)) s=some (acc++c):=by rw [Z0i hord,if_pos rfl]
  have hcs:Zo (putF D.l s (acc++c))=Zo D.l+c.length:=by
   rw [Z1z hord,hl];simp only [List.length_append];omega
  obtain ⟨D',e',hL',h1,h2,h3⟩:=ih (D:={ D with done:=D.done+1,l:=putF D.l s (acc++c) }) hL.calm hl' (fun d hd=>hc d (List.mem_cons_of_mem _ hd)) (by
   rw [hL.calm.free];rw [h.free] at hr;simp only;rw [hcs]
   omega)
  refine ⟨D',?_,⟨hL'.calm,hL'.cap,?_⟩,?_,?_,?_⟩
  ·rw [Z1i,e,if_neg (by simp)]
   exact e'
  ·rw [hL'.done,List.length_cons]
   simp only;omega
  ·rw [h1,List.flatten_cons,List.append_assoc]
  ·intro x hx
   rw [h2 x hx];show Z4 (putF D.l s (acc++c)) x=_
   rw [Z0i hord,if_neg hx]
  ·rw [h3,List.flatten_cons,List.length_append]
   show Zo (putF D.l s (acc++c))+_=_
   rw [hcs];omega
theorem Zfw {D:Dk} (h:CalmD D) {s:BA} (hs:Z8 s=true) (hl:Z4 D.l s=none) (cs:List (LU)) (hne:cs≠[]) (hc: ∀c∈cs,c.length≤64) (hr:16+(s.size:Int)+cs.flatten.length≤frD D):
  ∃D',Zn D s cs=(0,D')∧Later D D' cs.length∧Z4 D'.l s=some cs.flatten∧(∀x,x≠s→Z4 D'.l x=Z4 D.l x)∧Zo D'.l=Zo D.l+(16+(s.size:Int)+cs.flatten.length):=by
 cases cs with
 | nil=>exact absurd rfl hne
 | cons c r=>
  rw [List.flatten_cons,List.length_append] at hr;obtain ⟨e,hL⟩:=Zev h hs (hc c (List.mem_cons_self ..)) (by rw [Z9M hl];omega);rw [hl,Option.getD_none,List.nil_append] at e hL;have hord:=h.ok.ord;have hl':Z4 (putF D.l s c) s=some c:=by rw [Z0i hord,if_pos rfl]
  have hcs:Zo (putF D.l s c)=Zo D.l+(16+(s.size:Int)+c.length):=by rw [Z1z hord,hl]
  obtain ⟨D',e',hL',h1,h2,h3⟩:=Zgi (D:={ D with done:=D.done+1,l:=putF D.l s c }) hL.calm hs hl' r (fun d hd=>hc d (List.mem_cons_of_mem _ hd)) (by
   rw [hL.calm.free];rw [h.free] at hr;simp only;rw [hcs]
   omega)
  refine ⟨D',?_,⟨hL'.calm,hL'.cap,?_⟩,?_,?_,?_⟩
  ·rw [Z1i,e,if_neg (by simp)]
   exact e'
  ·rw [hL'.done,List.length_cons]
   simp only;omega
  ·rw [h1,List.flatten_cons]
  ·intro x hx
   rw [h2 x hx];show Z4 (putF D.l s c) x=_
   rw [Z0i hord,if_neg hx]
  ·rw [h3,List.flatten_cons,List.length_append]
   show Zo (putF D.l s c)+_=_
   rw [hcs];omega
theorem Zfx {D:Dk} (h:CalmD D) {s:BA} (hs:Z8 s=true) {b:LU} (hl:Z4 D.l s=some b):ZM D s=(0,{ D with done:=D.done+1 }):=by
 unfold ZM ZZ;rw [if_neg (by rw [if_neg (by rw [hs];decide),if_neg (by rw [h.dark];decide),hl];simp),Z3u h]
theorem Zgj {D:Dk} (h:CalmD D) {s n:BA} (hs:Z8 s=true) (hn:Z8 n=true) (hsz:n.size≤s.size) {b:LU} (hl:Z4 D.l s=some b):
  renD D s n=(0,{ D with done:=D.done+1,l:=putF (Zi D.l s) n b }):=by
 unfold renD ZZ;rw [if_neg (by rw [hs,hn];simp),if_neg (by rw [if_neg (by rw [hs];decide),if_neg (by rw [h.dark];decide),hl];simp),hl,Option.getD_some];unfold Z1c;rw [if_neg (by unfold Z1O;cases Z4 D.l n<;>simp only<;>omega),Z3u h]
theorem Zew {n:BA} (h:Z8 (shd n)=true) (h0:n.size≠0):Z8 n=true:=by
 unfold Z8 at*;simp only [Bool.and_eq_true,decide_eq_true_eq,Bool.not_eq_true'] at*;have h1:=Z0d n;refine ⟨⟨by omega,by omega⟩,?_⟩;have h2:=h.2;unfold shd at h2;rw [ByteArray.data_append,Array.toList_append] at h2;rw [Bool.eq_false_iff] at*;intro h3;exact h2 (by rw [List.contains_iff_mem] at *; exact List.mem_append.2 (.inl h3))
theorem Zgk (n:BA):n≠shd n:=fun e=>by
 have:=Z0d n;rw [←e] at this;omega
theorem ZcA {D:Dk} (h:CalmD D) {n:BA} {b:LU} (hs:Z8 (shd n)=true) (h0:n.size≠0) (hl:Z4 D.l (shd n)=none) (hr:16+((n.size:Int)+1)+b.length≤frD D):
  ∃D',Z20 D n b=(0,D')∧Later D D' ((Zf b).length+2)∧Z4 D'.l n=some b∧Z4 D'.l (shd n)=none∧(∀x,x≠n→x≠shd n→Z4 D'.l x=Z4 D.l x):=by
 have hn:=Zew hs h0;have hsz:=Z0d n;have hfl:=Z4N b;obtain ⟨D1,e1,L1,l1,o1,c1⟩:=Zfw h hs hl (Zf b) (Zbe b) (Z7K b) (by rw [hfl,hsz];omega);rw [hfl] at l1 c1;have k1:=L1.calm;have hord:=k1.ok.ord;have e2:=Zfx k1 hs l1;have k2:CalmD { D1 with done:=D1.done+1 }:=⟨by have:=k1.ok.sync (shd n);rw [e2] at this;exact this,k1.left,k1.dark⟩;have e3:=Zgj (D:={ D1 with done:=D1.done+1 }) k2 hs hn (by rw [hsz];omega) l1;have k3:CalmD { D1 with done:=D1.done+1+1,l:=putF (Zi D1.l (shd n)) n b }:=⟨by have:=k2.ok.ren (shd n) n;rw [e3] at this;exact this,k1.left,k1.dark⟩;refine ⟨{ D1 with done:=D1.done+1+1,l:=putF (Zi D1.l (shd n)) n b },?_,⟨k3,L1.cap,?_⟩,?_,?_,?_⟩
 ·unfold Z20
  rw [e1,if_neg (by simp)];unfold lstD;rw [e2,if_neg (by simp)];exact e3
 ·show D1.done+1+1=_
  rw [L1.done];omega
 ·show Z4 (putF (Zi D1.l (shd n)) n b) n=_
  rw [Z0i (ZI hord),if_pos rfl]
 ·show Z4 (putF (Zi D1.l (shd n)) n b) (shd n)=_
  rw [Z0i (ZI hord),if_neg (fun e=>Zgk n e.symm),Z1b hord,if_pos rfl]
 ·intro x h1 h2
  show Z4 (putF (Zi D1.l (shd n)) n b) x=_
  rw [Z0i (ZI hord),if_neg h1,Z1b hord,if_neg h2];exact o1 x h2
theorem Zgl {D:Dk} (h:CalmD D) {s:BA} {b:LU} (hl:Z4 D.l s=some b) (hs:Z8 s=true):remD D s=(0,{ D with done:=D.done+1,l:=Zi D.l s })∧Later D { D with done:=D.done+1,l:=Zi D.l s } 1:=by
 have e:remD D s=(0,{ D with done:=D.done+1,l:=Zi D.l s }):=by
  unfold remD ZZ;rw [if_neg (by rw [if_neg (by rw [hs];decide),if_neg (by rw [h.dark];decide),hl];simp),Z3u h]
 refine ⟨e,⟨?_,h.left,h.dark⟩,rfl,rfl⟩;have:=h.ok.rem s;rw [e] at this;exact this
theorem Zdj {D:Dk} (h:CalmD D) {n:BA} {b:LU} (hl:Z8 (shd n)=true→Z4 D.l (shd n)=none):
  (ZP D n b=(1,D))∨(ZP D n b=(4,D)∧frD D<16+((n.size:Int)+1)+b.length∧Z8 (shd n)=true)∨
  (¬frD D<16+((n.size:Int)+1)+b.length∧Z8 (shd n)=true∧n.size≠0∧ ∃D',ZP D n b=(0,D')∧Later D D' ((Zf b).length+2)∧Z4 D'.l n=some b∧Z4 D'.l (shd n)=none∧(∀x,x≠n→x≠shd n→Z4 D'.l x=Z4 D.l x)):=by
 by_cases hbad:Z8 (shd n)=false∨n.size=0∨Z07 n=true
 ·exact .inl (if_pos hbad)
 ·have hs:Z8 (shd n)=true:=by
   cases hB:Z8 (shd n) with
   | true=>rfl
   | false=>exact absurd (.inl hB) hbad
  have h0:n.size≠0:=fun e=>hbad (.inr (.inl e));have hln:=hl hs;have e:ZP D n b=Z1w D n b:=by
   unfold ZP;rw [if_neg hbad,if_neg (by rw [h.dark];decide),if_neg (by rw [hln];decide)]
  rw [e];unfold Z1w
  by_cases hr:frD D<16+((n.size:Int)+1)+b.length
  ·rw [if_pos hr]
   exact .inr (.inl ⟨rfl,hr,hs⟩)
  ·rw [if_neg hr]
   exact .inr (.inr ⟨hr,hs,h0,ZcA h hs h0 hln (by omega)⟩)
end Go.Dol
set_option linter.unusedVariables false
namespace Go.Dol
open Go.RowKit
section
variable {L B:Nat} {D:Dk}
theorem Z3n (l:List Fil) (n:BA) (b:LU):(putF l n b).length=l.length+(match Z4 l n with | none=>1 | some _=>0):=by
 have h1:=(Z2o l n b).length_eq
 cases hl:Z4 l n with
 | none=>
  rw [Z0h hl] at h1;rw [h1]
  rfl
 | some c=>
  have h2:=(Z0x hl).length_eq;simp only [List.length_cons] at h1 h2;rw [h1,h2]
  rfl
theorem Z5w (l:List Fil) (n:BA):(Zi l n).length≤l.length:=by
 cases hl:Z4 l n with
 | none=>rw [Z0h hl];omega
 | some c=>have h2:=(Z0x hl).length_eq;simp only [List.length_cons] at h2;omega
theorem OkG.mono {L' B':Nat} (h:OkG L B D) (hL:L≤L') (hB:B≤B'):OkG L' B' D:=⟨h.ord,h.cap0,h.cap1,h.left0,h.left1,h.names,lT h.len hL,fun f hf=>lT (h.bytes f hf) hB⟩
theorem OkG.look (h:OkG L B D) {n:BA} {b:LU} (hb:Z4 D.l n=some b):b.length≤B:=h.bytes _ ((Zu h.ord).1 hb)
theorem OkG.spend (h:OkG L B D) {l':List Fil} (h1:InOrder l') (h2: ∀f∈l',Z8 f.1=true) (h3:l'.length≤L) (h4: ∀f∈l',f.2.length≤B):OkG L B (Zw D l').2:=by
 have a0:=h.left0;have a1:=h.left1;unfold Zw;split
 ·exact ⟨h.ord,h.cap0,h.cap1,by simp,by simp,h.names,h.len,h.bytes⟩
 ·refine ⟨h1,h.cap0,h.cap1,?_,?_,h2,h3,h4⟩<;>simp only<;>split<;>omega
theorem OkG.app (h:OkG L B D) (n:BA) (b:LU) (hl:Z4 D.l n=none→D.l.length+1≤L) (hb:((Z4 D.l n).getD []++b).length≤B):OkG L B (appD D n b).2:=by
 unfold appD;split
 ·exact h
 ·rename_i h1
  split
  ·exact h
  ·unfold Z1c
   split
   ·exact h
   ·have hn:Z8 n=true:=by
     cases hB:Z8 n with
     | true=>rfl
     | false=>exact absurd (.inr hB) h1
    refine h.spend (Z0g h.ord) (Z2P h.names hn _) ?_ fun f hf=> ?_
    ·rw [Z3n]
     cases hl2:Z4 D.l n with
     | none=>exact hl hl2
     | some c=>exact h.len
    ·rcases Z38 f hf with e | hm
     ·rw [e];exact hb
     ·exact h.bytes f hm
theorem OkG.rem (h:OkG L B D) (n:BA):OkG L B (remD D n).2:=by
 unfold remD;split
 ·exact h
 ·exact h.spend (ZI h.ord) (Z36 h.names n) (lT (Z5w _ _) h.len) fun f hf=>h.bytes f (Z2R f hf)
theorem OkG.sync (h:OkG L B D) (n:BA):OkG L B (ZM D n).2:=by
 unfold ZM;split
 ·exact h
 ·exact h.spend h.ord h.names h.len h.bytes
theorem OkG.ren (h:OkG L B D) (a b:BA):OkG L B (renD D a b).2:=by
 unfold renD;split
 ·exact h
 ·rename_i h1
  split
  ·exact h
  ·rename_i h2
   obtain ⟨hna,_,c,hc⟩:=Z1A (Decidable.not_not.1 h2);have hnb:Z8 b=true:=by
    cases hB:Z8 b with
    | true=>rfl
    | false=>exact absurd (.inr hB) h1
   unfold Z1c;split
   ·exact h
   ·rw [hc,Option.getD_some]
    refine h.spend (Z0g (ZI h.ord)) (Z2P (Z36 h.names a) hnb _) ?_ fun f hf=> ?_
    ·have h3:=(Z0x hc).length_eq
     have h4:=Z3n (Zi D.l a) b c;have h5:=h.len;simp only [List.length_cons] at h3;rw [h4]
     cases Z4 (Zi D.l a) b with
     | none=>show _+1≤L;omega
     | some c=>show _+0≤L;omega
    ·rcases Z38 f hf with e | hm
     ·rw [e];exact h.look hc
     ·exact h.bytes f (Z2R f hm)
theorem OkG.cut (h:OkG L B D) {k:Int} (hk:k≤9223372036854775807):OkG L B (cutD D k).2:=by
 unfold cutD;split
 ·exact h
 ·simp only
  split
  ·exact h
  ·exact ⟨h.ord,h.cap0,h.cap1,by simp only;omega,hk,h.names,h.len,h.bytes⟩
theorem OkG.on (h:OkG L B D):OkG L B (onD D):=⟨h.ord,h.cap0,h.cap1,by simp [onD],by simp [onD],h.names,h.len,h.bytes⟩
theorem ZfI (D:Dk) (n:BA) (b:LU):(appD D n b).2.l=D.l∨(appD D n b).2.l=putF D.l n ((Z4 D.l n).getD []++b):=by
 unfold appD;split
 ·exact .inl rfl
 ·split
  ·exact .inl rfl
  ·unfold Z1c
   split
   ·exact .inl rfl
   ·unfold Zw
    split
    ·exact .inl rfl
    ·exact .inr rfl
theorem OkG.all (h:OkG L B D) {s:BA}: ∀cs:List (LU),(Z4 D.l s=none→D.l.length+1≤L)→((Z4 D.l s).getD []++cs.flatten).length≤B→OkG L B (Zn D s cs).2:=by
 intro cs
 induction cs generalizing D with
 | nil=>intro _ _;exact h
 | cons c r ih=>
  intro hl hb;have hb':((Z4 D.l s).getD []++c).length≤B:=by
   simp only [List.flatten_cons,List.length_append] at hb ⊢;omega
  have h1:=h.app s c hl hb';unfold Zn;split
  ·exact h1
  ·refine ih h1 ?_ ?_
   ·rcases ZfI D s c with e | e
    ·rw [e];exact hl
    ·rw [e,Z0i h.ord,if_pos rfl]
     intro h2;cases h2
   ·rcases ZfI D s c with e | e
    ·rw [e]
     simp only [List.flatten_cons,List.length_append] at hb ⊢;omega
    ·rw [e,Z0i h.ord,if_pos rfl,Option.getD_some]
     simp only [List.flatten_cons,List.length_append] at hb ⊢;omega
theorem Z53 (b:LU):(Zf b).flatten.length≤b.length:=by
 rw [Z4N];exact lR _
theorem OkG.pre (h:OkG L B D) {n:BA} {b:LU} (hs:(Z4 D.l (shd n)).isSome=false) (hl:D.l.length+1≤L) (hb:b.length≤B) {pre r:List (LU)} (hc:Zf b=pre++r):OkG L B (Zn D (shd n) pre).2:=by
 have h1:=Z53 b;rw [hc,List.flatten_append,List.length_append] at h1;have hs':Z4 D.l (shd n)=none:=by cases hx:Z4 D.l (shd n) with | none=>rfl | some c=>rw [hx] at hs;cases hs
 exact h.all (s:=shd n) pre (fun _=>hl) (by rw [hs',Option.getD_none,List.nil_append];omega)
theorem OkG.last (h:OkG L B D) (n:BA):OkG L B (lstD D n).2:=by
 unfold lstD;split
 ·exact h.sync _
 ·exact (h.sync _).ren _ _
theorem OkG.laid (h:OkG L B D) (n:BA) (b:LU) (hs:Z4 D.l (shd n)=none) (hl:D.l.length+1≤L) (hb:b.length≤B):OkG L B (Z20 D n b).2:=by
 have h1:=h.all (s:=shd n) (Zf b) (fun _=>hl) (by rw [hs];exact lT (Z53 b) hb);unfold Z20;split
 ·exact h1
 ·exact h1.last n
theorem OkG.tail (h:OkG L B D) (n:BA) (b:LU) (hs:Z4 D.l (shd n)=none) (hl:D.l.length+1≤L) (hb:b.length≤B):OkG L B (Z1w D n b).2:=by
 unfold Z1w;split
 ·exact h
 ·exact h.laid n b hs hl hb
theorem Z5x (h:InOrder D.l) {n:BA} (hz:(remD D n).1=0):Z4 (remD D n).2.l n=none∧(remD D n).2.l=Zi D.l n:=by
 unfold remD at hz ⊢;split
 ·rename_i h1
  rw [if_pos h1] at hz;exact absurd hz h1
 ·rename_i h1
  rw [if_neg h1] at hz;unfold Zw at hz ⊢;split
  ·rename_i h2
   rw [if_pos h2] at hz;cases hz
  ·exact ⟨by show Z4 (Zi D.l n) n=none;rw [Z1b h,if_pos rfl],rfl⟩
theorem OkG.save (h:OkG L B D) (n:BA) (b:LU) (hl:D.l.length+1≤L) (hb:b.length≤B):OkG L B (ZP D n b).2:=by
 unfold ZP;split
 ·exact h
 ·split
  ·exact h
  ·split
   ·split
    ·exact h.rem _
    ·rename_i h1
     obtain ⟨h2,h3⟩:=Z5x h.ord (Decidable.not_not.1 h1);exact (h.rem _).tail n b h2 (by rw [h3];exact lT (Nat.succ_le_succ (Z5w _ _)) hl) hb
   ·rename_i h1
    exact h.tail n b (by cases hs:Z4 D.l (shd n) with | none=>rfl | some c=>rw [hs] at h1;exact absurd rfl h1) hl hb
end
end Go.Dol
set_option linter.unusedVariables false
namespace Go.Dol
open Go.RowKit
theorem Z8w {l:List Fil} (h:InOrder l):l.Nodup:=List.Pairwise.imp (fun {a b} hab e=>by rw [e] at hab;exact absurd rfl (Z7b hab)) h
theorem Za3 {l m:List Fil} (hl:InOrder l) (hm:InOrder m) (p:BA→Bool) (h: ∀x,p x=true→Z4 l x=Z4 m x):l.filter (fun f=>p f.1)=m.filter fun f=>p f.1:=by
 refine Z9e (List.Pairwise.filter _ hl) (List.Pairwise.filter _ hm) ?_;refine (List.perm_ext_iff_of_nodup ((Z8w hl).filter _) ((Z8w hm).filter _)).2 fun f=> ?_;rw [List.mem_filter,List.mem_filter];refine ⟨fun ⟨h1,h2⟩=>⟨?_,h2⟩,fun ⟨h1,h2⟩=>⟨?_,h2⟩⟩
 ·have e:=(Zu hl (n:=f.1) (b:=f.2)).2 h1
  rw [h f.1 h2] at e;exact (Zu hm).1 e
 ·have e:=(Zu hm (n:=f.1) (b:=f.2)).2 h1
  rw [←h f.1 h2] at e;exact (Zu hl).1 e
end Go.Dol
set_option linter.unusedVariables false
namespace Go.Proofs.YtecpbcmpncgokaaGreat
open Go.RowKit Go.Dol
theorem ZeP (x:Int) (k:Nat) (m:Int) (hm:m=((2^k-1:Nat):Int)) (hk:k≤62):0≤bits .and .i64 x m∧bits .and .i64 x m≤m:=by
 subst hm;have h2:(2:Nat)^k≤2^62:=Nat.pow_le_pow_right (by decide) hk;have hp:0<(2:Nat)^k:=Nat.two_pow_pos k;have hb:(BitVec.ofInt 64 ((2^k-1:Nat):Int)).toNat=2^k-1:=by
  rw [BitVec.ofInt_natCast,BitVec.toNat_ofNat];exact Nat.mod_eq_of_lt (by omega)
 obtain ⟨r,hr⟩: ∃r,r=(BitVec.ofInt 64 x &&& BitVec.ofInt 64 ((2^k-1:Nat):Int)).toNat:=⟨_,rfl⟩;have ha:r≤2^k-1:=by
  rw [hr,BitVec.toNat_and,hb];exact Nat.and_le_right
 have e:bits .and .i64 x ((2^k-1:Nat):Int)=IntKind.i64.wrap (r:Int):=by rw [hr];rfl
 rw [e,qJ _ (by omega)];omega
theorem Blk.tw {w w':World} {g m x:Nat} {T:TypeId} {cs:List Value} (h:Blk w x T cs) (ht:Tw w w' g m) (h1:x≠g) (h2:x≠m):Blk w' x T cs:=(ht.block x h.lt h1 h2).trans h
section
variable {w w':World} {g m:Nat} {D:Dk}
theorem Far.tw {W W':World} {B g m:Nat} {A:OA} {l:LU} (h:Far W B A l) (ht:Tw W W' g m) (hg:Other W B (some g)) (hm:Other W B (some m)):Far W' B A l:=by
 rcases Nat.eq_zero_or_pos l.length with h0 | h0
 ·rw [nZ h0]
  exact Far.nil
 obtain ⟨b,off,e,hb,hc⟩:=h.1.at_ h0;have hs:Zl A=some b:=by rw [e];rfl
 have hne: ∀k,Other W B (some k)→b≠k:=by
  rintro k hk rfl;obtain ⟨h1,h2⟩:=hk b rfl;rcases h.2 h0 b hs with h3 | ⟨cur,fr,h3⟩
  ·omega
  ·exact h2 cur fr h3
 have hk:=ht.block b hb (hne g hg) (hne m hm);refine ⟨⟨h.1.len,fun _=>⟨b,off,e,Nat.lt_of_lt_of_le hb ht.size,fun j u hu=>(World.cell?_of_block hk).trans (hc j u hu)⟩⟩,fun _ k hk2=> ?_⟩;rw [hs] at hk2;injection hk2 with hk2
 subst hk2;rw [hk];exact h.2 h0 b hs
theorem Dsk.others (h:Dsk w g m D) {B:Nat} (hg:B≤g) (hm:B≤m):Other w B (some g)∧Other w B (some m):=by
 obtain ⟨al,hB,hM,_⟩:=h;refine ⟨Other.blk hB (by decide) hg,fun k hk=> ?_⟩;injection hk with hk
 subst hk;exact ⟨hm,(Other.map hM m rfl).2⟩
theorem Zgr {base:Nat} {T:TypeId} {size:Nat} {v:Value} {n:Nat} {xs:List Value} (hD:Dsk w g m D) (ht:Tw w w' g m) (ho:w.ownsRow base T size v n xs) (hT:T≠145):w'.ownsRow base T size v n xs:=by
 refine ⟨ho.1,?_⟩;rcases ho.2 with hn | ⟨k,cap,cur,rfl,hb,hk,rest⟩
 ·exact .inl hn
 ·have hlt:k<w.heap.size:=(Array.getElem?_eq_some_iff.1 hk).1
  obtain ⟨al,hB,hM,_⟩:=hD;have h1:k≠g:=by
   rintro rfl;unfold Blk at hB;rw [hB] at hk;injection hk with hk
   injection hk with _ hk
   exact hT hk.symm
  have h2:k≠m:=by
   rintro rfl;obtain ⟨es,clock,hb2,_⟩:=hM;rw [hb2] at hk;cases hk
  exact .inr ⟨k,cap,cur,rfl,hb,(ht.block k hlt h1 h2).trans hk,rest⟩
theorem Dsk.offRows (hD:Dsk w g m D):Other w 0 (some g)∧Other w 0 (some m):=by
 obtain ⟨al,hB,hM,_⟩:=hD;exact ⟨Other.blk hB (by decide) (zL _),Other.map hM⟩
theorem Fls8.tw {l:List FilA} (hD:Dsk w g m D) (ht:Tw w w' g m) (h:Fls8 w 0 l):Fls8 w' 0 l:=fun x hx=>⟨(h x hx).1.tw ht hD.offRows.1 hD.offRows.2,(h x hx).2⟩
end
end Go.Proofs.YtecpbcmpncgokaaGreat
