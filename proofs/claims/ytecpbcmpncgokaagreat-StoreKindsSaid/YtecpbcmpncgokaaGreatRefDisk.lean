/- What a save leaves, in plain Lean. No program is in sight. Conditions: as each lemma names: a disk in good order, its power on, no cut to come. What keeps a disk in good order, whatever its files cost together: commands, saves, sweeps. No program is in sight. Conditions: as each lemma names. What a save leaves wherever the power goes, in plain Lean. No program is in sight. Conditions: files in order; the power is on. What a disk's turning leaves as it lies: bytes, rows, files. Conditions: none beyond what each law names. The library's contracts on slices.Sorted(maps.Keys(m)), at this seat. Conditions: as the library's. The walk of the layer 'disk': its names, in order. Conditions: a disk in good order. The walks of the document's 'disk', its first part: names, how its disk lies, where a name stands. Conditions: a disk in good order. -/
import Derived.Test.YtecpbcmpncgokaaGreatOkL
import Derived.Test.YtecpbcmpncgokaaGreatShort
import Derived.Test.YtecpbcmpncgokaaGreatDisk2
import Derived.Shelf.SlIter.Nil
import Derived.Shelf.SortM.Plain
import Derived.Shelf.SortM.SortNone
import Derived.Ground.GgzProg
import Derived.Ground.SlgmProg
import Derived.Test.YtecpbcmpncgokaaGreatRows
import Derived.Test.YtecpbcmpncgokaaGreatDiskLaw
import Derived.Test.YtecpbcmpncgokaaGreatShelfA
import Derived.Laws.Cover1
import Derived.Deep.QuietTactic
import Derived.BigQuiet
import Derived.Test.YtecpbcmpncgokaaGreatWordsA
import Derived.Deep.Onto
import Derived.Deep.RegionHeld3
set_option linter.unusedVariables false
namespace Go.Dol
open Go.RowKit
theorem ZaB (l:LU):(Z0n l).flatten=l:=by
 induction h:l.length using Nat.strongRecOn generalizing l with
 | ind n ih=>
  rw [Z0n];split
  ·rename_i h0
   rw [nZ h0]
   rfl
  ·rename_i h0
   rw [List.flatten_cons,ih (l.drop 64).length (by rw [List.length_drop];omega) _ rfl,List.take_append_drop]
theorem Z2B (l:LU):(Zl l).flatten=l:=by
 unfold Zl;split
 ·rename_i h0
  rw [nZ h0]
  rfl
 ·exact ZaB l
theorem Z8K (l:LU): ∀c∈Z0n l,c.length≤64:=by
 induction h:l.length using Nat.strongRecOn generalizing l with
 | ind n ih=>
  intro c hc;rw [Z0n] at hc;split at hc
  ·cases hc
  ·rcases List.mem_cons.1 hc with rfl | hc
   ·rw [List.length_take];omega
   ·exact ih (l.drop 64).length (by rw [List.length_drop];omega) _ rfl c hc
theorem Z2m (l:LU): ∀c∈Zl l,c.length≤64:=by
 unfold Zl;split
 ·intro c hc
  rw [List.mem_singleton.1 hc];simp
 ·exact Z8K l
theorem Zcg (l:LU):(Z0n l).length=(l.length+63)/64:=by
 induction h:l.length using Nat.strongRecOn generalizing l with
 | ind n ih=>
  rw [Z0n];split
  ·simp;omega
  ·rw [List.length_cons,ih (l.drop 64).length (by rw [List.length_drop];omega) _ rfl,List.length_drop]
   omega
theorem ZaC (l:LU):(Zl l).length=max 1 ((l.length+63)/64):=by
 unfold Zl;split
 ·rename_i h0
  rw [h0]
  rfl
 ·rw [Zcg]
  omega
theorem Z3Y (l:LU):Zl l≠[]:=by
 intro h;have:=ZaC l;rw [h] at this;simp at this;omega
structure CalmD (D:Dk):Prop where
 ok:OkD D
 left:D.left= -1
 dark:D.dark=false
structure Later (D D':Dk) (k:Nat):Prop where
 calm:CalmD D'
 cap:D'.cap=D.cap
 done:D'.done=D.done+k
theorem Z3g {D:Dk} (h:CalmD D) (l':List Fil):ZY D l'=(0,{ D with done:=D.done+1,l:=l' }):=by
 unfold ZY;rw [h.left]
 rfl
theorem CalmD.free {D:Dk} (h:CalmD D):frD D=D.cap-ZC D.l:=h.ok.free
theorem ZgR {D:Dk} (h:CalmD D) {s:BA} (hs:Z7 s=true) {c:LU} (hc:c.length≤64) (hr:Z0l D s c≤frD D):
  appD D s c=(0,{ D with done:=D.done+1,l:=putF D.l s ((Z2 D.l s).getD []++c) })∧Later D { D with done:=D.done+1,l:=putF D.l s ((Z2 D.l s).getD []++c) } 1:=by
 have e:appD D s c=(0,{ D with done:=D.done+1,l:=putF D.l s ((Z2 D.l s).getD []++c) }):=by
  unfold appD;rw [if_neg (by rw [hs];simp;omega),if_neg (by rw [h.dark];decide)];unfold Z1D;rw [if_neg (by omega),Z3g h]
 refine ⟨e,⟨?_,h.left,h.dark⟩,rfl,rfl⟩;have:=h.ok.app s c;rw [e] at this;exact this
theorem ZaD {D:Dk} {s:BA} {c b:LU} (h:Z2 D.l s=some b):Z0l D s c=c.length:=by unfold Z0l;rw [h];simp
theorem ZaE {D:Dk} {s:BA} {c:LU} (h:Z2 D.l s=none):Z0l D s c=c.length+(16+(s.size:Int)):=by unfold Z0l;rw [h]
theorem ZiQ {D:Dk} (h:CalmD D) {s:BA} (hs:Z7 s=true) {acc:LU} (hl:Z2 D.l s=some acc) (cs:List (LU)) (hc: ∀c∈cs,c.length≤64) (hr:(cs.flatten.length:Int)≤frD D):
  ∃D',ZH D s cs=(0,D')∧Later D D' cs.length∧Z2 D'.l s=some (acc++cs.flatten)∧(∀x,x≠s→Z2 D'.l x=Z2 D.l x)∧ZC D'.l=ZC D.l+cs.flatten.length:=by
 induction cs generalizing D acc with
 | nil=>exact ⟨D,rfl,⟨h,rfl,rfl⟩,by simpa using hl,fun _ _=>rfl,by simp⟩
 | cons c r ih=>
  rw [List.flatten_cons,List.length_append] at hr;obtain ⟨e,hL⟩:=ZgR h hs (hc c (List.mem_cons_self ..)) (by rw [ZaD hl];omega);rw [hl,Option.getD_some] at e hL;have hord:=h.ok.ord;have hl':Z2 (putF D.l s (acc++c)) s=some (acc++c):=by rw [ZQ hord,if_pos rfl]
  have hcs:ZC (putF D.l s (acc++c))=ZC D.l+c.length:=by
   rw [Z2c hord,hl];simp only [List.length_append];omega
  obtain ⟨D',e',hL',h1,h2,h3⟩:=ih (D:={ D with done:=D.done+1,l:=putF D.l s (acc++c) }) hL.calm hl' (fun d hd=>hc d (List.mem_cons_of_mem _ hd)) (by
   rw [hL.calm.free];rw [h.free] at hr;simp only;rw [hcs]
   omega)
  refine ⟨D',?_,⟨hL'.calm,hL'.cap,?_⟩,?_,?_,?_⟩
  ·rw [Z0H,e,if_neg (by simp)]
   exact e'
  ·rw [hL'.done,List.length_cons]
   simp only;omega
  ·rw [h1,List.flatten_cons,List.append_assoc]
  ·intro x hx
   rw [h2 x hx];show Z2 (putF D.l s (acc++c)) x=_
   rw [ZQ hord,if_neg hx]
  ·rw [h3,List.flatten_cons,List.length_append]
   show ZC (putF D.l s (acc++c))+_=_
   rw [hcs];omega
theorem ZhV {D:Dk} (h:CalmD D) {s:BA} (hs:Z7 s=true) (hl:Z2 D.l s=none) (cs:List (LU)) (hne:cs≠[]) (hc: ∀c∈cs,c.length≤64) (hr:16+(s.size:Int)+cs.flatten.length≤frD D):
  ∃D',ZH D s cs=(0,D')∧Later D D' cs.length∧Z2 D'.l s=some cs.flatten∧(∀x,x≠s→Z2 D'.l x=Z2 D.l x)∧ZC D'.l=ZC D.l+(16+(s.size:Int)+cs.flatten.length):=by
 cases cs with
 | nil=>exact absurd rfl hne
 | cons c r=>
  rw [List.flatten_cons,List.length_append] at hr;obtain ⟨e,hL⟩:=ZgR h hs (hc c (List.mem_cons_self ..)) (by rw [ZaE hl];omega);rw [hl,Option.getD_none,List.nil_append] at e hL;have hord:=h.ok.ord;have hl':Z2 (putF D.l s c) s=some c:=by rw [ZQ hord,if_pos rfl]
  have hcs:ZC (putF D.l s c)=ZC D.l+(16+(s.size:Int)+c.length):=by rw [Z2c hord,hl]
  obtain ⟨D',e',hL',h1,h2,h3⟩:=ZiQ (D:={ D with done:=D.done+1,l:=putF D.l s c }) hL.calm hs hl' r (fun d hd=>hc d (List.mem_cons_of_mem _ hd)) (by
   rw [hL.calm.free];rw [h.free] at hr;simp only;rw [hcs]
   omega)
  refine ⟨D',?_,⟨hL'.calm,hL'.cap,?_⟩,?_,?_,?_⟩
  ·rw [Z0H,e,if_neg (by simp)]
   exact e'
  ·rw [hL'.done,List.length_cons]
   simp only;omega
  ·rw [h1,List.flatten_cons]
  ·intro x hx
   rw [h2 x hx];show Z2 (putF D.l s c) x=_
   rw [ZQ hord,if_neg hx]
  ·rw [h3,List.flatten_cons,List.length_append]
   show ZC (putF D.l s c)+_=_
   rw [hcs];omega
theorem ZhW {D:Dk} (h:CalmD D) {s:BA} (hs:Z7 s=true) {b:LU} (hl:Z2 D.l s=some b):Z0T D s=(0,{ D with done:=D.done+1 }):=by
 unfold Z0T Z0j;rw [if_neg (by rw [if_neg (by rw [hs];decide),if_neg (by rw [h.dark];decide),hl];simp),Z3g h]
theorem ZiR {D:Dk} (h:CalmD D) {s n:BA} (hs:Z7 s=true) (hn:Z7 n=true) (hsz:n.size≤s.size) {b:LU} (hl:Z2 D.l s=some b):
  renD D s n=(0,{ D with done:=D.done+1,l:=putF (Zq D.l s) n b }):=by
 unfold renD Z0j;rw [if_neg (by rw [hs,hn];simp),if_neg (by rw [if_neg (by rw [hs];decide),if_neg (by rw [h.dark];decide),hl];simp),hl,Option.getD_some];unfold Z1D;rw [if_neg (by unfold Z30;cases Z2 D.l n<;>simp only<;>omega),Z3g h]
theorem Zch {n:BA} (h:Z7 (shd n)=true) (h0:n.size≠0):Z7 n=true:=by
 unfold Z7 at*;simp only [Bool.and_eq_true,decide_eq_true_eq,Bool.not_eq_true'] at*;have h1:=Z09 n;refine ⟨⟨by omega,by omega⟩,?_⟩;have h2:=h.2;unfold shd at h2;rw [ByteArray.data_append,Array.toList_append] at h2;rw [Bool.eq_false_iff] at*;intro h3;exact h2 (by rw [List.contains_iff_mem] at *; exact List.mem_append.2 (.inl h3))
theorem Zdv (n:BA):n≠shd n:=fun e=>by
 have:=Z09 n;rw [←e] at this;omega
theorem Zej {D:Dk} (h:CalmD D) {n:BA} {b:LU} (hs:Z7 (shd n)=true) (h0:n.size≠0) (hl:Z2 D.l (shd n)=none) (hr:16+((n.size:Int)+1)+b.length≤frD D):
  ∃D',Z1V D n b=(0,D')∧Later D D' ((Zl b).length+2)∧Z2 D'.l n=some b∧Z2 D'.l (shd n)=none∧(∀x,x≠n→x≠shd n→Z2 D'.l x=Z2 D.l x):=by
 have hn:=Zch hs h0;have hsz:=Z09 n;have hfl:=Z2B b;obtain ⟨D1,e1,L1,l1,o1,c1⟩:=ZhV h hs hl (Zl b) (Z3Y b) (Z2m b) (by rw [hfl,hsz];omega);rw [hfl] at l1 c1;have k1:=L1.calm;have hord:=k1.ok.ord;have e2:=ZhW k1 hs l1;have k2:CalmD { D1 with done:=D1.done+1 }:=⟨by have:=k1.ok.sync (shd n);rw [e2] at this;exact this,k1.left,k1.dark⟩;have e3:=ZiR (D:={ D1 with done:=D1.done+1 }) k2 hs hn (by rw [hsz];omega) l1;have k3:CalmD { D1 with done:=D1.done+1+1,l:=putF (Zq D1.l (shd n)) n b }:=⟨by have:=k2.ok.ren (shd n) n;rw [e3] at this;exact this,k1.left,k1.dark⟩;refine ⟨{ D1 with done:=D1.done+1+1,l:=putF (Zq D1.l (shd n)) n b },?_,⟨k3,L1.cap,?_⟩,?_,?_,?_⟩
 ·unfold Z1V
  rw [e1,if_neg (by simp)];unfold lstD;rw [e2,if_neg (by simp)];exact e3
 ·show D1.done+1+1=_
  rw [L1.done];omega
 ·show Z2 (putF (Zq D1.l (shd n)) n b) n=_
  rw [ZQ (ZG hord),if_pos rfl]
 ·show Z2 (putF (Zq D1.l (shd n)) n b) (shd n)=_
  rw [ZQ (ZG hord),if_neg (fun e=>Zdv n e.symm),Z0u hord,if_pos rfl]
 ·intro x h1 h2
  show Z2 (putF (Zq D1.l (shd n)) n b) x=_
  rw [ZQ (ZG hord),if_neg h1,Z0u hord,if_neg h2];exact o1 x h2
theorem ZgS {D:Dk} (h:CalmD D) {s:BA} {b:LU} (hl:Z2 D.l s=some b) (hs:Z7 s=true):remD D s=(0,{ D with done:=D.done+1,l:=Zq D.l s })∧Later D { D with done:=D.done+1,l:=Zq D.l s } 1:=by
 have e:remD D s=(0,{ D with done:=D.done+1,l:=Zq D.l s }):=by
  unfold remD Z0j;rw [if_neg (by rw [if_neg (by rw [hs];decide),if_neg (by rw [h.dark];decide),hl];simp),Z3g h]
 refine ⟨e,⟨?_,h.left,h.dark⟩,rfl,rfl⟩;have:=h.ok.rem s;rw [e] at this;exact this
theorem Z9x {D:Dk} (h:CalmD D) {n:BA} {b:LU} (hl:Z7 (shd n)=true→Z2 D.l (shd n)=none):
  (ZP D n b=(1,D))∨(ZP D n b=(4,D)∧frD D<16+((n.size:Int)+1)+b.length∧Z7 (shd n)=true)∨
  (¬frD D<16+((n.size:Int)+1)+b.length∧Z7 (shd n)=true∧n.size≠0∧ ∃D',ZP D n b=(0,D')∧Later D D' ((Zl b).length+2)∧Z2 D'.l n=some b∧Z2 D'.l (shd n)=none∧(∀x,x≠n→x≠shd n→Z2 D'.l x=Z2 D.l x)):=by
 by_cases hbad:Z7 (shd n)=false∨n.size=0∨ZO n=true
 ·exact .inl (if_pos hbad)
 ·have hs:Z7 (shd n)=true:=by
   cases hB:Z7 (shd n) with
   | true=>rfl
   | false=>exact absurd (.inl hB) hbad
  have h0:n.size≠0:=fun e=>hbad (.inr (.inl e));have hln:=hl hs;have e:ZP D n b=Z2O D n b:=by
   unfold ZP;rw [if_neg hbad,if_neg (by rw [h.dark];decide),if_neg (by rw [hln];decide)]
  rw [e];unfold Z2O
  by_cases hr:frD D<16+((n.size:Int)+1)+b.length
  ·rw [if_pos hr]
   exact .inr (.inl ⟨rfl,hr,hs⟩)
  ·rw [if_neg hr]
   exact .inr (.inr ⟨hr,hs,h0,Zej h hs h0 hln (by omega)⟩)
end Go.Dol
set_option linter.unusedVariables false
namespace Go.Dol
open Go.RowKit
section
variable {L B:Nat} {D:Dk}
theorem Ze8 (l:List Fil) (n:BA) (b:LU):(putF l n b).length=l.length+(match Z2 l n with | none=>1 | some _=>0):=by
 have h1:=(Z2d l n b).length_eq
 cases hl:Z2 l n with
 | none=>
  rw [Z0t hl] at h1;rw [h1]
  rfl
 | some c=>
  have h2:=(Z1b hl).length_eq;simp only [List.length_cons] at h1 h2;rw [h1,h2]
  rfl
theorem Z7y (l:List Fil) (n:BA):(Zq l n).length≤l.length:=by
 cases hl:Z2 l n with
 | none=>rw [Z0t hl];omega
 | some c=>have h2:=(Z1b hl).length_eq;simp only [List.length_cons] at h2;omega
theorem OkG.mono {L' B':Nat} (h:OkG L B D) (hL:L≤L') (hB:B≤B'):OkG L' B' D:=⟨h.ord,h.cap0,h.cap1,h.left0,h.left1,h.names,lT h.len hL,fun f hf=>lT (h.bytes f hf) hB⟩
theorem OkG.look (h:OkG L B D) {n:BA} {b:LU} (hb:Z2 D.l n=some b):b.length≤B:=h.bytes _ ((Zi h.ord).1 hb)
theorem OkG.spend (h:OkG L B D) {l':List Fil} (h1:InOrder l') (h2: ∀f∈l',Z7 f.1=true) (h3:l'.length≤L) (h4: ∀f∈l',f.2.length≤B):OkG L B (ZY D l').2:=by
 have a0:=h.left0;have a1:=h.left1;unfold ZY;split
 ·exact ⟨h.ord,h.cap0,h.cap1,by simp,by simp,h.names,h.len,h.bytes⟩
 ·refine ⟨h1,h.cap0,h.cap1,?_,?_,h2,h3,h4⟩<;>simp only<;>split<;>omega
theorem OkG.app (h:OkG L B D) (n:BA) (b:LU) (hl:Z2 D.l n=none→D.l.length+1≤L) (hb:((Z2 D.l n).getD []++b).length≤B):OkG L B (appD D n b).2:=by
 unfold appD;split
 ·exact h
 ·rename_i h1
  split
  ·exact h
  ·unfold Z1D
   split
   ·exact h
   ·have hn:Z7 n=true:=by
     cases hB:Z7 n with
     | true=>rfl
     | false=>exact absurd (.inr hB) h1
    refine h.spend (Z0i h.ord) (Z4d h.names hn _) ?_ fun f hf=> ?_
    ·rw [Ze8]
     cases hl2:Z2 D.l n with
     | none=>exact hl hl2
     | some c=>exact h.len
    ·rcases Z2Y f hf with e | hm
     ·rw [e];exact hb
     ·exact h.bytes f hm
theorem OkG.rem (h:OkG L B D) (n:BA):OkG L B (remD D n).2:=by
 unfold remD;split
 ·exact h
 ·exact h.spend (ZG h.ord) (Z2V h.names n) (lT (Z7y _ _) h.len) fun f hf=>h.bytes f (Z3A f hf)
theorem OkG.sync (h:OkG L B D) (n:BA):OkG L B (Z0T D n).2:=by
 unfold Z0T;split
 ·exact h
 ·exact h.spend h.ord h.names h.len h.bytes
theorem OkG.ren (h:OkG L B D) (a b:BA):OkG L B (renD D a b).2:=by
 unfold renD;split
 ·exact h
 ·rename_i h1
  split
  ·exact h
  ·rename_i h2
   obtain ⟨hna,_,c,hc⟩:=Z2W (Decidable.not_not.1 h2);have hnb:Z7 b=true:=by
    cases hB:Z7 b with
    | true=>rfl
    | false=>exact absurd (.inr hB) h1
   unfold Z1D;split
   ·exact h
   ·rw [hc,Option.getD_some]
    refine h.spend (Z0i (ZG h.ord)) (Z4d (Z2V h.names a) hnb _) ?_ fun f hf=> ?_
    ·have h3:=(Z1b hc).length_eq
     have h4:=Ze8 (Zq D.l a) b c;have h5:=h.len;simp only [List.length_cons] at h3;rw [h4]
     cases Z2 (Zq D.l a) b with
     | none=>show _+1≤L;omega
     | some c=>show _+0≤L;omega
    ·rcases Z2Y f hf with e | hm
     ·rw [e];exact h.look hc
     ·exact h.bytes f (Z3A f hm)
theorem Zie (D:Dk) (n:BA) (b:LU):(appD D n b).2.l=D.l∨(appD D n b).2.l=putF D.l n ((Z2 D.l n).getD []++b):=by
 unfold appD;split
 ·exact .inl rfl
 ·split
  ·exact .inl rfl
  ·unfold Z1D
   split
   ·exact .inl rfl
   ·unfold ZY
    split
    ·exact .inl rfl
    ·exact .inr rfl
theorem OkG.all (h:OkG L B D) {s:BA}: ∀cs:List (LU),(Z2 D.l s=none→D.l.length+1≤L)→((Z2 D.l s).getD []++cs.flatten).length≤B→OkG L B (ZH D s cs).2:=by
 intro cs
 induction cs generalizing D with
 | nil=>intro _ _;exact h
 | cons c r ih=>
  intro hl hb;have hb':((Z2 D.l s).getD []++c).length≤B:=by
   simp only [List.flatten_cons,List.length_append] at hb ⊢;omega
  have h1:=h.app s c hl hb';unfold ZH;split
  ·exact h1
  ·refine ih h1 ?_ ?_
   ·rcases Zie D s c with e | e
    ·rw [e];exact hl
    ·rw [e,ZQ h.ord,if_pos rfl]
     intro h2;cases h2
   ·rcases Zie D s c with e | e
    ·rw [e]
     simp only [List.flatten_cons,List.length_append] at hb ⊢;omega
    ·rw [e,ZQ h.ord,if_pos rfl,Option.getD_some]
     simp only [List.flatten_cons,List.length_append] at hb ⊢;omega
theorem Z7z (b:LU):(Zl b).flatten.length≤b.length:=by
 rw [Z2B];exact lR _
theorem OkG.pre (h:OkG L B D) {n:BA} {b:LU} (hs:(Z2 D.l (shd n)).isSome=false) (hl:D.l.length+1≤L) (hb:b.length≤B) {pre r:List (LU)} (hc:Zl b=pre++r):OkG L B (ZH D (shd n) pre).2:=by
 have h1:=Z7z b;rw [hc,List.flatten_append,List.length_append] at h1;have hs':Z2 D.l (shd n)=none:=by cases hx:Z2 D.l (shd n) with | none=>rfl | some c=>rw [hx] at hs;cases hs
 exact h.all (s:=shd n) pre (fun _=>hl) (by rw [hs',Option.getD_none,List.nil_append];omega)
theorem OkG.last (h:OkG L B D) (n:BA):OkG L B (lstD D n).2:=by
 unfold lstD;split
 ·exact h.sync _
 ·exact (h.sync _).ren _ _
theorem OkG.laid (h:OkG L B D) (n:BA) (b:LU) (hs:Z2 D.l (shd n)=none) (hl:D.l.length+1≤L) (hb:b.length≤B):OkG L B (Z1V D n b).2:=by
 have h1:=h.all (s:=shd n) (Zl b) (fun _=>hl) (by rw [hs];exact lT (Z7z b) hb);unfold Z1V;split
 ·exact h1
 ·exact h1.last n
theorem OkG.tail (h:OkG L B D) (n:BA) (b:LU) (hs:Z2 D.l (shd n)=none) (hl:D.l.length+1≤L) (hb:b.length≤B):OkG L B (Z2O D n b).2:=by
 unfold Z2O;split
 ·exact h
 ·exact h.laid n b hs hl hb
theorem Z7A (h:InOrder D.l) {n:BA} (hz:(remD D n).1=0):Z2 (remD D n).2.l n=none∧(remD D n).2.l=Zq D.l n:=by
 unfold remD at hz ⊢;split
 ·rename_i h1
  rw [if_pos h1] at hz;exact absurd hz h1
 ·rename_i h1
  rw [if_neg h1] at hz;unfold ZY at hz ⊢;split
  ·rename_i h2
   rw [if_pos h2] at hz;cases hz
  ·exact ⟨by show Z2 (Zq D.l n) n=none;rw [Z0u h,if_pos rfl],rfl⟩
theorem OkG.save (h:OkG L B D) (n:BA) (b:LU) (hl:D.l.length+1≤L) (hb:b.length≤B):OkG L B (ZP D n b).2:=by
 unfold ZP;split
 ·exact h
 ·split
  ·exact h
  ·split
   ·split
    ·exact h.rem _
    ·rename_i h1
     obtain ⟨h2,h3⟩:=Z7A h.ord (Decidable.not_not.1 h1);exact (h.rem _).tail n b h2 (by rw [h3];exact lT (Nat.succ_le_succ (Z7y _ _)) hl) hb
   ·rename_i h1
    exact h.tail n b (by cases hs:Z2 D.l (shd n) with | none=>rfl | some c=>rw [hs] at h1;exact absurd rfl h1) hl hb
end
theorem OkD.lenW {D:Dk} (h:OkD D):D.l.length≤68719476736:=by
 have h1:=ZeF D.l;have h2:=h.room;have h3:=h.cap1;omega
end Go.Dol
set_option linter.unusedVariables false
namespace Go.Dol
open Go.RowKit
structure SvOut (D:Dk) (n:BA) (P:Dk→Prop) (r:Int×Dk):Prop where
 ord:InOrder r.2.l
 oth: ∀x,x≠n→x≠shd n→Z2 r.2.l x=Z2 D.l x
 way:(r.1=0∧P r.2∧r.2.dark=false)∨((r.1=4∧r.2.dark=false∨r.1=5∧r.2.dark=true)∧Z2 r.2.l n=Z2 D.l n)
 calm:D.left= -1→r.1≠5∧r.2.left= -1
theorem SvOut.same {D:Dk} (ho:InOrder D.l) (hd:D.dark=false) (n:BA) (P:Dk→Prop):SvOut D n P (4,D):=
 ⟨ho,fun _ _ _=>rfl,.inr ⟨.inl ⟨rfl,hd⟩,rfl⟩,fun h=>⟨by simp,h⟩⟩
theorem SvOut.spend {D:Dk} (ho:InOrder D.l) (hd:D.dark=false) {l':List Fil} (ho':InOrder l') {n:BA} (hoth: ∀x,x≠n→x≠shd n→Z2 l' x=Z2 D.l x) {P:Dk→Prop} (hP: ∀E:Dk,E.l=l'→P E):SvOut D n P (ZY D l'):=by
 unfold ZY;split
 ·rename_i h0
  exact ⟨ho,fun _ _ _=>rfl,.inr ⟨.inr ⟨rfl,rfl⟩,rfl⟩,fun h=>by rw [h] at h0;cases h0⟩
 ·refine ⟨ho',hoth,.inl ⟨rfl,hP _ rfl,hd⟩,fun h=>⟨by simp,?_⟩⟩
  show (if 0<D.left then D.left-1 else D.left)= -1
  rw [h]
  rfl
theorem SvOut.room {D:Dk} (ho:InOrder D.l) (hd:D.dark=false) {l':List Fil} (ho':InOrder l') {n:BA} (hoth: ∀x,x≠n→x≠shd n→Z2 l' x=Z2 D.l x) {P:Dk→Prop} (hP: ∀E:Dk,E.l=l'→P E) (more:Int):SvOut D n P (Z1D D more l'):=by
 unfold Z1D;split
 ·exact SvOut.same ho hd n P
 ·exact SvOut.spend ho hd ho' hoth hP
theorem SvOut.bind {D:Dk} {n:BA} {P Q:Dk→Prop} {r1 r2:Int×Dk} (h:SvOut D n P r1) (hP: ∀E,P E→Z2 E.l n=Z2 D.l n) (h2:r1.1=0→P r1.2→r1.2.dark=false→SvOut r1.2 n Q r2):SvOut D n Q (if r1.1≠0 then r1 else r2):=by
 split
 ·rename_i h0
  refine ⟨h.ord,h.oth,?_,h.calm⟩;rcases h.way with ⟨e,_⟩ | w
  ·exact absurd e h0
  ·exact .inr w
 ·rename_i h0
  have e0:r1.1=0:=Decidable.not_not.1 h0;rcases h.way with ⟨_,hp,hd⟩ | ⟨⟨e,_⟩ | ⟨e,_⟩,_⟩
  ·have q:=h2 e0 hp hd
   refine ⟨q.ord,fun x a b=>by rw [q.oth x a b,h.oth x a b],?_,fun hl=>q.calm (h.calm hl).2⟩;rcases q.way with w | ⟨w,k⟩
   ·exact .inl w
   ·exact .inr ⟨w,by rw [k,hP _ hp]⟩
  ·rw [e] at e0;cases e0
  ·rw [e] at e0;cases e0
theorem Zht {D:Dk} (ho:InOrder D.l) (hd:D.dark=false) {n:BA} (hs:Z7 (shd n)=true) {c acc:LU} (hc:c.length≤64) (ha:(Z2 D.l (shd n)).getD []=acc):
  SvOut D n (fun E=>Z2 E.l (shd n)=some (acc++c)∧Z2 E.l n=Z2 D.l n) (appD D (shd n) c):=by
 unfold appD;rw [if_neg (by rw [hs];simp;omega),if_neg (by rw [hd];decide),ha];refine SvOut.room ho hd (Z0i ho) (fun x _ h2=>by rw [ZQ ho,if_neg h2]) (fun E hE=> ?_) _;rw [hE,ZQ ho,if_pos rfl,ZQ ho,if_neg (Zdv n)];exact ⟨rfl,rfl⟩
theorem ZdP {n:BA} (hs:Z7 (shd n)=true) (cs:List (LU)) (hc: ∀c∈cs,c.length≤64): ∀(D:Dk) (acc:LU),InOrder D.l→D.dark=false→(Z2 D.l (shd n)).getD []=acc→
  (cs=[]→Z2 D.l (shd n)=some acc)→SvOut D n (fun E=>Z2 E.l (shd n)=some (acc++cs.flatten)∧Z2 E.l n=Z2 D.l n) (ZH D (shd n) cs):=by
 induction cs with
 | nil=>
  intro D acc ho hd ha hn;exact ⟨ho,fun _ _ _=>rfl,.inl ⟨rfl,⟨by rw [List.flatten_nil,List.append_nil];exact hn rfl,rfl⟩,hd⟩,fun h=>⟨by simp [ZH],h⟩⟩
 | cons c r ih=>
  intro D acc ho hd ha _;rw [Z0H];have h1:=Zht ho hd hs (hc c (List.mem_cons_self ..)) ha;refine h1.bind (fun E hE=>hE.2) fun h0 hp hd1=> ?_;have h2:=ih (fun d hd=>hc d (List.mem_cons_of_mem _ hd)) (appD D (shd n) c).2 (acc++c) h1.ord hd1 (by rw [hp.1];rfl) fun _=>hp.1;refine ⟨h2.ord,h2.oth,?_,h2.calm⟩;rcases h2.way with ⟨a1,⟨a2,a3⟩,a4⟩ | w
  ·exact .inl ⟨a1,⟨by rw [a2,List.flatten_cons,List.append_assoc],by rw [a3,hp.2]⟩,a4⟩
  ·exact .inr w
theorem Z75 {D:Dk} {s:BA} (hs:Z7 s=true) (hd:D.dark=false) {b:LU} (hl:Z2 D.l s=some b):Z0j D s=0:=by
 unfold Z0j;rw [if_neg (by rw [hs];decide),if_neg (by rw [hd];decide),hl]
 rfl
theorem ZfD {D:Dk} (ho:InOrder D.l) (hd:D.dark=false) {n:BA} (hs:Z7 (shd n)=true) (hn:Z7 n=true) {b:LU} (hl:Z2 D.l (shd n)=some b):
  SvOut D n (fun E=>Z2 E.l n=some b) (lstD D n):=by
 unfold lstD;have h1:SvOut D n (fun E=>E.l=D.l) (Z0T D (shd n)):=by
  unfold Z0T;rw [if_neg (by rw [Z75 hs hd hl];simp)];exact SvOut.spend ho hd ho (fun _ _ _=>rfl) fun E hE=>hE
 refine h1.bind (fun E hE=>by rw [hE]) fun h0 hp hd1=> ?_;have hp':(Z0T D (shd n)).2.l=D.l:=hp;have hl1:Z2 (Z0T D (shd n)).2.l (shd n)=some b:=by rw [hp'];exact hl
 have ho1:=h1.ord;unfold renD;rw [if_neg (by rw [hs,hn];simp),if_neg (by rw [Z75 hs hd1 hl1];simp),hl1,Option.getD_some];refine SvOut.room ho1 hd1 (Z0i (ZG ho1)) (fun x a1 a2=> ?_) (fun E hE=> ?_) _
 ·rw [ZQ (ZG ho1),if_neg a1,Z0u ho1,if_neg a2]
 ·rw [hE,ZQ (ZG ho1),if_pos rfl]
theorem ZfE {D:Dk} (ho:InOrder D.l) (hd:D.dark=false) (n:BA) (b:LU):
  ((Z7 (shd n)=false∨n.size=0∨ZO n=true)∧ZP D n b=(1,D))∨(Z7 (shd n)=true∧n.size≠0∧ZO n=false∧SvOut D n (fun E=>Z2 E.l n=some b) (ZP D n b)):=by
 by_cases hbad:Z7 (shd n)=false∨n.size=0∨ZO n=true
 ·exact .inl ⟨hbad,if_pos hbad⟩
 ·have hs:Z7 (shd n)=true:=by
   cases hB:Z7 (shd n) with
   | true=>rfl
   | false=>exact absurd (.inl hB) hbad
  have h0:n.size≠0:=fun e=>hbad (.inr (.inl e));have hE:ZO n=false:=by
   cases hB:ZO n with
   | false=>rfl
   | true=>exact absurd (.inr (.inr hB)) hbad
  have hn:=Zch hs h0;have tail: ∀D1:Dk,InOrder D1.l→D1.dark=false→Z2 D1.l (shd n)=none→SvOut D1 n (fun E=>Z2 E.l n=some b) (Z2O D1 n b):=by
   intro D1 ho1 hd1 hl1;unfold Z2O;split
   ·exact SvOut.same ho1 hd1 n _
   ·unfold Z1V
    refine (ZdP hs (Zl b) (Z2m b) D1 [] ho1 hd1 (by rw [hl1];rfl) (fun e=>absurd e (Z3Y b))).bind (fun E hE=>hE.2) fun h0 hp hd2=> ?_;have ho2:=(ZdP hs (Zl b) (Z2m b) D1 [] ho1 hd1 (by rw [hl1];rfl) (fun e=>absurd e (Z3Y b))).ord;have hp1:=hp.1;rw [List.nil_append,Z2B] at hp1;exact ZfD ho2 hd2 hs hn hp1
  refine .inr ⟨hs,h0,hE,?_⟩;unfold ZP;rw [if_neg hbad,if_neg (by rw [hd];decide)]
  cases hl:Z2 D.l (shd n) with
  | none=>
   rw [if_neg (by decide)];exact tail D ho hd hl
  | some c=>
   rw [if_pos (by rfl)];have h1:SvOut D n (fun E=>Z2 E.l (shd n)=none∧Z2 E.l n=Z2 D.l n) (remD D (shd n)):=by
    unfold remD;rw [if_neg (by rw [Z75 hs hd hl];simp)];refine SvOut.spend ho hd (ZG ho) (fun x _ a2=>by rw [Z0u ho,if_neg a2]) fun E hE=> ?_;rw [hE,Z0u ho,if_pos rfl,Z0u ho,if_neg (Zdv n)];exact ⟨rfl,rfl⟩
   refine h1.bind (fun E hE=>hE.2) fun h0 hp hd1=> ?_;exact tail _ h1.ord hd1 hp.1
theorem Z8U {l:List Fil} (h:InOrder l):l.Nodup:=List.Pairwise.imp (fun {a b} hab e=>by rw [e] at hab;exact absurd rfl (Z5L hab)) h
theorem Zb5 {l m:List Fil} (hl:InOrder l) (hm:InOrder m) (p:BA→Bool) (h: ∀x,p x=true→Z2 l x=Z2 m x):l.filter (fun f=>p f.1)=m.filter fun f=>p f.1:=by
 refine Za4 (List.Pairwise.filter _ hl) (List.Pairwise.filter _ hm) ?_;refine (List.perm_ext_iff_of_nodup ((Z8U hl).filter _) ((Z8U hm).filter _)).2 fun f=> ?_;rw [List.mem_filter,List.mem_filter];refine ⟨fun ⟨h1,h2⟩=>⟨?_,h2⟩,fun ⟨h1,h2⟩=>⟨?_,h2⟩⟩
 ·have e:=(Zi hl (n:=f.1) (b:=f.2)).2 h1
  rw [h f.1 h2] at e;exact (Zi hm).1 e
 ·have e:=(Zi hm (n:=f.1) (b:=f.2)).2 h1
  rw [←h f.1 h2] at e;exact (Zi hl).1 e
end Go.Dol
set_option linter.unusedVariables false
namespace Go.Proofs.YtecpbcmpncgokaaGreat
open Go.RowKit Go.Dol
section
variable {w w':World} {g m:Nat} {D:Dk}
theorem Far.tw {W W':World} {B g m:Nat} {A:OA} {l:LU} (h:Far W B A l) (ht:Tw W W' g m) (hg:Other W B (some g)) (hm:Other W B (some m)):Far W' B A l:=by
 rcases Nat.eq_zero_or_pos l.length with h0 | h0
 ·rw [nZ h0]
  exact Far.nil
 obtain ⟨b,off,e,hb,hc⟩:=h.1.at_ h0;have hs:Z9 A=some b:=by rw [e];rfl
 have hne: ∀k,Other W B (some k)→b≠k:=by
  rintro k hk rfl;obtain ⟨h1,h2⟩:=hk b rfl;rcases h.2 h0 b hs with h3 | ⟨cur,fr,h3⟩
  ·omega
  ·exact h2 cur fr h3
 have hk:=ht.block b hb (hne g hg) (hne m hm);refine ⟨⟨h.1.len,fun _=>⟨b,off,e,Nat.lt_of_lt_of_le hb ht.size,fun j u hu=>(World.cell?_of_block hk).trans (hc j u hu)⟩⟩,fun _ k hk2=> ?_⟩;rw [hs] at hk2;injection hk2 with hk2
 subst hk2;rw [hk];exact h.2 h0 b hs
theorem Dsk.others (h:Dsk w g m D) {B:Nat} (hg:B≤g) (hm:B≤m):Other w B (some g)∧Other w B (some m):=by
 obtain ⟨al,hB,hM,_⟩:=h;refine ⟨Other.blk hB (by decide) hg,fun k hk=> ?_⟩;injection hk with hk
 subst hk;exact ⟨hm,(Other.map hM m rfl).2⟩
theorem ZdL {base:Nat} {T:TypeId} {size:Nat} {v:Value} {n:Nat} {xs:List Value} (hD:Dsk w g m D) (ht:Tw w w' g m) (ho:w.ownsRow base T size v n xs) (hT:T≠145):w'.ownsRow base T size v n xs:=by
 refine ⟨ho.1,?_⟩;rcases ho.2 with hn | ⟨k,cap,cur,rfl,hb,hk,rest⟩
 ·exact .inl hn
 ·have hlt:k<w.heap.size:=(Array.getElem?_eq_some_iff.1 hk).1
  obtain ⟨al,hB,hM,_⟩:=hD;have h1:k≠g:=by
   rintro rfl;unfold Blk at hB;rw [hB] at hk;injection hk with hk
   injection hk with _ hk
   exact hT hk.symm
  have h2:k≠m:=by
   rintro rfl;obtain ⟨es,clock,hb2,_⟩:=hM;rw [hb2] at hk;cases hk
  exact .inr ⟨k,cap,cur,rfl,hb,(ht.block k hlt h1 h2).trans hk,rest⟩
end
end Go.Proofs.YtecpbcmpncgokaaGreat
set_option linter.unusedVariables false
namespace Go.Proofs.YtecpbcmpncgokaaGreat
open Go.RowKit Go.Maps Go.Sort Go.Shelf
def Z98:Go.Shelf.Ren:=⟨fun | 7=>133 | 10=>206 | n=>n,fun | 23=>140 | 26=>9 | 3=>36 | 28=>170 | 0=>0 | 27=>169 | 33=>104 | 4=>4 | n=>n,fun | n=>n⟩
theorem Zic:Go.Proofs.SlLaysZ.n7 Tryz.prog Z98:={
  mixed:=by kernel_rfl
  f7:=⟨Tryz.f133.name,by decide,Tryz.func133.trans (congrArg some (by kernel_rfl))⟩
  f10:=⟨Tryz.f206.name,by decide,Tryz.func206.trans (congrArg some (by kernel_rfl))⟩
  t0:=Tryz.underlying0
  a0:=Tryz.isAgg0
  z0:=Tryz.sizeOf0
  v0:=Tryz.zeroValue0
  t4:=Tryz.underlying4
  a4:=Tryz.isAgg4
  z4:=Tryz.sizeOf4
  v4:=Tryz.zeroValue4
  t23:=Tryz.underlying140
  a23:=Tryz.isAgg140
  z23:=Tryz.sizeOf140
  v23:=Tryz.zeroValue140
  t26:=Tryz.underlying9
  a26:=Tryz.isAgg9
  z26:=Tryz.sizeOf9
  v26:=Tryz.zeroValue9
  t27:=Tryz.underlying169
  a27:=Tryz.isAgg169
  z27:=Tryz.sizeOf169
  v27:=Tryz.zeroValue169
  t28:=Tryz.underlying170
  a28:=Tryz.isAgg170
  z28:=Tryz.sizeOf170
  v28:=Tryz.zeroValue170
  t33:=Tryz.underlying104
  a33:=Tryz.isAgg104
  z33:=Tryz.sizeOf104
  v33:=Tryz.zeroValue104 }
def Z6d:Go.Shelf.Ren:=⟨fun | 6=>132 | 8=>114 | 9=>83 | 11=>182 | 13=>155 | 12=>154 | 23=>225 | 24=>226 | 14=>216 | 15=>217 | 16=>218 | 17=>219 | 18=>220 | 19=>221 | 20=>222 | 21=>223 | 22=>224 | 25=>263 | 26=>264 | 27=>265 | 28=>266 | 29=>267 | 30=>268 | 31=>283 | n=>n,fun | 26=>9 | 28=>170 | 24=>38 | 0=>0 | 3=>3 | 37=>202 | 48=>128 | 50=>249 | 4=>4 | 40=>282 | 39=>281 | 45=>209 | 5=>5 | 9=>9 | 51=>313 | 55=>317 | 57=>324 | 58=>234 | 33=>104 | n=>n,fun | n=>n⟩
theorem ZhB:Go.Proofs.SlLaysZ.n6 Tryz.prog Z6d:={
  mixed:=by kernel_rfl
  f6:=⟨Tryz.f132.name,by decide,Tryz.func132.trans (congrArg some (by kernel_rfl))⟩
  f8:=⟨Tryz.f114.name,by decide,Tryz.func114.trans (congrArg some (by kernel_rfl))⟩
  f11:=⟨Tryz.f182.name,by decide,Tryz.func182.trans (congrArg some (by kernel_rfl))⟩
  t0:=Tryz.underlying0
  a0:=Tryz.isAgg0
  z0:=Tryz.sizeOf0
  v0:=Tryz.zeroValue0
  t24:=Tryz.underlying38
  a24:=Tryz.isAgg38
  z24:=Tryz.sizeOf38
  v24:=Tryz.zeroValue38
  t26:=Tryz.underlying9
  a26:=Tryz.isAgg9
  z26:=Tryz.sizeOf9
  v26:=Tryz.zeroValue9
  t28:=Tryz.underlying170
  a28:=Tryz.isAgg170
  z28:=Tryz.sizeOf170
  v28:=Tryz.zeroValue170
  i26:=by kernel_rfl }
def ZeH:Go.Shelf.Ren:=⟨fun | 6=>83 | 8=>155 | 9=>154 | 19=>225 | 20=>226 | 21=>216 | 22=>217 | 23=>218 | 24=>219 | 25=>220 | 26=>221 | 27=>222 | 28=>223 | 29=>224 | 36=>263 | 31=>264 | 32=>265 | 37=>266 | 38=>267 | 39=>268 | 41=>283 | n=>n,fun | 27=>38 | 29=>9 | 3=>3 | 32=>202 | 26=>38 | 0=>0 | 44=>128 | 46=>249 | 4=>4 | 36=>282 | 35=>281 | 41=>209 | 5=>5 | 9=>9 | 53=>313 | 57=>317 | 63=>324 | 64=>234 | n=>n,fun | n=>n⟩
theorem ZdT:Go.Proofs.SlLaysM.n6 Tryz.prog ZeH:={
  mixed:=by kernel_rfl
  f6:=⟨Tryz.f83.name,by decide,Tryz.func83.trans (congrArg some (by kernel_rfl))⟩
  f8:=Tryz.func155.trans (congrArg some (by kernel_rfl))
  f9:=⟨Tryz.f154.name,by decide,Tryz.func154.trans (congrArg some (by kernel_rfl))⟩
  f19:=Tryz.func225.trans (congrArg some (by kernel_rfl))
  f20:=Tryz.func226.trans (congrArg some (by kernel_rfl))
  f21:=⟨Tryz.f216.name,by decide,Tryz.func216.trans (congrArg some (by kernel_rfl))⟩
  f22:=⟨Tryz.f217.name,by decide,Tryz.func217.trans (congrArg some (by kernel_rfl))⟩
  f23:=⟨Tryz.f218.name,by decide,Tryz.func218.trans (congrArg some (by kernel_rfl))⟩
  f24:=⟨Tryz.f219.name,by decide,Tryz.func219.trans (congrArg some (by kernel_rfl))⟩
  f25:=⟨Tryz.f220.name,by decide,Tryz.func220.trans (congrArg some (by kernel_rfl))⟩
  f26:=⟨Tryz.f221.name,by decide,Tryz.func221.trans (congrArg some (by kernel_rfl))⟩
  f27:=⟨Tryz.f222.name,by decide,Tryz.func222.trans (congrArg some (by kernel_rfl))⟩
  f28:=⟨Tryz.f223.name,by decide,Tryz.func223.trans (congrArg some (by kernel_rfl))⟩
  f29:=⟨Tryz.f224.name,by decide,Tryz.func224.trans (congrArg some (by kernel_rfl))⟩
  f31:=Tryz.func264.trans (congrArg some (by kernel_rfl))
  f32:=Tryz.func265.trans (congrArg some (by kernel_rfl))
  f36:=⟨Tryz.f263.name,by decide,Tryz.func263.trans (congrArg some (by kernel_rfl))⟩
  f37:=⟨Tryz.f266.name,by decide,Tryz.func266.trans (congrArg some (by kernel_rfl))⟩
  f38:=⟨Tryz.f267.name,by decide,Tryz.func267.trans (congrArg some (by kernel_rfl))⟩
  f39:=⟨Tryz.f268.name,by decide,Tryz.func268.trans (congrArg some (by kernel_rfl))⟩
  f41:=⟨Tryz.f283.name,by decide,Tryz.func283.trans (congrArg some (by kernel_rfl))⟩
  t0:=Tryz.underlying0
  a0:=Tryz.isAgg0
  z0:=Tryz.sizeOf0
  v0:=Tryz.zeroValue0
  t3:=Tryz.underlying3
  a3:=Tryz.isAgg3
  z3:=Tryz.sizeOf3
  v3:=Tryz.zeroValue3
  t4:=Tryz.underlying4
  a4:=Tryz.isAgg4
  z4:=Tryz.sizeOf4
  v4:=Tryz.zeroValue4
  t5:=Tryz.underlying5
  a5:=Tryz.isAgg5
  z5:=Tryz.sizeOf5
  v5:=Tryz.zeroValue5
  t9:=Tryz.underlying9
  a9:=Tryz.isAgg9
  z9:=Tryz.sizeOf9
  v9:=Tryz.zeroValue9
  t26:=Tryz.underlying38
  a26:=Tryz.isAgg38
  z26:=Tryz.sizeOf38
  v26:=Tryz.zeroValue38
  t27:=Tryz.underlying38
  a27:=Tryz.isAgg38
  z27:=Tryz.sizeOf38
  v27:=Tryz.zeroValue38
  t29:=Tryz.underlying9
  a29:=Tryz.isAgg9
  z29:=Tryz.sizeOf9
  v29:=Tryz.zeroValue9
  t32:=Tryz.underlying202
  a32:=Tryz.isAgg202
  z32:=Tryz.sizeOf202
  v32:=Tryz.zeroValue202
  t35:=Tryz.underlying281
  a35:=Tryz.isAgg281
  z35:=Tryz.sizeOf281
  v35:=Tryz.zeroValue281
  t36:=Tryz.underlying282
  a36:=Tryz.isAgg282
  z36:=Tryz.sizeOf282
  v36:=Tryz.zeroValue282
  t41:=Tryz.underlying209
  a41:=Tryz.isAgg209
  z41:=Tryz.sizeOf209
  v41:=Tryz.zeroValue209
  t44:=Tryz.underlying128
  a44:=Tryz.isAgg128
  z44:=Tryz.sizeOf128
  v44:=Tryz.zeroValue128
  t46:=Tryz.underlying249
  a46:=Tryz.isAgg249
  z46:=Tryz.sizeOf249
  v46:=Tryz.zeroValue249
  t53:=Tryz.underlying313
  a53:=Tryz.isAgg313
  z53:=Tryz.sizeOf313
  v53:=Tryz.zeroValue313
  t57:=Tryz.underlying317
  a57:=Tryz.isAgg317
  z57:=Tryz.sizeOf317
  v57:=Tryz.zeroValue317
  t63:=Tryz.underlying324
  a63:=Tryz.isAgg324
  z63:=Tryz.sizeOf324
  v63:=Tryz.zeroValue324
  t64:=Tryz.underlying234
  a64:=Tryz.isAgg234
  z64:=Tryz.sizeOf234
  v64:=Tryz.zeroValue234 }
theorem Zit (m:Nat):AnyZ.SortsIn Tryz.prog Z6d Fence.wide m:=
  ⟨fun blk off cap ss W hH hblk hsz=>callsIn_wide.2 (AnyM.slices_Sort_string ZdT blk off cap ss W hH hblk hsz),
   fun p cap W=>callsIn_wide.2 (AnyM.slices_Sort_string_none ZdT p cap W)⟩
theorem Zbk (mb:Option Nat) (W:World):CallsIn Fence.wide 5 Tryz.prog 133 #[.map mb] W fun e w'=>e= .returned (.func (.func 206) #[] #[.pointer (some ⟨W.heap.size,0,none⟩)])∧w'=W.alloc (.cells #[.map mb] 140):=
  AnyZ.keys_in Zic Fence.wide 5 trivial rfl mb W
set_option maxHeartbeats 1000000 in
theorem Z7j {H:Type} (b nn:Nat) (D0:DataW H) (R:Value→Option (DataW H×List MemPlace)) (w:World) (hown:w.ownsMap Tryz.prog 9 R b nn D0) (hmax:Maps.size D0≤maxLen) (hbytes:Maps.size D0*16≤140737488355328):
    CallsIn Fence.wide 5 Tryz.prog 132 #[.func (.func 206) #[] #[.pointer (some ⟨w.heap.size,0,none⟩)]] (w.alloc (.cells #[.map (some b)] 140)) fun e w'=> ∃(v:Value) (ss:List (LU)),e= .returned v∧ss.Perm (strKeys D0)∧
      w'.ownsRow (w.alloc (.cells #[.map (some b)] 140)).heap.size 9 1 v ss.length ((ss.mergeSort (fun x y=>decide (x≤y))).map encStr)∧(v= .slice none 0 0↔ss=[])∧Below (w.alloc (.cells #[.map (some b)] 140)).heap.size (w.alloc (.cells #[.map (some b)] 140)) w':=by
  have hbl:=hown.lt;have hseq:SeqGives Fence.wide 2 Tryz.prog 206 #[.pointer (some ⟨w.heap.size,0,none⟩)] encStr (fun ss=>ss.Perm (strKeys D0)) (Maps.size D0) (w.alloc (.cells #[.map (some b)] 140)):=
    AnyZ.keys_gives (ρ:=Z98) { Zic with } Fence.wide _ trivial rfl (by omega) w.heap.size b nn D0 _ (by simp) (by simp) (by
      obtain ⟨es,clock,hb,Ft,hs,hD⟩:=hown
      exact ⟨es,clock,(Below.heap_alloc _ _ b hbl).trans hb,Ft,hs,hD⟩)
  exact AnyZ.sorted_in ZhB Fence.wide 5 trivial trivial trivial trivial rfl (by omega) (Zit _) (enters_of Tryz.func83 (by kernel_rfl) rfl) 206 #[.pointer (some ⟨w.heap.size,0,none⟩)] trivial (enters_of Tryz.func206 (by kernel_rfl) rfl) _ _ hmax hbytes _ hseq
end Go.Proofs.YtecpbcmpncgokaaGreat
set_option linter.unusedVariables false
namespace Go.Dol
open Go.RowKit Go.MapKept Go.Maps
open Go.WideElems (Fit rd rg)
theorem Za1 {l:List Fil} (h:InOrder l) {ss:List (LU)} (hp:ss.Perm (l.map fun f=>f.1.data.toList)):(ss.mergeSort fun x y=>decide (x≤y))=l.map fun f=>f.1.data.toList:=by
 have tr: ∀a b c:LU,decide (a≤b)=true→decide (b≤c)=true→decide (a≤c)=true:=fun a b c h1 h2=>dT (List.le_trans (of_decide_eq_true h1) (of_decide_eq_true h2));have to: ∀a b:LU,(decide (a≤b)||decide (b≤a))=true:=fun a b=>by
  rcases List.le_total a b with h | h<;>simp [h]
 refine List.Perm.eq_of_pairwise (le:=fun a b=>decide (a≤b)=true) (fun a b _ _ h1 h2=>List.le_antisymm (of_decide_eq_true h1) (of_decide_eq_true h2)) (List.pairwise_mergeSort tr to ss) ?_ ((List.mergeSort_perm ss _).trans hp);rw [List.pairwise_map];exact h.imp fun {a b} hab=>by
  unfold sLt at hab;exact dT (List.le_of_lt (of_decide_eq_true hab))
end Go.Dol
namespace Go.Proofs.YtecpbcmpncgokaaGreat
open Go.RowKit Go.Dol
def Zbf (w:World) (D:Dk) (e:Ending) (w':World):Prop:=
 ∃A c,e= .returned (.slice A D.l.length c)∧w'.ownsRow w.heap.size 9 1 (.slice A D.l.length c) D.l.length (sc (D.l.map Prod.fst))∧Below w.heap.size w w'
section
variable {w:World} {g m:Nat} {D:Dk}
theorem Dsk.sorted (h:Dsk w g m D) (hK:OkL D):Calls Tryz.prog 132 #[.func (.func 206) #[] #[.pointer (some ⟨w.heap.size,0,none⟩)]] (w.alloc (.cells #[.map (some m)] 140)) (Zbf w D):=by
 obtain ⟨al,hB,hM,M,hal,hby,hp⟩:=h;have hlen:al.length=D.l.length:=by rw [hal,List.length_map,←hp.length_eq,List.length_map]
 have hle:=hK.len;obtain ⟨D0,hown,hsz,hkeys⟩:=hM.owns Tryz.underlying9 (by unfold maxLen;omega);refine ((callsIn_wide (n:=5)).1 (Z7j m al.length D0 _ w hown (by unfold maxLen;omega) (by omega))).mono ?_;rintro e w' ⟨v,ss,rfl,hS,hrow,_,hb⟩;have hns:al.map Prod.fst=((M.map Prod.fst).map Prod.fst).map Value.string:=by
  rw [hal,List.map_map,List.map_map,List.map_map]
  rfl
 have hperm:ss.Perm (D.l.map fun f=>f.1.data.toList):=by
  refine hS.trans ((hkeys _ hns).trans ?_);rw [List.map_map];exact hp.map _
 have hsl:ss.length=D.l.length:=by rw [hperm.length_eq,List.length_map]
 rw [Za1 hK.ord hperm,List.map_map,hsl] at hrow;have hxs:(D.l.map (Go.Proofs.encStr∘fun f=>f.1.data.toList))=sc (D.l.map Prod.fst):=by
  unfold sc;rw [List.map_map];exact List.map_congr_left fun f _=>rfl
 rw [hxs] at hrow;have hbl:Below w.heap.size w w':=((bR _ _).alloc (lR _) _).trans (hb.mono (by simp));have hrow':w'.ownsRow w.heap.size 9 1 v D.l.length (sc (D.l.map Prod.fst)):=World.ownsRow.mono hrow (by simp);have hv: ∃A c,v= .slice A D.l.length c:=by
  rcases hrow'.2 with ⟨rfl,h0⟩ | ⟨q,cap,cur,rfl,_⟩
  ·exact ⟨none,0,by rw [h0]⟩
  ·exact ⟨_,cap,rfl⟩
 obtain ⟨A,c,rfl⟩:=hv;exact ⟨A,c,rfl,hrow',hbl⟩
theorem ZcO (mb:Option Nat) (W:World):Calls Tryz.prog 133 #[.map mb] W fun e w'=>e= .returned (.func (.func 206) #[] #[.pointer (some ⟨W.heap.size,0,none⟩)])∧w'=W.alloc (.cells #[.map mb] 140):=
 (callsIn_wide (n:=5)).1 (Zbk mb W)
set_option maxRecDepth 100000 in
set_option maxHeartbeats 800000 in
theorem Z1X (h:Dsk w g m D) (hK:OkL D):Calls Tryz.prog 59 #[.pointer (some ⟨g,0,none⟩)] w (Zbf w D):=by
 obtain ⟨k0,k1,k2,k3,k4,k5⟩:=h.cells;have HS:=qI (h.sorted hK);have HK:=qI (ZcO (some m) w);go_in
 go_wp2_with (first
  | (go_at_call 88;refine (Z03 h).mono ?_;rintro e w' ⟨rfl,hw⟩;obtain rfl:=hw.symm)
  | (go_at_call 133;refine HK.out.mono ?_;rintro e w' ⟨rfl,rfl⟩)
  | (go_at_call 132;refine HS.out.mono ?_;rintro e w' ⟨A,c,rfl,ho,hb⟩))
 go_ret;exact ⟨A,c,rfl,ho,hb⟩
end
end Go.Proofs.YtecpbcmpncgokaaGreat
set_option linter.unusedVariables false
namespace Go.Dol
open Go.RowKit
theorem Zjl (s:BA) {k:Nat} (h:k<s.size):s[k]'h=s.data.toList[k]'(by rw [Zp];exact h):=rfl
end Go.Dol
namespace Go.Proofs.YtecpbcmpncgokaaGreat
open Go.RowKit Go.Dol
section
variable {w w':World} {g:Nat} {D:Dk}
end
section
variable {w w':World} {g:Nat} {D:Dk}
end
end Go.Proofs.YtecpbcmpncgokaaGreat
namespace Go.Dol
open Go.RowKit
end Go.Dol
namespace Go.Proofs.YtecpbcmpncgokaaGreat
open Go.RowKit Go.Dol
section
variable {w w':World} {g:Nat} {D:Dk}
end
end Go.Proofs.YtecpbcmpncgokaaGreat
namespace Go.Dol
open Go.RowKit
end Go.Dol
namespace Go.Proofs.YtecpbcmpncgokaaGreat
open Go.RowKit Go.Dol
section
variable {w w':World} {g:Nat} {D:Dk}
end
section
variable {w w':World} {g:Nat} {D:Dk}
end
end Go.Proofs.YtecpbcmpncgokaaGreat
namespace Go.Dol
open Go.RowKit
end Go.Dol
namespace Go.Proofs.YtecpbcmpncgokaaGreat
open Go.RowKit Go.Dol
section
variable {w w':World} {g:Nat} {D:Dk}
end
section
variable {w w':World} {g:Nat} {D:Dk}
end
section
variable {w w':World} {g:Nat} {D:Dk}
end
end Go.Proofs.YtecpbcmpncgokaaGreat
namespace Go.Dol
open Go.RowKit
end Go.Dol
namespace Go.Proofs.YtecpbcmpncgokaaGreat
open Go.RowKit Go.Dol
section
variable {w w':World} {g:Nat} {D:Dk}
end
end Go.Proofs.YtecpbcmpncgokaaGreat
namespace Go.Dol
open Go.RowKit
end Go.Dol
namespace Go.Proofs.YtecpbcmpncgokaaGreat
open Go.RowKit Go.Dol
section
variable {w w':World} {g:Nat} {D:Dk}
end
end Go.Proofs.YtecpbcmpncgokaaGreat
namespace Go.Dol
open Go.RowKit
end Go.Dol
namespace Go.Proofs.YtecpbcmpncgokaaGreat
open Go.RowKit Go.Dol
section
variable {w w':World} {g:Nat} {D:Dk}
end
section
variable {w:World} {g:Nat} {D:Dk}
end
end Go.Proofs.YtecpbcmpncgokaaGreat
