/- What layer 'object' computes, in plain Lean: which objects may be, their bytes, what bytes are an object. Conditions: lengths below 2^47. -/
import Derived.Test.YtecpbcmpncgokaaGreatCodeA
import Derived.Test.YtecpbcmpncgokaaGreatWordsA
import Derived.Test.YtecpbcmpncgokaaGreatDisk3
import Derived.Laws.Cover1
import Derived.Deep.QuietTactic
import Derived.BigQuiet
import Derived.Deep.RegionHeld3
import Derived.Test.YtecpbcmpncgokaaGreatShort
set_option maxRecDepth 100000
set_option maxHeartbeats 4000000
set_option linter.unusedVariables false
namespace Go.Dol
structure Ent where
 name:BA
 dir:Bool
 id:BA
structure Obj where
 kind:Int
 data:LU
 ents:List Ent
 tree:BA
 pars:List BA
 target:BA
 name:BA
 who:BA
 stamp:Int
 text:BA
def Obj.zero:Obj:=⟨0,[],[],⟨#[]⟩,[],⟨#[]⟩,⟨#[]⟩,⟨#[]⟩,0,⟨#[]⟩⟩
def Z13 (s:BA):Bool:=!s.data.toList.contains 0&& !s.data.toList.contains 47&&decide (1≤s.size)&&decide (s.size≤100)&&(!(s.toList==[46])&& !(s.toList==[46,46]))
def Zcm (ge:BA→BA→Bool) (l:List Ent) (nm:BA):Nat→Bool
 | 0=>true
 | j+1=>match l[j]? with | none=>true | some p=> !ge p.name nm
def Z4F (ge:BA→BA→Bool) (l:List Ent) (i:Nat):Bool:=
 match l[i]? with
 | none=>true
 | some e=>Z13 e.name&&decide (e.id.size=32)&&Zcm ge l e.name i
def Z2q (ge:BA→BA→Bool) (l:List Ent) (k:Nat):Prop:=∀ i,i<k→Z4F ge l i=true
def Z14 (ge:BA→BA→Bool) (l:List Ent):Bool:=(List.range l.length).all (Z4F ge l)&&decide (l.length≤4096)
def hasS (l:List BA) (p:BA):Bool:=l.any fun q=>q.toList==p.toList
def Z3N (l:List BA) (i:Nat):Bool:=
 match l[i]? with
 | none=>true
 | some p=>decide (p.size=32)&& !hasS (l.take i) p
def Z3f (l:List BA) (k:Nat):Prop:=∀ i,i<k→Z3N l i=true
def Z1d (l:List BA):Bool:=(List.range l.length).all (Z3N l)&&decide (l.length≤4)
def Zt (who:BA) (stamp:Int) (text:BA):Bool:=decide (who.size≤1000)&&decide (text.size≤1000)&&decide (0≤stamp)&&decide (stamp≤1099511627776)
def Z1Y (o:Obj):Bool:=decide (o.who.size=0)&&decide (o.text.size=0)&&decide (o.stamp=0)
def ZU (o:Obj):Bool:=decide (o.tree.size=0)&&decide (o.pars.length=0)
def Z1Q (o:Obj):Bool:=decide (o.target.size=0)&&decide (o.name.size=0)
def Z0Y (o:Obj):Bool:=decide (o.data.length=0)
def Z0Z (o:Obj):Bool:=decide (o.ents.length=0)
def Zb (ge:BA→BA→Bool) (o:Obj):Bool:=
 if o.kind=1 then decide (o.data.length≤1048576)&&(Z0Z o&&ZU o&&Z1Q o&&Z1Y o)
 else if o.kind=2 then Z14 ge o.ents&&(Z0Y o&&ZU o&&Z1Q o&&Z1Y o)
 else if o.kind=3 then decide (o.tree.size=32)&&Z1d o.pars&&Zt o.who o.stamp o.text&&(Z0Y o&&Z0Z o&&Z1Q o)
 else if o.kind=4 then decide (o.target.size=32)&&decide (1≤o.name.size)&&decide (o.name.size≤200)&&Zt o.who o.stamp o.text&&(Z0Y o&&Z0Z o&&ZU o)
 else false
def tx (s:BA):LU:=text s.data.toList
def entB (e:Ent):LU:=tx e.name++((if e.dir then 1 else 0)::e.id.data.toList)
def Z4G (l:List Ent):LU:=num l.length++l.flatMap entB
def Z5i (l:List BA):LU:=num l.length++l.flatMap fun p=>p.data.toList
def Z6m (o:Obj):LU:=tx o.who++(num (Zk o.stamp)++tx o.text)
def encO (o:Obj):LU:=
 UInt8.ofNat o.kind.toNat::
  (if o.kind=1 then o.data
  else if o.kind=2 then Z4G o.ents
  else if o.kind=3 then o.tree.data.toList++(Z5i o.pars++Z6m o)
  else o.target.data.toList++(tx o.name++Z6m o))
def ZS (n:Nat) (r:LU):Option (LU×LU):=if r.length<n then none else some (r.take n,r.drop n)
def Z0j (r:LU):Option (LU×LU):=ZD r 1048576
def Z0a (r:LU):Option (Ent×LU):=
 match Z0j r with
 | none=>none
 | some (nm,r1)=>match ZS 1 r1 with
  | none=>none
  | some (d,r2)=>match ZS 32 r2 with
   | none=>none
   | some (i,r3)=>some (⟨⟨nm.toArray⟩,decide (d=[1]),⟨i.toArray⟩⟩,r3)
def Z2U:Nat→LU→Option (List Ent×LU)
 | 0,r=>some ([],r)
 | n+1,r=>match Z0a r with
  | none=>none
  | some (e,r1)=>match Z2U n r1 with
   | none=>none
   | some (l,r2)=>some (e::l,r2)
def Z2V:Nat→LU→Option (List BA×LU)
 | 0,r=>some ([],r)
 | n+1,r=>match ZS 32 r with
  | none=>none
  | some (p,r1)=>match Z2V n r1 with
   | none=>none
   | some (l,r2)=>some (⟨p.toArray⟩::l,r2)
def Z1R (r:LU):Option (BA×Int×BA):=
 match Z0j r with
 | none=>none
 | some (who,r1)=>match Z7 r1 with
  | none=>none
  | some (n,r2)=>match Z0j r2 with
   | none=>none
   | some (t,r3)=>some (⟨who.toArray⟩,(n:Int),⟨t.toArray⟩)
def Z2W (r:LU):Option Obj:=
 match Z7 r with
 | none=>none
 | some (n,r1)=>match Z2U n r1 with
  | none=>none
  | some (l,_)=>some { Obj.zero with kind:=2,ents:=l }
def Z1S (r:LU):Option Obj:=
 match ZS 32 r with
 | none=>none
 | some (t,r1)=>match Z7 r1 with
  | none=>none
  | some (n,r2)=>match Z2V n r2 with
   | none=>none
   | some (l,r3)=>match Z1R r3 with
    | none=>none
    | some (who,st,tx)=>some { Obj.zero with kind:=3,tree:=⟨t.toArray⟩,pars:=l,who:=who,stamp:=st,text:=tx }
def Z3O (r:LU):Option Obj:=
 match ZS 32 r with
 | none=>none
 | some (t,r1)=>match Z0j r1 with
  | none=>none
  | some (nm,r2)=>match Z1R r2 with
   | none=>none
   | some (who,st,tx)=>some { Obj.zero with kind:=4,target:=⟨t.toArray⟩,name:=⟨nm.toArray⟩,who:=who,stamp:=st,text:=tx }
def ZN (k:UInt8) (r:LU):Option Obj:=if k=1 then some { Obj.zero with kind:=1,data:=r } else if k=2 then Z2W r else if k=3 then Z1S r else if k=4 then Z3O r else none
def Z7n (b:LU):Option Obj:=
 match b with
 | []=>none
 | k::r=>ZN k r
theorem Zcn (r:LU):ZN 1 r=some { Obj.zero with kind:=1,data:=r }:=rfl
theorem Z6Q (r:LU):ZN 2 r=Z2W r:=rfl
theorem Z6R (r:LU):ZN 3 r=Z1S r:=rfl
theorem Z9l (r:LU):ZN 4 r=Z3O r:=rfl
def decO (ge:BA→BA→Bool) (b:LU):Option Obj:=
 match Z7n b with
 | none=>none
 | some o=>if Zb ge o=true∧encO o=b then some o else none
theorem Z0r (s:BA):(⟨s.data.toList.toArray⟩:BA)=s:=by cases s;simp
theorem Zz {s:BA} (h:s.size=0):s=⟨#[]⟩:=by
 have h1:s.data.toList=[]:=nZ (by rw [Zg];exact h);rw [←Z0r s,h1]
theorem Z2X {n:Nat} {a r:LU} (h:a.length=n):ZS n (a++r)=some (a,r):=by
 unfold ZS;rw [if_neg (by rw [List.length_append];omega),List.take_left' h,List.drop_left' h]
theorem Z4m {s:BA} {r:LU} (h:s.size≤1048576):Z0j (tx s++r)=some (s.data.toList,r):=by
 unfold Z0j tx;exact Z80 _ _ _ (by rw [Zg];omega) (by rw [Zg];unfold Ze;omega)
theorem Z8I {s:BA} (h:Z13 s=true):1≤s.size∧s.size≤100:=by
 unfold Z13 at h;simp only [Bool.and_eq_true,decide_eq_true_eq] at h;exact ⟨h.1.1.2,h.1.2⟩
theorem Zao {e:Ent} {r:LU} (h1:e.name.size≤1048576) (h2:e.id.size=32):Z0a (entB e++r)=some (e,r):=by
 unfold Z0a entB;rw [List.append_assoc,Z4m h1];simp only;have e1:((if e.dir then 1 else 0)::e.id.data.toList)++r=[if e.dir then 1 else 0]++(e.id.data.toList++r):=rfl;rw [e1,Z2X (by rfl)];simp only;rw [Z2X (by rw [Zg];exact h2)];simp only;rw [Z0r,Z0r]
 congr 2
 cases e with
 | mk nm d i=>cases d<;>rfl
theorem Z5j: ∀(l:List Ent) (r:LU),(∀e∈l,e.name.size≤1048576∧e.id.size=32)→Z2U l.length (l.flatMap entB++r)=some (l,r)
 | [],r,_=>rfl
 | e::l,r,h=>by
  rw [List.length_cons,Z2U,List.flatMap_cons,List.append_assoc,Zao (h e (by simp)).1 (h e (by simp)).2];simp only;rw [Z5j l r fun x hx=>h x (by simp [hx])]
theorem Z5k: ∀(l:List BA) (r:LU),(∀p∈l,p.size=32)→Z2V l.length (l.flatMap (fun p=>p.data.toList)++r)=some (l,r)
 | [],r,_=>rfl
 | p::l,r,h=>by
  rw [List.length_cons,Z2V,List.flatMap_cons,List.append_assoc,Z2X (by rw [Zg];exact h p (by simp))];simp only;rw [Z5k l r fun x hx=>h x (by simp [hx]),Z0r]
theorem Z1D {who text:BA} {stamp:Int} (h:Zt who stamp text=true):who.size≤1000∧text.size≤1000∧0≤stamp∧stamp≤1099511627776:=by
 unfold Zt at h;simp only [Bool.and_eq_true,decide_eq_true_eq] at h;exact ⟨h.1.1.1,h.1.1.2,h.1.2,h.2⟩
theorem Z5l {o:Obj} (h:Zt o.who o.stamp o.text=true):Z1R (Z6m o)=some (o.who,o.stamp,o.text):=by
 obtain ⟨h1,h2,h3,h4⟩:=Z1D h;unfold Z1R Z6m;rw [Z4m (by omega)];simp only;rw [Z0n _ _ (Z0v _)];simp only;have e1:=Z4m (s:=o.text) (r:=[]) (by omega);rw [List.append_nil] at e1;rw [e1];simp only;rw [Z0r,Z0r]
 congr 2
 rw [show ((Zk o.stamp:Nat):Int)=o.stamp by unfold Zk;omega]
theorem Z0o {ge:BA→BA→Bool} {l:List Ent} (h:Z14 ge l=true):Z2q ge l l.length∧l.length≤4096:=by
 unfold Z14 at h;simp only [Bool.and_eq_true,decide_eq_true_eq,List.all_eq_true,List.mem_range] at h;exact ⟨fun i hi=>h.1 i hi,h.2⟩
theorem Zap {ge:BA→BA→Bool} {l:List Ent} (h:Z2q ge l l.length):Z14 ge l=decide (l.length≤4096):=by
 unfold Z14;rw [show (List.range l.length).all (Z4F ge l)=true from List.all_eq_true.2 fun i hi=>h i (List.mem_range.1 hi),Bool.true_and]
theorem Z2h {ge:BA→BA→Bool} {l:List Ent} {i:Nat} (hi:i<l.length) (h:Z4F ge l i=false):Z14 ge l=false:=by
 unfold Z14;have h3:(List.range l.length).all (Z4F ge l)=false:=by
  rw [Bool.eq_false_iff];intro h2;have:=List.all_eq_true.1 h2 i (List.mem_range.2 hi);rw [h] at this;cases this
 rw [h3,Bool.false_and]
theorem Zco {ge:BA→BA→Bool} {l:List Ent} (h:Z2q ge l l.length): ∀e∈l,e.name.size≤1048576∧e.id.size=32:=by
 intro e he;obtain ⟨i,hi,rfl⟩:=List.getElem_of_mem he;have:=h i hi;unfold Z4F at this;rw [gE hi] at this;simp only [Bool.and_eq_true,decide_eq_true_eq] at this;have h1:=Z8I this.1.1;exact ⟨by omega,this.1.2⟩
theorem Z1e {l:List BA} (h:Z1d l=true):Z3f l l.length∧l.length≤4:=by
 unfold Z1d at h;simp only [Bool.and_eq_true,decide_eq_true_eq,List.all_eq_true,List.mem_range] at h;exact ⟨fun i hi=>h.1 i hi,h.2⟩
theorem Zaq {l:List BA} (h:Z3f l l.length):Z1d l=decide (l.length≤4):=by
 unfold Z1d;rw [show (List.range l.length).all (Z3N l)=true from List.all_eq_true.2 fun i hi=>h i (List.mem_range.1 hi),Bool.true_and]
theorem Z4n {l:List BA} {i:Nat} (hi:i<l.length) (h:Z3N l i=false):Z1d l=false:=by
 unfold Z1d;have h3:(List.range l.length).all (Z3N l)=false:=by
  rw [Bool.eq_false_iff];intro h2;have:=List.all_eq_true.1 h2 i (List.mem_range.2 hi);rw [h] at this;cases this
 rw [h3,Bool.false_and]
theorem Zcp {l:List BA} (h:Z3f l l.length): ∀p∈l,p.size=32:=by
 intro p hp;obtain ⟨i,hi,rfl⟩:=List.getElem_of_mem hp;have:=h i hi;unfold Z3N at this;rw [gE hi] at this;simp only [Bool.and_eq_true,decide_eq_true_eq] at this;exact this.1
theorem Z8J {o:Obj} (h:Z1Y o=true):o.who=⟨#[]⟩∧o.text=⟨#[]⟩∧o.stamp=0:=by
 unfold Z1Y at h;simp only [Bool.and_eq_true,decide_eq_true_eq] at h;exact ⟨Zz h.1.1,Zz h.1.2,h.2⟩
theorem Z3P {o:Obj} (h:ZU o=true):o.tree=⟨#[]⟩∧o.pars=[]:=by
 unfold ZU at h;simp only [Bool.and_eq_true,decide_eq_true_eq] at h;exact ⟨Zz h.1,nZ h.2⟩
theorem Z7o {o:Obj} (h:Z1Q o=true):o.target=⟨#[]⟩∧o.name=⟨#[]⟩:=by
 unfold Z1Q at h;simp only [Bool.and_eq_true,decide_eq_true_eq] at h;exact ⟨Zz h.1,Zz h.2⟩
theorem Z5N {o:Obj} (h:Z0Y o=true):o.data=[]:=nZ (of_decide_eq_true h)
theorem Z5O {o:Obj} (h:Z0Z o=true):o.ents=[]:=nZ (of_decide_eq_true h)
theorem ZcT {ge:BA→BA→Bool} {o:Obj} (h:Zb ge o=true):Z7n (encO o)=some o:=by
 unfold Zb at h;unfold encO
 by_cases k1:o.kind=1
 ·rw [if_pos k1] at h
  simp only [Bool.and_eq_true] at h;obtain ⟨e1,e2,e3⟩:=Z8J h.2.2;obtain ⟨e4,e5⟩:=Z7o h.2.1.2;obtain ⟨e6,e7⟩:=Z3P h.2.1.1.2;have e8:=Z5O h.2.1.1.1;obtain ⟨k,d,en,tr,pa,ta,na,wh,st,te⟩:=o;simp only at k1 e1 e2 e3 e4 e5 e6 e7 e8;subst k1 e1 e2 e3 e4 e5 e6 e7 e8
  rfl
 rw [if_neg k1] at h
 by_cases k2:o.kind=2
 ·rw [if_pos k2] at h
  simp only [Bool.and_eq_true] at h;obtain ⟨e1,e2,e3⟩:=Z8J h.2.2;obtain ⟨e4,e5⟩:=Z7o h.2.1.2;obtain ⟨e6,e7⟩:=Z3P h.2.1.1.2;have e8:=Z5N h.2.1.1.1;obtain ⟨hu,hl⟩:=Z0o h.1;have hm:=Z5j o.ents [] (Zco hu);rw [List.append_nil] at hm;rw [if_neg k1,if_pos k2,k2];show ZN 2 (Z4G o.ents)=_
  rw [Z6Q];unfold Z4G;unfold Z2W;rw [Z0n _ _ (by unfold Ze;omega)];simp only;rw [hm];obtain ⟨k,d,en,tr,pa,ta,na,wh,st,te⟩:=o;simp only at k2 e1 e2 e3 e4 e5 e6 e7 e8;subst k2 e1 e2 e3 e4 e5 e6 e7 e8
  rfl
 rw [if_neg k2] at h
 by_cases k3:o.kind=3
 ·rw [if_pos k3] at h
  simp only [Bool.and_eq_true,decide_eq_true_eq] at h;obtain ⟨e4,e5⟩:=Z7o h.2.2;have e6:=Z5O h.2.1.2;have e7:=Z5N h.2.1.1;obtain ⟨hu,hl⟩:=Z1e h.1.1.2;rw [if_neg k1,if_neg k2,if_pos k3,k3];show ZN 3 (o.tree.data.toList++(Z5i o.pars++Z6m o))=_
  rw [Z6R];unfold Z1S;rw [Z2X (by rw [Zg];exact h.1.1.1)];simp only;unfold Z5i;rw [List.append_assoc,Z0n _ _ (by unfold Ze;omega)];simp only;rw [Z5k _ _ (Zcp hu)];simp only;rw [Z5l h.1.2,Z0r];obtain ⟨k,d,en,tr,pa,ta,na,wh,st,te⟩:=o;simp only at k3 e4 e5 e6 e7;subst k3 e4 e5 e6 e7
  rfl
 rw [if_neg k3] at h
 by_cases k4:o.kind=4
 ·rw [if_pos k4] at h
  simp only [Bool.and_eq_true,decide_eq_true_eq] at h;obtain ⟨e4,e5⟩:=Z3P h.2.2;have e6:=Z5O h.2.1.2;have e7:=Z5N h.2.1.1;rw [if_neg k1,if_neg k2,if_neg k3,k4];show ZN 4 (o.target.data.toList++(tx o.name++Z6m o))=_
  rw [Z9l];unfold Z3O;rw [Z2X (by rw [Zg];exact h.1.1.1.1)];simp only;rw [Z4m (by have:=h.1.1.2;omega)];simp only;rw [Z5l h.1.2,Z0r,Z0r];obtain ⟨k,d,en,tr,pa,ta,na,wh,st,te⟩:=o;simp only at k4 e4 e5 e6 e7;subst k4 e4 e5 e6 e7
  rfl
 ·rw [if_neg k4] at h
  cases h
theorem Zfc {ge:BA→BA→Bool} {o:Obj} (h:Zb ge o=true):decO ge (encO o)=some o:=by
 unfold decO;rw [ZcT h];exact if_pos ⟨h,rfl⟩
theorem ZfV {ge:BA→BA→Bool} {b:LU} {o:Obj} (h:decO ge b=some o):Zb ge o=true∧encO o=b:=by
 unfold decO at h;split at h
 ·cases h
 ·split at h
  ·rename_i hc
   injection h with h
   subst h;exact hc
  ·cases h
end Go.Dol
namespace Go.Proofs.YtecpbcmpncgokaaGreat
open Go.RowKit Go.Dol
def Z8K (s:BA) (r:Bool):Prop:=r=(!s.data.toList.contains 0&& !s.data.toList.contains 47&&decide (1≤s.size)&&decide (s.size≤100)&&(!(s.toList==[46])&& !(s.toList==[46,46])))
theorem ZbK (s:BA) (w:World):Calls Tryz.prog 333 #[.string s] w fun e w'=>e= .returned (.bool (Z13 s))∧w=w':=by
 obtain ⟨r,hr⟩: ∃r,r=Z13 s:=⟨_,rfl⟩;rw [←hr];have HR:Z8K s r:=hr;clear hr
 by_cases h1:1≤s.size
 ·have d1:decide ((1:Int)≤(s.size:Int))=true:=by simp;omega
  have d1':(1:Int)≤(s.size:Int):=by omega
  by_cases h2:s.size≤100
  ·have d2:decide ((s.size:Int)≤100)=true:=by simp;omega
   have d2':(s.size:Int)≤100:=by omega
   cases h3:s.data.toList.contains 47 with
   | true=>
    have i3:=Z68 h3;obtain ⟨k,hk⟩: ∃k,k=Lib.indexByte s.data.toList 47:=⟨_,rfl⟩;rw [←hk] at i3;have K:=qI hk;have HF:Hid (r=false):=by unfold Hid Z8K at *; rw [HR,h3];simp
    have hk0:decide (k<0)=false:=by simp;omega
    clear hk h3 HR;go_in;go_wp2_with (go_at_call 172;refine (Z1J s 47 47 rfl _).mono ?_;rintro e w' ⟨rfl,rfl⟩;rw [←K.out]);go_ret;rw [HF.out];exact ⟨rfl,rfl⟩
   | false=>
    have i3:=qI (Z44 h3)
    cases h4:s.data.toList.contains 0 with
    | true=>
     have i4:=Z68 h4;obtain ⟨k,hk⟩: ∃k,k=Lib.indexByte s.data.toList 0:=⟨_,rfl⟩;rw [←hk] at i4;have K:=qI hk;have HF:Hid (r=false):=by unfold Hid Z8K at *; rw [HR,h4];simp
     have hk0:decide (k<0)=false:=by simp;omega
     clear hk h3 h4 HR;go_in
     go_wp2_with (first
      | (go_at_call 172;refine (Z1J s 47 47 rfl _).mono ?_;rintro e w' ⟨rfl,rfl⟩;rw [i3.out])
      | (go_at_call 172;refine (Z1J s 0 0 rfl _).mono ?_;rintro e w' ⟨rfl,rfl⟩;rw [←K.out]))
     go_ret;rw [HF.out];exact ⟨rfl,rfl⟩
    | false=>
     have i4:=qI (Z44 h4);have HF:Hid (r=(!(s.toList==[46])&& !(s.toList==[46,46]))):=by unfold Hid Z8K at *; rw [HR,h3,h4];simp [h1,h2]
     clear h3 h4 HR;go_in
     go_wp2_with (first
      | (go_at_call 172;refine (Z1J s 47 47 rfl _).mono ?_;rintro e w' ⟨rfl,rfl⟩;rw [i3.out])
      | (go_at_call 172;refine (Z1J s 0 0 rfl _).mono ?_;rintro e w' ⟨rfl,rfl⟩;rw [i4.out]))
     all_goals
      go_ret;rw [HF.out]
      first
       | exact ⟨rfl,rfl⟩
       | exact ⟨by simp [*],rfl⟩
  ·have d2:decide ((s.size:Int)≤100)=false:=by simp;omega
   have d2': ¬(s.size:Int)≤100:=by omega
   have HF:Hid (r=false):=by unfold Hid Z8K at *; rw [HR,qF h2];simp
   clear HR;go_in;go_wp2_with fail;go_ret;rw [HF.out];exact ⟨rfl,rfl⟩
 ·have d1:decide ((1:Int)≤(s.size:Int))=false:=by simp;omega
  have d1': ¬(1:Int)≤(s.size:Int):=by omega
  have HF:Hid (r=false):=by unfold Hid Z8K at *; rw [HR,qF h1];simp
  clear HR;go_in;go_wp2_with fail;go_ret;rw [HF.out];exact ⟨rfl,rfl⟩
theorem ZbL (s:BA) (w:World):Calls Tryz.prog 334 #[.string s] w fun e w'=>e= .returned (.bool (decide (s.size=32)))∧w=w':=by
 by_cases h:s.size=32
 ·have d:((s.size:Int)==32)=true:=beq_iff_eq.2 (by omega)
  have H:=qI h;clear h;go_in;go_wp2_with fail;go_ret;exact ⟨by rw [dT H.out];rfl,rfl⟩
 ·have d:((s.size:Int)==32)=false:=beq_eq_false_iff_ne.2 (by omega)
  have H:=qI h;clear h;go_in;go_wp2_with fail;go_ret;exact ⟨by rw [qF H.out];rfl,rfl⟩
theorem Z3x (who:BA) (stamp:Int) (text:BA) (w:World):Calls Tryz.prog 326 #[.agg #[.string who,.int .i64 stamp,.string text]] w fun e w'=>e= .returned (.bool (Zt who stamp text))∧Below w.heap.size w w':=by
 have hbel:Below w.heap.size w (w.alloc (.cells #[.string who,.int .i64 stamp,.string text] 213)):=(bR _ _).alloc (lR _) _
 by_cases h1:who.size≤1000
 ·have d1:decide ((who.size:Int)≤1000)=true:=by simp;omega
  by_cases h2:text.size≤1000
  ·have d2:decide ((text.size:Int)≤1000)=true:=by simp;omega
   by_cases h3:0≤stamp
   ·have d3:decide (0≤stamp)=true:=by simp;omega
    by_cases h4:stamp≤1099511627776
    ·have d4:decide (stamp≤1099511627776)=true:=by simp;omega
     have HF:Hid (Zt who stamp text=true):=by unfold Hid Zt;simp [h1,h2,h3,h4]
     clear h1 h2;go_in;go_wp2_with fail;go_ret;exact ⟨by rw [HF.out];rfl,hbel⟩
    ·have d4:decide (stamp≤1099511627776)=false:=by simp;omega
     have HF:Hid (Zt who stamp text=false):=by unfold Hid Zt;simp [h4]
     clear h1 h2;go_in;go_wp2_with fail;go_ret;exact ⟨by rw [HF.out];rfl,hbel⟩
   ·have d3:decide (0≤stamp)=false:=by simp;omega
    have HF:Hid (Zt who stamp text=false):=by unfold Hid Zt;simp [h3]
    clear h1 h2;go_in;go_wp2_with fail;go_ret;exact ⟨by rw [HF.out];rfl,hbel⟩
  ·have d2:decide ((text.size:Int)≤1000)=false:=by simp;omega
   have HF:Hid (Zt who stamp text=false):=by unfold Hid Zt;simp [h2]
   clear h1 h2;go_in;go_wp2_with fail;go_ret;exact ⟨by rw [HF.out];rfl,hbel⟩
 ·have d1:decide ((who.size:Int)≤1000)=false:=by simp;omega
  have HF:Hid (Zt who stamp text=false):=by unfold Hid Zt;simp [h1]
  clear h1;go_in;go_wp2_with fail;go_ret;exact ⟨by rw [HF.out];rfl,hbel⟩
end Go.Proofs.YtecpbcmpncgokaaGreat
namespace Go.Dol
open Go.RowKit
def pc (l:List BA):List Value:=l.map Value.string
def ec (l:List Ent):List Value:=l.flatMap fun e=>[.string e.name,.bool e.dir,.string e.id]
theorem Z8L (l:List BA):(pc l).length=l.length:=by simp [pc]
theorem Z8M (l:List Ent):(ec l).length=l.length*3:=by
 induction l with
 | nil=>rfl
 | cons e l ih=>unfold ec at *; simp only [List.flatMap_cons,List.length_append,List.length_cons,List.length_nil,ih];omega
theorem Z2K {l:List BA} {k:Nat} (h:k<l.length):(pc l)[k]?=some (.string l[k]):=by simp [pc,gE h]
theorem Z2L: ∀{l:List Ent} {k:Nat} (h:k<l.length),(ec l)[k*3]?=some (.string l[k].name)∧(ec l)[k*3+1]?=some (.bool l[k].dir)∧(ec l)[k*3+2]?=some (.string l[k].id)
 | [],k,h=>by simp at h
 | e::l,0,h=>⟨rfl,rfl,rfl⟩
 | e::l,k+1,h=>by
  have:=Z2L (l:=l) (k:=k) (by simpa using h);have e3: ∀j,(ec (e::l))[(k+1)*3+j]?=(ec l)[k*3+j]?:=fun j=>by
   show ([.string e.name,.bool e.dir,.string e.id]++ec l)[(k+1)*3+j]?=_
   rw [List.getElem?_append_right (by simp;omega)]
   congr 1
   simp;omega
  have h0:=e3 0;have h1:=e3 1;have h2:=e3 2;rw [Nat.add_zero,Nat.add_zero] at h0;rw [h0,h1,h2];exact this
theorem Z23 {x y:BA} (h:x.toList=y.toList):x=y:=by
 rw [ByteArray.toList_eq,ByteArray.toList_eq] at h;exact WideShapes.bytes_inj h
end Go.Dol
namespace Go.Proofs.YtecpbcmpncgokaaGreat
open Go.RowKit Go.Dol
def Zcq (p:Prop) (w:World) (e:Ending) (w':World):Prop:=∃ (v:Bool) (n:Nat),e= .returned (.bool v)∧(v=true↔p)∧w'=w.drewN n
theorem Zcr (w:World) (x0 y0 x2 y2:BA) (x1 y1:Bool):(binOp .neq 177 (.agg #[.string x0,.bool x1,.string x2]) (.agg #[.string y0,.bool y1,.string y2])).run Tryz.prog w= .ok (.bool (!(x0.toList==y0.toList&&(x1==y1&&x2.toList==y2.toList)))) w:=by
 go_simp
 by_cases h0:x0.toList=y0.toList<;>by_cases h1:x1=y1<;>by_cases h2:x2.toList=y2.toList<;>simp [h0,h1,h2]
theorem ZfW {x0 y0 x2 y2:BA} {x1 y1:Bool} (h: ¬(x0=y0∧x1=y1∧x2=y2)):(!(x0.toList==y0.toList&&(x1==y1&&x2.toList==y2.toList)))=true:=by
 rw [Bool.not_eq_true'];rw [Bool.eq_false_iff];intro h2;simp only [Bool.and_eq_true,beq_iff_eq] at h2;exact h ⟨Z23 h2.1,h2.2.1,Z23 h2.2.2⟩
def ZcU (a b:LU) (w:World) (i:Value) (wr:World):Prop:=
 ∃k q:Nat,i= .int .i64 k∧k≤a.length∧Hid (∀j,j<k→a[j]?=b[j]?)∧Hid (wr=w.drewN q)
theorem Z24 (A:OA) (a:LU) (c:Nat) (A2:OA) (b:LU) (c2:Nat) (w:World) (B B2:Nat) (hr:Rd w B 1 A a.length (bc a)) (hr2:Rd w B2 1 A2 b.length (bc b)) (ha:a.length≤140737488355328) (hb:b.length≤140737488355328):
  Calls Tryz.prog 161 #[.slice A a.length c,.slice A2 b.length c2] w (Zcq (a=b) w):=by
 by_cases hl:a.length=b.length
 ·have d0:((a.length:Int)!=(b.length:Int))=false:=by simp;omega
  have HL:=qI hl;have hl1:a.length≤b.length:=by omega
  clear hl;go_in;go_wp2_with fail;go_loopw [13] (fun i wr=>ZcU a b w i wr) (fun i _=>a.length-(intOf i).toNat)
  case atStart=>exact ⟨0,0,rfl,zL _,fun j hj=>by omega,rfl⟩
  case round=>
   obtain ⟨k,q,rfl,hk,hs,hwr⟩:=hrel;have hrw:Rd wr B 1 A a.length (bc a):=by rw [hwr.out];exact hr.drewN q
   have hrw2:Rd wr B2 1 A2 b.length (bc b):=by rw [hwr.out];exact hr2.drewN q
   have f1:IntKind.i64.wrap ((k:Int)+1)=(k:Int)+1:=qJ _ (by omega)
   by_cases h1:k<a.length
   ·have d1:decide ((k:Int)<(a.length:Int))=true:=by simp;omega
    have d1':(k:Int)<(a.length:Int):=by omega
    have d2':(k:Int)<(b.length:Int):=by omega
    have hk0:(0:Int)≤(k:Int):=by omega
    have h2:k<b.length:=by omega
    have hlen1:a.length≤9223372036854775807:=by omega
    obtain ⟨bb,off,rfl,hbb,hcell⟩:=hrw.at_ (by omega);obtain ⟨bb2,off2,rfl,hbb2,hcell2⟩:=hrw2.at_ (by omega);have c1:=hcell k _ (Z09 a k h1);have c2:=hcell2 k _ (Z09 b k h2);have g1:a[k]?=some a[k]:=gE h1;have g2:b[k]?=some b[k]:=gE h2;have G1:=qI g1;have G2:=qI g2;obtain ⟨x,hx⟩: ∃x,x=a[k]:=⟨_,rfl⟩;obtain ⟨y,hy⟩: ∃y,y=b[k]:=⟨_,rfl⟩;rw [←hx] at c1 G1;rw [←hy] at c2 G2;clear hx hy g1 g2 hcell hcell2
    by_cases h3:x=y
    ·subst h3
     have HS:Hid (∀j,j<k+1→a[j]?=b[j]?):=fun j hj=>by
      by_cases hjk:j=k
      ·rw [hjk,G1.out,G2.out]
      ·exact hs.out j (by omega)
     go_wp2_with fail;go_quiet (fail);go_wp2_with fail;refine ⟨⟨k+1,q+nq,by go_num,by omega,HS,by unfold Hid;rw [hwr.out,World.drewN_drewN]⟩,by simp [intOf];omega⟩
    ·have HN:Hid (¬a=b):=fun e=>by
      have h4:=G2.out;rw [←e,G1.out] at h4;injection h4 with h4
      exact h3 h4
     have hne:((x.toNat:Int)!=(y.toNat:Int))=true:=bne_iff_ne.2 fun e=>h3 (UInt8.toNat_inj.1 (by omega));go_wp2_with fail;go_quiet (fail);go_wp2_with fail;go_ret;exact ⟨false,q+nq,rfl,by simp [HN.out],by rw [hwr.out,World.drewN_drewN]⟩
   ·have d1:decide ((k:Int)<(a.length:Int))=false:=by simp;omega
    have d1': ¬(k:Int)<(a.length:Int):=by omega
    have HE:Hid (a=b):=List.ext_getElem? fun j=>by
     rcases Nat.lt_or_ge j a.length with hj | hj
     ·exact hs.out j (by omega)
     ·rw [List.getElem?_eq_none hj,List.getElem?_eq_none (by rw [←HL.out];exact hj)]
    go_wp2_with fail;go_ret;exact ⟨true,q,rfl,by simp [HE.out],hwr.out⟩
 ·have d0:((a.length:Int)!=(b.length:Int))=true:=bne_iff_ne.2 (by omega)
  have HN:Hid (¬a=b):=fun e=>hl (by rw [e]);clear hl;go_in;go_wp2_with fail;go_ret;exact ⟨false,0,rfl,by simp [HN.out],rfl⟩
def ZcV (a b:List BA) (w:World) (i:Value) (wr:World):Prop:=
 ∃k q:Nat,i= .int .i64 k∧k≤a.length∧Hid (∀j,j<k→a[j]?=b[j]?)∧Hid (wr=w.drewN q)
theorem Z9m (A:OA) (a:List BA) (c:Nat) (A2:OA) (b:List BA) (c2:Nat) (w:World) (B B2:Nat) (hr:Rd w B 1 A a.length (pc a)) (hr2:Rd w B2 1 A2 b.length (pc b)) (ha:a.length≤140737488355328) (hb:b.length≤140737488355328):
  Calls Tryz.prog 228 #[.slice A a.length c,.slice A2 b.length c2] w (Zcq (a=b) w):=by
 by_cases hl:a.length=b.length
 ·have d0:((a.length:Int)!=(b.length:Int))=false:=by simp;omega
  have HL:=qI hl;have hl1:a.length≤b.length:=by omega
  clear hl;go_in;go_wp2_with fail;go_loopw [13] (fun i wr=>ZcV a b w i wr) (fun i _=>a.length-(intOf i).toNat)
  case atStart=>exact ⟨0,0,rfl,zL _,fun j hj=>by omega,rfl⟩
  case round=>
   obtain ⟨k,q,rfl,hk,hs,hwr⟩:=hrel;have hrw:Rd wr B 1 A a.length (pc a):=by rw [hwr.out];exact hr.drewN q
   have hrw2:Rd wr B2 1 A2 b.length (pc b):=by rw [hwr.out];exact hr2.drewN q
   have f1:IntKind.i64.wrap ((k:Int)+1)=(k:Int)+1:=qJ _ (by omega)
   by_cases h1:k<a.length
   ·have d1:decide ((k:Int)<(a.length:Int))=true:=by simp;omega
    have d1':(k:Int)<(a.length:Int):=by omega
    have d2':(k:Int)<(b.length:Int):=by omega
    have hk0:(0:Int)≤(k:Int):=by omega
    have h2:k<b.length:=by omega
    have hlen1:a.length≤9223372036854775807:=by omega
    obtain ⟨bb,off,rfl,hbb,hcell⟩:=hrw.at_ (by omega);obtain ⟨bb2,off2,rfl,hbb2,hcell2⟩:=hrw2.at_ (by omega);have c1:=hcell k _ (Z2K h1);have c2:=hcell2 k _ (Z2K h2);have g1:a[k]?=some a[k]:=gE h1;have g2:b[k]?=some b[k]:=gE h2;have G1:=qI g1;have G2:=qI g2;obtain ⟨x,hx⟩: ∃x,x=a[k]:=⟨_,rfl⟩;obtain ⟨y,hy⟩: ∃y,y=b[k]:=⟨_,rfl⟩;rw [←hx] at c1 G1;rw [←hy] at c2 G2;clear hx hy g1 g2 hcell hcell2
    by_cases h3:x=y
    ·subst h3
     have HS:Hid (∀j,j<k+1→a[j]?=b[j]?):=fun j hj=>by
      by_cases hjk:j=k
      ·rw [hjk,G1.out,G2.out]
      ·exact hs.out j (by omega)
     go_wp2_with fail;go_quiet (fail);go_wp2_with fail;refine ⟨⟨k+1,q+nq,by go_num,by omega,HS,by unfold Hid;rw [hwr.out,World.drewN_drewN]⟩,by simp [intOf];omega⟩
    ·have HN:Hid (¬a=b):=fun e=>by
      have h4:=G2.out;rw [←e,G1.out] at h4;injection h4 with h4
      exact h3 h4
     have hne:(x.toList==y.toList)=false:=beq_eq_false_iff_ne.2 fun e=>h3 (Z23 e);go_wp2_with fail;go_quiet (fail);go_wp2_with fail;go_ret;exact ⟨false,q+nq,rfl,by simp [HN.out],by rw [hwr.out,World.drewN_drewN]⟩
   ·have d1:decide ((k:Int)<(a.length:Int))=false:=by simp;omega
    have d1': ¬(k:Int)<(a.length:Int):=by omega
    have HE:Hid (a=b):=List.ext_getElem? fun j=>by
     rcases Nat.lt_or_ge j a.length with hj | hj
     ·exact hs.out j (by omega)
     ·rw [List.getElem?_eq_none hj,List.getElem?_eq_none (by rw [←HL.out];exact hj)]
    go_wp2_with fail;go_ret;exact ⟨true,q,rfl,by simp [HE.out],hwr.out⟩
 ·have d0:((a.length:Int)!=(b.length:Int))=true:=bne_iff_ne.2 (by omega)
  have HN:Hid (¬a=b):=fun e=>hl (by rw [e]);clear hl;go_in;go_wp2_with fail;go_ret;exact ⟨false,0,rfl,by simp [HN.out],rfl⟩
def Z9n (a b:List BA) (w:World) (i:Value) (wr:World):Prop:=
 ∃k q:Nat,i= .int .i64 k∧k≤a.length∧Hid (∀j,j<k→a[j]?=b[j]?)∧Hid (wr=w.drewN q)
theorem Z6D (A:OA) (a:List BA) (c:Nat) (A2:OA) (b:List BA) (c2:Nat) (w:World) (B B2:Nat) (hr:Rd w B 1 A a.length (pc a)) (hr2:Rd w B2 1 A2 b.length (pc b)) (ha:a.length≤140737488355328) (hb:b.length≤140737488355328):
  Calls Tryz.prog 20 #[.slice A a.length c,.slice A2 b.length c2] w (Zcq (a=b) w):=by
 by_cases hl:a.length=b.length
 ·have d0:((a.length:Int)!=(b.length:Int))=false:=by simp;omega
  have HL:=qI hl;have hl1:a.length≤b.length:=by omega
  clear hl;go_in;go_wp2_with fail;go_loopw [5] (fun i wr=>Z9n a b w i wr) (fun i _=>a.length-(intOf i).toNat)
  case atStart=>exact ⟨0,0,rfl,zL _,fun j hj=>by omega,rfl⟩
  case round=>
   obtain ⟨k,q,rfl,hk,hs,hwr⟩:=hrel;have hrw:Rd wr B 1 A a.length (pc a):=by rw [hwr.out];exact hr.drewN q
   have hrw2:Rd wr B2 1 A2 b.length (pc b):=by rw [hwr.out];exact hr2.drewN q
   have f1:IntKind.i64.wrap ((k:Int)+1)=(k:Int)+1:=qJ _ (by omega)
   by_cases h1:k<a.length
   ·have d1:decide ((k:Int)<(a.length:Int))=true:=by simp;omega
    have d1':(k:Int)<(a.length:Int):=by omega
    have d2':(k:Int)<(b.length:Int):=by omega
    have hk0:(0:Int)≤(k:Int):=by omega
    have h2:k<b.length:=by omega
    have hlen1:a.length≤9223372036854775807:=by omega
    obtain ⟨bb,off,rfl,hbb,hcell⟩:=hrw.at_ (by omega);obtain ⟨bb2,off2,rfl,hbb2,hcell2⟩:=hrw2.at_ (by omega);have c1:=hcell k _ (Z2K h1);have c2:=hcell2 k _ (Z2K h2);have g1:a[k]?=some a[k]:=gE h1;have g2:b[k]?=some b[k]:=gE h2;have G1:=qI g1;have G2:=qI g2;obtain ⟨x,hx⟩: ∃x,x=a[k]:=⟨_,rfl⟩;obtain ⟨y,hy⟩: ∃y,y=b[k]:=⟨_,rfl⟩;rw [←hx] at c1 G1;rw [←hy] at c2 G2;clear hx hy g1 g2 hcell hcell2
    by_cases h3:x=y
    ·subst h3
     have HS:Hid (∀j,j<k+1→a[j]?=b[j]?):=fun j hj=>by
      by_cases hjk:j=k
      ·rw [hjk,G1.out,G2.out]
      ·exact hs.out j (by omega)
     go_wp2_with fail;go_quiet (fail);go_wp2_with fail;refine ⟨⟨k+1,q+nq,by go_num,by omega,HS,by unfold Hid;rw [hwr.out,World.drewN_drewN]⟩,by simp [intOf];omega⟩
    ·have HN:Hid (¬a=b):=fun e=>by
      have h4:=G2.out;rw [←e,G1.out] at h4;injection h4 with h4
      exact h3 h4
     have hne:(x.toList==y.toList)=false:=beq_eq_false_iff_ne.2 fun e=>h3 (Z23 e);go_wp2_with fail;go_quiet (fail);go_wp2_with fail;go_ret;exact ⟨false,q+nq,rfl,by simp [HN.out],by rw [hwr.out,World.drewN_drewN]⟩
   ·have d1:decide ((k:Int)<(a.length:Int))=false:=by simp;omega
    have d1': ¬(k:Int)<(a.length:Int):=by omega
    have HE:Hid (a=b):=List.ext_getElem? fun j=>by
     rcases Nat.lt_or_ge j a.length with hj | hj
     ·exact hs.out j (by omega)
     ·rw [List.getElem?_eq_none hj,List.getElem?_eq_none (by rw [←HL.out];exact hj)]
    go_wp2_with fail;go_ret;exact ⟨true,q,rfl,by simp [HE.out],hwr.out⟩
 ·have d0:((a.length:Int)!=(b.length:Int))=true:=bne_iff_ne.2 (by omega)
  have HN:Hid (¬a=b):=fun e=>hl (by rw [e]);clear hl;go_in;go_wp2_with fail;go_ret;exact ⟨false,0,rfl,by simp [HN.out],rfl⟩
def ZcW (a b:List Ent) (w:World) (i:Value) (wr:World):Prop:=
 ∃k q:Nat,i= .int .i64 k∧k≤a.length∧Hid (∀j,j<k→a[j]?=b[j]?)∧Hid (wr=w.drewN q)
theorem Z9o (A:OA) (a:List Ent) (c:Nat) (A2:OA) (b:List Ent) (c2:Nat) (w:World) (B B2:Nat) (hr:Rd w B 3 A a.length (ec a)) (hr2:Rd w B2 3 A2 b.length (ec b)) (ha:a.length≤140737488355328) (hb:b.length≤140737488355328):
  Calls Tryz.prog 227 #[.slice A a.length c,.slice A2 b.length c2] w (Zcq (a=b) w):=by
 by_cases hl:a.length=b.length
 ·have d0:((a.length:Int)!=(b.length:Int))=false:=by simp;omega
  have HL:=qI hl;have hl1:a.length≤b.length:=by omega
  clear hl;go_in;go_wp2_with fail;go_loopw [13] (fun i wr=>ZcW a b w i wr) (fun i _=>a.length-(intOf i).toNat)
  case atStart=>exact ⟨0,0,rfl,zL _,fun j hj=>by omega,rfl⟩
  case round=>
   obtain ⟨k,q,rfl,hk,hs,hwr⟩:=hrel;have hrw:Rd wr B 3 A a.length (ec a):=by rw [hwr.out];exact hr.drewN q
   have hrw2:Rd wr B2 3 A2 b.length (ec b):=by rw [hwr.out];exact hr2.drewN q
   have f1:IntKind.i64.wrap ((k:Int)+1)=(k:Int)+1:=qJ _ (by omega)
   by_cases h1:k<a.length
   ·have d1:decide ((k:Int)<(a.length:Int))=true:=by simp;omega
    have d1':(k:Int)<(a.length:Int):=by omega
    have d2':(k:Int)<(b.length:Int):=by omega
    have hk0:(0:Int)≤(k:Int):=by omega
    have h2:k<b.length:=by omega
    have hlen1:a.length≤9223372036854775807:=by omega
    obtain ⟨bb,off,rfl,hbb,hcell⟩:=hrw.at_ (by omega);obtain ⟨bb2,off2,rfl,hbb2,hcell2⟩:=hrw2.at_ (by omega);obtain ⟨p0,p1,p2⟩:=Z2L h1;obtain ⟨r0,r1,r2⟩:=Z2L h2;have c0:=hcell _ _ p0;have c1:wr.cell? ⟨bb,off+k*3+1,none⟩=_:=hcell _ _ p1;have c2:wr.cell? ⟨bb,off+k*3+2,none⟩=_:=hcell _ _ p2;have e0:=hcell2 _ _ r0;have e1:wr.cell? ⟨bb2,off2+k*3+1,none⟩=_:=hcell2 _ _ r1;have e2:wr.cell? ⟨bb2,off2+k*3+2,none⟩=_:=hcell2 _ _ r2;have g1:a[k]?=some a[k]:=gE h1;have g2:b[k]?=some b[k]:=gE h2;have G1:=qI g1;have G2:=qI g2;obtain ⟨x,hx⟩: ∃x,x=a[k]:=⟨_,rfl⟩;obtain ⟨y,hy⟩: ∃y,y=b[k]:=⟨_,rfl⟩;rw [←hx] at c0 c1 c2 G1;rw [←hy] at e0 e1 e2 G2;obtain ⟨x0,x1,x2⟩:=x;obtain ⟨y0,y1,y2⟩:=y;simp only at c0 c1 c2 e0 e1 e2;clear hx hy g1 g2 hcell hcell2 p0 p1 p2 r0 r1 r2
    by_cases h3:x0=y0∧x1=y1∧x2=y2
    ·obtain ⟨rfl,rfl,rfl⟩:=h3
     have HS:Hid (∀j,j<k+1→a[j]?=b[j]?):=fun j hj=>by
      by_cases hjk:j=k
      ·rw [hjk,G1.out,G2.out]
      ·exact hs.out j (by omega)
     have heq: ∀w:World,(binOp .neq 177 (.agg #[.string x0,.bool x1,.string x2]) (.agg #[.string x0,.bool x1,.string x2])).run Tryz.prog w= .ok (.bool false) w:=fun w=>by rw [Zcr];simp
     go_wp2_with fail;go_quiet (fail);go_wp2_with fail;refine ⟨⟨k+1,q+nq,by go_num,by omega,HS,by unfold Hid;rw [hwr.out,World.drewN_drewN]⟩,by simp [intOf];omega⟩
    ·have HN:Hid (¬a=b):=fun e=>by
      have h4:=G2.out;rw [←e,G1.out] at h4;injection h4 with h4
      injection h4 with q1 q2 q3
      exact h3 ⟨q1,q2,q3⟩
     have heq: ∀w:World,(binOp .neq 177 (.agg #[.string x0,.bool x1,.string x2]) (.agg #[.string y0,.bool y1,.string y2])).run Tryz.prog w= .ok (.bool true) w:=fun w=>by
      rw [Zcr,ZfW h3]
     go_wp2_with fail;go_quiet (fail);go_wp2_with fail;go_ret;exact ⟨false,q+nq,rfl,by simp [HN.out],by rw [hwr.out,World.drewN_drewN]⟩
   ·have d1:decide ((k:Int)<(a.length:Int))=false:=by simp;omega
    have d1': ¬(k:Int)<(a.length:Int):=by omega
    have HE:Hid (a=b):=List.ext_getElem? fun j=>by
     rcases Nat.lt_or_ge j a.length with hj | hj
     ·exact hs.out j (by omega)
     ·rw [List.getElem?_eq_none hj,List.getElem?_eq_none (by rw [←HL.out];exact hj)]
    go_wp2_with fail;go_ret;exact ⟨true,q,rfl,by simp [HE.out],hwr.out⟩
 ·have d0:((a.length:Int)!=(b.length:Int))=true:=bne_iff_ne.2 (by omega)
  have HN:Hid (¬a=b):=fun e=>hl (by rw [e]);clear hl;go_in;go_wp2_with fail;go_ret;exact ⟨false,0,rfl,by simp [HN.out],rfl⟩
def geS (a b:BA):Bool:=!(Op.bytesLess a.toList b.toList)
theorem Z5m (s:BA) (v:Bool) (h:Hid (Z13 s=v)) (w:World):Calls Tryz.prog 333 #[.string s] w fun e w'=>e= .returned (.bool v)∧w'=w:=
 (ZbK s w).mono fun e w' ⟨h1,h2⟩=>⟨by rw [h1,h.out],h2.symm⟩
theorem Z0O (s:BA) (v:Bool) (h:Hid (decide (s.size=32)=v)) (w:World):Calls Tryz.prog 334 #[.string s] w fun e w'=>e= .returned (.bool v)∧w'=w:=
 (ZbL s w).mono fun e w' ⟨h1,h2⟩=>⟨by rw [h1,h.out],h2.symm⟩
theorem Z6E (A:OA) (n c:Nat) (w:World):Calls Tryz.prog 329 #[.agg #[.slice A n c]] w fun e w'=>e= .returned (.bool (decide (n≤1048576)))∧Below w.heap.size w w':=by
 have hbel:Below w.heap.size w (w.alloc (.cells #[.slice A n c] 215)):=(bR _ _).alloc (lR _) _
 by_cases h:n≤1048576
 ·have d:decide ((n:Int)≤1048576)=true:=by simp;omega
  have H:=qI h;clear h;go_in;go_wp2_with fail;go_ret;exact ⟨by rw [dT H.out];rfl,hbel⟩
 ·have d:decide ((n:Int)≤1048576)=false:=by simp;omega
  have H:=qI h;clear h;go_in;go_wp2_with fail;go_ret;exact ⟨by rw [qF H.out];rfl,hbel⟩
def Zfd (l:List Ent) (A:OA) (c g:Nat) (w:World) (i:Value) (wr:World):Prop:=
 ∃k:Nat,i= .int .i64 k∧k≤l.length∧Hid (Z2q geS l k)∧Blk wr g 217 [.slice A l.length c]∧Below w.heap.size w wr
theorem ZdQ {l:List Ent} {k:Nat} {e:Ent} (h:l[k]?=some e):Z4F geS l k=(Z13 e.name&&decide (e.id.size=32)&&Zcm geS l e.name k):=by
 unfold Z4F;rw [h]
theorem Zar {l:List Ent} {j:Nat} {p:Ent} {nm:BA} (h:l[j]?=some p):Zcm geS l nm (j+1)= !geS p.name nm:=by
 show (match l[j]? with | none=>true | some p=> !geS p.name nm)=_
 rw [h]
theorem Z2z {l:List Ent} {k:Nat} (h:Z2q geS l k) (hk:Z4F geS l k=true):Z2q geS l (k+1):=fun i hi=>by
 by_cases e:i=k
 ·rw [e];exact hk
 ·exact h i (by omega)
theorem Z6F (A:OA) (l:List Ent) (c:Nat) (w:World) (hr:Rd w w.heap.size 3 A l.length (ec l)) (hl:l.length≤140737488355328):
  Calls Tryz.prog 332 #[.agg #[.slice A l.length c]] w fun e w'=>e= .returned (.bool (Z14 geS l))∧Below w.heap.size w w':=by
 obtain ⟨r,hre⟩: ∃r,r=Z14 geS l:=⟨_,rfl⟩;rw [←hre];have HR:=qI hre;clear hre;have hB:=Blk.new w 217 [.slice A l.length c];have hb0:Below w.heap.size w (w.alloc (.cells #[.slice A l.length c] 217)):=(bR _ _).alloc (lR _) _;go_in;go_wp2_with fail;obtain ⟨g,hg⟩: ∃g,g=w.heap.size:=⟨_,rfl⟩;obtain ⟨w0,hw0⟩: ∃w0,w0=w.alloc (.cells #[.slice A l.length c] 217):=⟨_,rfl⟩;change Blk (w.alloc (.cells #[.slice A l.length c] 217)) _ _ _ at hB;rw [←hw0] at hB hb0 ⊢;rw [←hg] at hB ⊢;have HG:=qI hg;clear hw0 hg;go_loopw [8] (fun i wr=>Zfd l A c g w i wr) (fun i _=>l.length-(intOf i).toNat)
 case atStart=>exact ⟨0,rfl,zL _,fun i hi=>by omega,hB,hb0⟩
 case round=>
  clear hB hb0;obtain ⟨k,rfl,hk,hup,hB,hbel⟩:=hrel;have c0:wr.cell? ⟨g,0,none⟩=some (.slice A l.length c):=by rw [hB.cell];rfl
  have hgl:=hB.lt;have f1:IntKind.i64.wrap ((k:Int)+1)=(k:Int)+1:=qJ _ (by omega)
  by_cases h1:k<l.length
  ·have d1:decide ((k:Int)<(l.length:Int))=true:=by simp;omega
   have d1':(k:Int)<(l.length:Int):=by omega
   have hk0:(0:Int)≤(k:Int):=by omega
   have hlen1:l.length≤9223372036854775807:=by omega
   have hrw:=hr.below hbel;obtain ⟨bb,off,rfl,hbb,hcell⟩:=hrw.at_ (by omega);obtain ⟨p0,p1,p2⟩:=Z2L h1;have q0:=hcell _ _ p0;have q1:wr.cell? ⟨bb,off+k*3+1,none⟩=_:=hcell _ _ p1;have q2:wr.cell? ⟨bb,off+k*3+2,none⟩=_:=hcell _ _ p2;have g1:l[k]?=some l[k]:=gE h1;obtain ⟨x,hx⟩: ∃x,x=l[k]:=⟨_,rfl⟩;rw [←hx] at q0 q1 q2 g1;have hat:=qI (ZdQ g1);obtain ⟨x0,x1,x2⟩:=x;simp only at q0 q1 q2 hat;clear hx p0 p1 p2 g1;have hbbl:bb<wr.heap.size:=by have:=hbel.size;omega
   have hB1:=hB.alloc (.cells #[.string x0,.bool x1,.string x2] 177);have hb1:Below w.heap.size w (wr.alloc (.cells #[.string x0,.bool x1,.string x2] 177)):=hbel.alloc hbel.size _
   cases hp:Z13 x0 with
   | false=>
    have HF:Hid (r=false):=by unfold Hid;rw [HR.out,Z2h h1 (by rw [hat.out,hp];rfl)]
    have HP:=qI hp;clear hp hcell;go_wp2_with fail;go_quiet ((go_at_call 333;exact Calls.quiet_of_same (Z5m x0 _ HP _)));go_wp2_with fail;go_ret;rw [HF.out];exact ⟨rfl,hb1.drewN' nq⟩
   | true=>
    have HP:=qI hp
    cases hi:decide (x2.size=32) with
    | false=>
     have HF:Hid (r=false):=by unfold Hid;rw [HR.out,Z2h h1 (by rw [hat.out,hi];simp)]
     have HI:=qI hi;clear hp hi hcell;go_wp2_with fail;go_quiet ((first | (go_at_call 333;exact Calls.quiet_of_same (Z5m x0 _ HP _)) | (go_at_call 334;exact Calls.quiet_of_same (Z0O x2 _ HI _))));go_wp2_with fail;go_ret;rw [HF.out];exact ⟨rfl,hb1.drewN' nq⟩
    | true=>
     have HI:=qI hi;rcases Nat.eq_zero_or_pos k with hz | hz
     ·have HU:Hid (Z2q geS l (k+1)):=Z2z hup.out (by rw [hat.out,hp,hi,hz];rfl)
      have dz:decide ((0:Int)<(k:Int))=false:=by simp;omega
      have dz': ¬(0:Int)<(k:Int):=by omega
      have dzn:decide (0<k)=false:=by simp;omega
      clear hp hi hz hcell;go_wp2_with fail;go_quiet ((first | (go_at_call 333;exact Calls.quiet_of_same (Z5m x0 _ HP _)) | (go_at_call 334;exact Calls.quiet_of_same (Z0O x2 _ HI _))));go_wp2_with fail;exact ⟨⟨k+1,by go_num,by omega,HU,hB1.drewN nq,hb1.drewN' nq⟩,by simp [intOf];omega⟩
     ·obtain ⟨j,rfl⟩: ∃j,k=j+1:=⟨k-1,by omega⟩
      have hj:j<l.length:=by omega
      obtain ⟨t0,_,_⟩:=Z2L hj;have q3:=hcell _ _ t0;have g1:l[j]?=some l[j]:=gE hj;obtain ⟨y,hy⟩: ∃y,y=l[j]:=⟨_,rfl⟩;rw [←hy] at q3 g1;have hord:=qI (Zar (nm:=x0) g1);obtain ⟨y0,y1,y2⟩:=y;simp only at q3 hord;have dz:decide ((0:Int)<((j+1:Nat):Int))=true:=dT (by omega);have dz':(0:Int)<((j+1:Nat):Int):=by omega
      have fj:IntKind.i64.wrap (((j+1:Nat):Int)-1)=(j:Int):=(qJ _ (by omega)).trans (by omega);have fj2:IntKind.i64.wrap ((j:Int)+1-1)=(j:Int):=(qJ _ (by omega)).trans (by omega);have fj3:(j:Int)<(l.length:Int):=by omega
      have fj4:(0:Int)≤(j:Int):=by omega
      cases hge:Op.bytesLess y0.toList x0.toList with
      | false=>
       have HF:Hid (r=false):=by
        unfold Hid;rw [HR.out,Z2h h1 (by rw [hat.out,hord.out];unfold geS;rw [hge];simp)]
       clear hp hi hy g1 t0 hcell;go_wp2_with fail;go_quiet ((first | (go_at_call 333;exact Calls.quiet_of_same (Z5m x0 _ HP _)) | (go_at_call 334;exact Calls.quiet_of_same (Z0O x2 _ HI _))));go_wp2_with fail;go_ret;rw [HF.out];exact ⟨rfl,hb1.drewN' nq⟩
      | true=>
       have HU:Hid (Z2q geS l (j+1+1)):=Z2z hup.out (by rw [hat.out,hord.out,hp,hi];unfold geS;rw [hge];rfl);clear hp hi hy g1 t0 hcell;go_wp2_with fail;go_quiet ((first | (go_at_call 333;exact Calls.quiet_of_same (Z5m x0 _ HP _)) | (go_at_call 334;exact Calls.quiet_of_same (Z0O x2 _ HI _))));go_wp2_with fail;exact ⟨⟨j+1+1,by go_num,by omega,HU,hB1.drewN nq,hb1.drewN' nq⟩,by simp [intOf];omega⟩
  ·have d1:decide ((k:Int)<(l.length:Int))=false:=by simp;omega
   have d1': ¬(k:Int)<(l.length:Int):=by omega
   have hkl:k=l.length:=by omega
   have HE:Hid (r=decide (l.length≤4096)):=by unfold Hid;rw [HR.out,Zap (by rw [←hkl];exact hup.out)]
   by_cases h2:l.length≤4096
   ·have d2:decide ((l.length:Int)≤4096)=true:=by simp;omega
    have HT:Hid (r=true):=by unfold Hid;rw [HE.out,dT h2]
    clear hkl h2;go_wp2_with fail;go_ret;rw [HT.out];exact ⟨rfl,hbel⟩
   ·have d2:decide ((l.length:Int)≤4096)=false:=by simp;omega
    have HT:Hid (r=false):=by unfold Hid;rw [HE.out,qF h2]
    clear hkl h2;go_wp2_with fail;go_ret;rw [HT.out];exact ⟨rfl,hbel⟩
end Go.Proofs.YtecpbcmpncgokaaGreat
namespace Go.Dol
open Go.RowKit
def Z8N (l:List BA):List (Value×Value):=l.map fun p=>(Value.string p,Value.int .i64 1)
theorem Zas {l:List BA} {p:BA}:hasS l p=true↔p∈l:=by
 unfold hasS;rw [List.any_eq_true];constructor
 ·rintro ⟨x,hx,e⟩
  rw [←Z23 (beq_iff_eq.1 e)];exact hx
 ·intro h
  exact ⟨p,h,beq_iff_eq.2 rfl⟩
theorem Z8O {l:List BA} {p:BA} (h:hasS l p=false): ∀q∈Z8N l,q.1≠Value.string p:=by
 intro q hq e;obtain ⟨x,hx,rfl⟩:=List.mem_map.1 hq;injection e with e
 subst e;rw [Zas.2 hx] at h;cases h
theorem ZcX {l:List BA} {p:BA} (h:hasS l p=true):(Value.string p,Value.int .i64 1)∈Z8N l:=List.mem_map.2 ⟨p,Zas.1 h,rfl⟩
theorem ZdR {l:List BA} {p:BA} {v:Value} (h:(Value.string p,v)∈Z8N l):v= .int .i64 1:=by
 obtain ⟨x,hx,e⟩:=List.mem_map.1 h;injection e with _ e
 exact e.symm
theorem ZfX {l:List BA} {k:Nat} {p:BA} (h:l[k]?=some p):Z3N l k=(decide (p.size=32)&& !hasS (l.take k) p):=by
 unfold Z3N;rw [h]
theorem Zat {l:List BA} {k:Nat} (h:Z3f l k) (hk:Z3N l k=true):Z3f l (k+1):=fun i hi=>by
 by_cases e:i=k
 ·rw [e];exact hk
 ·exact h i (by omega)
end Go.Dol
namespace Go.Proofs.YtecpbcmpncgokaaGreat
open Go.RowKit Go.Dol
theorem Z2i:Go.Maps.Keyed Tryz.prog 9:=Go.Maps.string_keyed Tryz.underlying9
theorem Z5n (w:World):(zeroValue 3).run Tryz.prog w= .ok (.int .i64 0) w:=by kernel_rfl
theorem Zcs {al:List (Value×Value)} {k u v:Value} (h:(al.map Prod.fst).Nodup) (h1:(k,u)∈al) (h2:(k,v)∈al):u=v:=by
 induction al with
 | nil=>cases h1
 | cons p ps ih=>
  rw [List.map_cons,List.nodup_cons] at h;rcases List.mem_cons.1 h1 with e1 | h1<;>rcases List.mem_cons.1 h2 with e2 | h2
  ·rw [←e1] at e2;injection e2 with _ e2;exact e2.symm
  ·exact absurd (List.mem_map.2 ⟨_,h2,by rw [←e1]⟩) h.1
  ·exact absurd (List.mem_map.2 ⟨_,h1,by rw [←e2]⟩) h.1
  ·exact ih h.2 h1 h2
theorem Z7p (target name who:BA) (stamp:Int) (text:BA) (w:World):Calls Tryz.prog 340 #[.agg #[.string target,.string name,.string who,.int .i64 stamp,.string text]] w fun e w'=>
  e= .returned (.bool (decide (target.size=32)&&decide (1≤name.size)&&decide (name.size≤200)&&Zt who stamp text))∧Below w.heap.size w w':=by
 obtain ⟨r,hre⟩: ∃r,r=(decide (target.size=32)&&decide (1≤name.size)&&decide (name.size≤200)&&Zt who stamp text):=⟨_,rfl⟩;rw [←hre];have HR:=qI hre;clear hre;have hb0:Below w.heap.size w (w.alloc (.cells #[.string target,.string name,.string who,.int .i64 stamp,.string text] 221)):=(bR _ _).alloc (lR _) _
 cases h1:decide (target.size=32) with
 | false=>
  have H1:=qI h1;have HF:Hid (r=false):=by unfold Hid;rw [HR.out,h1];rfl
  clear h1;go_in;go_wp2_with (go_at_call 334;refine (Z0O target _ H1 _).mono ?_;rintro e w' ⟨rfl,rfl⟩);go_ret;rw [HF.out];exact ⟨rfl,hb0⟩
 | true=>
  have H1:=qI h1
  by_cases h2:1≤name.size
  ·have d2:decide ((1:Int)≤(name.size:Int))=true:=dT (by omega)
   by_cases h3:name.size≤200
   ·have d3:decide ((name.size:Int)≤200)=true:=dT (by omega)
    have HF:Hid (r=Zt who stamp text):=by unfold Hid;rw [HR.out,h1];simp [h2,h3]
    clear h1 h2 h3;go_in;go_wp2_with (first | (go_at_call 334;refine (Z0O target _ H1 _).mono ?_;rintro e w' ⟨rfl,rfl⟩) | (go_at_call 326;refine (Z3x who stamp text _).mono ?_;rintro e w1 ⟨rfl,hb1⟩));go_ret;rw [HF.out];exact ⟨rfl,hb0.next hb1⟩
   ·have d3:decide ((name.size:Int)≤200)=false:=qF (by omega)
    have HF:Hid (r=false):=by unfold Hid;rw [HR.out];simp [h3]
    clear h1 h2 h3;go_in;go_wp2_with (go_at_call 334;refine (Z0O target _ H1 _).mono ?_;rintro e w' ⟨rfl,rfl⟩);go_ret;rw [HF.out];exact ⟨rfl,hb0⟩
  ·have d2:decide ((1:Int)≤(name.size:Int))=false:=qF (by omega)
   have HF:Hid (r=false):=by unfold Hid;rw [HR.out];simp [h2]
   clear h1 h2;go_in;go_wp2_with (go_at_call 334;refine (Z0O target _ H1 _).mono ?_;rintro e w' ⟨rfl,rfl⟩);go_ret;rw [HF.out];exact ⟨rfl,hb0⟩
def ZcY (l:List BA) (tree:BA) (A:OA) (c:Nat) (who:BA) (stamp:Int) (text:BA) (g B:Nat) (w:World) (i:Value) (wr:World):Prop:=
 ∃k:Nat,i= .int .i64 k∧k≤l.length∧Hid (Z3f l k)∧Blk wr g 219 [.string tree,.slice A l.length c,.string who,.int .i64 stamp,.string text]∧MapL Tryz.prog 9 wr B (Z8N (l.take k))∧Below w.heap.size w wr
theorem Z5o (tree:BA) (A:OA) (l:List BA) (c:Nat) (who:BA) (stamp:Int) (text:BA) (w:World) (hr:Rd w w.heap.size 1 A l.length (pc l)) (hl:l.length≤140737488355328) (hsz:Hid (∀p∈l,p.size≤maxLen)):
  Calls Tryz.prog 337 #[.agg #[.string tree,.slice A l.length c,.string who,.int .i64 stamp,.string text]] w fun e w'=>e= .returned (.bool (decide (tree.size=32)&&Z1d l&&Zt who stamp text))∧Below w.heap.size w w':=by
 obtain ⟨r,hre⟩: ∃r,r=(decide (tree.size=32)&&Z1d l&&Zt who stamp text):=⟨_,rfl⟩;rw [←hre];have HR:=qI hre;clear hre;have hB:=Blk.new w 219 [.string tree,.slice A l.length c,.string who,.int .i64 stamp,.string text];have hb0:Below w.heap.size w (w.alloc (.cells #[.string tree,.slice A l.length c,.string who,.int .i64 stamp,.string text] 219)):=(bR _ _).alloc (lR _) _;have hs0:(w.alloc (.cells #[.string tree,.slice A l.length c,.string who,.int .i64 stamp,.string text] 219)).heap.size=w.heap.size+1:=by simp
 go_in;have hmm:=@run_makeMap Tryz.prog;go_wp2_with fail;clear hmm;have hm0:MapL Tryz.prog 9 ((w.alloc (.cells #[.string tree,.slice A l.length c,.string who,.int .i64 stamp,.string text] 219)).alloc (.map #[] 0)) (w.heap.size+1) []:=by rw [←hs0];exact MapL.new _
 have hB1:=hB.alloc (.map #[] 0);have hb1:=hb0.alloc (B:=w.heap.size) (by omega) (.map #[] 0);obtain ⟨g,hg⟩: ∃g,g=w.heap.size:=⟨_,rfl⟩;obtain ⟨w0,hw0⟩: ∃w0,w0=(w.alloc (.cells #[.string tree,.slice A l.length c,.string who,.int .i64 stamp,.string text] 219)).alloc (.map #[] 0):=⟨_,rfl⟩;change Blk ((w.alloc (.cells #[.string tree,.slice A l.length c,.string who,.int .i64 stamp,.string text] 219)).alloc (.map #[] 0)) _ _ _ at hB1;rw [←hw0] at hB1 hb1 hm0 ⊢;rw [←hg] at hB1 hm0 ⊢;have HG:=qI hg;clear hw0 hg hB hb0 hs0;go_loopw [10] (fun i wr=>ZcY l tree A c who stamp text g (g+1) w i wr) (fun i _=>l.length-(intOf i).toNat)
 case atStart=>exact ⟨0,rfl,zL _,fun i hi=>by omega,hB1,hm0,hb1⟩
 case round=>
  clear hB1 hb1 hm0;obtain ⟨k,rfl,hk,hup,hB,hmap,hbel⟩:=hrel;have hs:=hbel.size;have hgl:=hB.lt;have f1:IntKind.i64.wrap ((k:Int)+1)=(k:Int)+1:=qJ _ (by omega)
  by_cases h1:k<l.length
  ·have d1:decide ((k:Int)<(l.length:Int))=true:=dT (by omega)
   have d1':(k:Int)<(l.length:Int):=by omega
   have hk0:(0:Int)≤(k:Int):=by omega
   have hlen1:l.length≤9223372036854775807:=by omega
   have hrw:=hr.below hbel;obtain ⟨bb,off,rfl,hbb,hcell⟩:=hrw.at_ (by omega);have q0:=hcell _ _ (Z2K h1);have g1:l[k]?=some l[k]:=gE h1;obtain ⟨p,hp⟩: ∃p,p=l[k]:=⟨_,rfl⟩;rw [←hp] at q0 g1;have hat:=qI (ZfX g1);have hps:p.size≤maxLen:=hsz.out p (by rw [hp];exact List.getElem_mem h1);have hkey:=WideMaps.keyOf_string_mk Tryz.underlying9 hps;have htk:Hid (l.take (k+1)=l.take k++[p]):=by unfold Hid;rw [List.take_succ_eq_append_getElem h1,hp]
   clear hp g1 hcell;obtain ⟨al1,w1,hup1,hm1,hput1,hg1⟩:=hmap.update Z2i Tryz.underlying269 hkey (.int .i64 1);obtain ⟨al2,w2,hup2,hm2,hput2,hg2⟩:=hmap.update Z2i Tryz.underlying269 hkey (.int .i64 2)
   cases hh:hasS (l.take k) p with
   | true=>
    have HF:Hid (r=false):=by unfold Hid;rw [HR.out,Z4n h1 (by rw [hat.out,hh];simp)];simp
    have hlk:(Instr.lookup 269 (.map (some (g+1))) (.string p) false).run Tryz.prog wr= .ok (.int .i64 1) wr:=by
     rcases hmap.look Z2i Tryz.underlying269 (Z5n wr) hkey false with ⟨h2,_⟩ | ⟨v,h2,h3⟩
     ·exact absurd rfl (h2 _ (ZcX hh))
     ·rw [ZdR h2] at h3;exact h3
    have hlk2:(Instr.lookup 269 (.map (some (g+1))) (.string p) false).run Tryz.prog w2= .ok (.int .i64 2) w2:=by
     rcases hm2.look Z2i Tryz.underlying269 (Z5n w2) hkey false with ⟨h2,_⟩ | ⟨v,h2,h3⟩
     ·exact absurd rfl (h2 _ hput2.mem)
     ·rw [Zcs hm2.nodup h2 hput2.mem] at h3;exact h3
    have hb2:Below w.heap.size w w2:=hbel.trans (Z1 hg2 (by have:=HG.out;omega) hs);clear hup1 hm1 hput1 hg1 hh hm2 hput2 hg2;go_wp2_with fail;go_ret;rw [HF.out];exact ⟨rfl,hb2⟩
   | false=>
    have hlk:(Instr.lookup 269 (.map (some (g+1))) (.string p) false).run Tryz.prog wr= .ok (.int .i64 0) wr:=by
     rcases hmap.look Z2i Tryz.underlying269 (Z5n wr) hkey false with ⟨h2,h3⟩ | ⟨v,h2,h3⟩
     ·exact h3
     ·exact absurd rfl (Z8O hh _ h2)
    have hlk1:(Instr.lookup 269 (.map (some (g+1))) (.string p) false).run Tryz.prog w1= .ok (.int .i64 1) w1:=by
     rcases hm1.look Z2i Tryz.underlying269 (Z5n w1) hkey false with ⟨h2,_⟩ | ⟨v,h2,h3⟩
     ·exact absurd rfl (h2 _ hput1.mem)
     ·rw [Zcs hm1.nodup h2 hput1.mem] at h3;exact h3
    have hb1:Below w.heap.size w w1:=hbel.trans (Z1 hg1 (by have:=HG.out;omega) hs);have hal:Hid (al1=Z8N (l.take (k+1))):=by
     unfold Hid;rcases hput1 with ⟨_,rfl⟩ | ⟨l1,r1,v0,e1,_⟩
     ·rw [htk.out];simp [Z8N]
     ·exact absurd rfl (Z8O hh (Value.string p,v0) (by rw [e1];simp))
    have hB1:=hB.grown hg1 (by intro e;injection e;omega)
    cases hi:decide (p.size=32) with
    | false=>
     have HI:=qI hi;have HF:Hid (r=false):=by unfold Hid;rw [HR.out,Z4n h1 (by rw [hat.out,hi];rfl)];simp
     clear hup2 hm2 hput2 hg2 hh hput1 hi;go_wp2_with (go_at_call 334;refine (Z0O p _ HI _).mono ?_;rintro e w' ⟨rfl,rfl⟩);go_ret;rw [HF.out];exact ⟨rfl,hb1⟩
    | true=>
     have HI:=qI hi;have HU:Hid (Z3f l (k+1)):=Zat hup.out (by rw [hat.out,hi,hh];rfl);clear hup2 hm2 hput2 hg2 hh hput1 hi;go_wp2_with (go_at_call 334;refine (Z0O p _ HI _).mono ?_;rintro e w' ⟨rfl,rfl⟩);exact ⟨⟨k+1,by go_num,by omega,HU,hB1,by rw [←hal.out];exact hm1,hb1⟩,by simp [intOf];omega⟩
  ·have d1:decide ((k:Int)<(l.length:Int))=false:=qF (by omega)
   have d1': ¬(k:Int)<(l.length:Int):=by omega
   have hkl:k=l.length:=by omega
   have HE:Hid (r=(decide (tree.size=32)&&decide (l.length≤4)&&Zt who stamp text)):=by unfold Hid;rw [HR.out,Zaq (by rw [←hkl];exact hup.out)]
   have c0:wr.cell? ⟨g,0,none⟩=some (.string tree):=by rw [hB.cell];rfl
   have c1:wr.cell? ⟨g,1,none⟩=some (.slice A l.length c):=by rw [hB.cell];rfl
   have c2:wr.cell? ⟨g,2,none⟩=some (.string who):=by rw [hB.cell];rfl
   have c3:wr.cell? ⟨g,3,none⟩=some (.int .i64 stamp):=by rw [hB.cell];rfl
   have c4:wr.cell? ⟨g,4,none⟩=some (.string text):=by rw [hB.cell];rfl
   clear hkl
   cases hi:decide (tree.size=32) with
   | false=>
    have HI:=qI hi;have HF:Hid (r=false):=by unfold Hid;rw [HE.out,hi];rfl
    clear hi;go_wp2_with (go_at_call 334;refine (Z0O tree _ HI _).mono ?_;rintro e w' ⟨rfl,rfl⟩);go_ret;rw [HF.out];exact ⟨rfl,hbel⟩
   | true=>
    have HI:=qI hi
    by_cases h4:l.length≤4
    ·have d4:decide ((l.length:Int)≤4)=true:=dT (by omega)
     have HF:Hid (r=Zt who stamp text):=by unfold Hid;rw [HE.out,hi];simp [h4]
     clear hi h4;go_wp2_with (first | (go_at_call 334;refine (Z0O tree _ HI _).mono ?_;rintro e w' ⟨rfl,rfl⟩) | (go_at_call 326;refine (Z3x who stamp text _).mono ?_;rintro e w5 ⟨rfl,hb5⟩));go_ret;rw [HF.out];exact ⟨rfl,hbel.trans (hb5.mono hs)⟩
    ·have d4:decide ((l.length:Int)≤4)=false:=qF (by omega)
     have HF:Hid (r=false):=by unfold Hid;rw [HE.out];simp [h4]
     clear hi h4;go_wp2_with (go_at_call 334;refine (Z0O tree _ HI _).mono ?_;rintro e w' ⟨rfl,rfl⟩);go_ret;rw [HF.out];exact ⟨rfl,hbel⟩
theorem _root_.Go.Dol.Rd.alive {w w':World} {A:OA} {n:Nat} {xs:List Value} {size:Nat} (h:Rd w w.heap.size size A n xs) (hb:Below w.heap.size w w'):Rd w' w'.heap.size size A n xs:=(h.below hb).more hb.size
theorem ZdS {w:World} {ops:Array Oper} {o:Oper} {a:Act} {K:Act→World→Prop} {Q:Exit→Act→World→Prop} {E:Prop} (hgd:o.guard=none) (s x:Operand)
  (ho:o.op= .call { callee:=.builtin .append,args:=#[s,x],argTypes:=#[36,9] })
  (base:Nat) (v:Value) (n:Nat) (xs:LU) (hs:a.eval s=v) (hown:w.ownsRow base 5 1 v n (bc xs))
  (st:BA) (hx:a.eval x= .string st) (hlen:n+st.size≤140737488355328) (hbase:base≤w.heap.size)
  (h: ∀(l':LU) (A':OA) (c':Nat) (w':World),Hid (l'=xs++st.data.toList)→w'.ownsRow base 5 1 (.slice A' l'.length c') l'.length (bc l')→Below base w w'→w.grownBy w' v.ownBlock→
   l'.length≤c'→c'≤maxLen→K (a.put o.dst (.slice A' l'.length c')) w'):if Region.wanted o (yielded ops a.tmps)=true then Oper.wp Tryz.prog o a w K Q else E:=by
 have hw:Region.wanted o (yielded ops a.tmps)=true:=by simp [Region.wanted,hgd]
 rw [if_pos hw];obtain ⟨i0,hi,hz0,hz1,hz2⟩:=info_parts Z2d;obtain ⟨v',w',hrun,h1,h2,_⟩:=Lib.run_append_own_string (P:=Tryz.prog) w base 36 9 o.type _ i0 Tryz.underlying36 Tryz.underlying9 hi hz0 hz1 hz2 v n (bc xs) hown st (by unfold maxLen;omega) hlen hbase;obtain ⟨A',c',rfl,h4,h5⟩:=Z1s h1;have e1:n=xs.length:=by have:=hown.1;rw [Zv] at this;omega
 have e2:st.size=st.data.toList.length:=by rw [Array.length_toList];rfl
 have e:n+st.size=(xs++st.data.toList).length:=by rw [List.length_append];omega
 have e3:bc xs++Lib.strCells st=bc (xs++st.data.toList):=by rw [Z1m];rfl
 rw [e3,e] at h1;rw [e] at h4 hrun;unfold Oper.wp execOp;simp only [ho,resolve,invoke,builtin,Sem.run_bind,Sem.run_pure,Result.andThen_ok,List.map_toArray,List.map_cons,List.map_nil,hs,hx,hrun];exact h _ A' c' w' rfl h1 ((bR _ _).grown h2 hbase (fun k hk=>(hown.lt k hk).1)) h2 h4 h5
def RetO (base:Nat) (w:World) (l:LU) (e:Ending) (w':World):Prop:=
 ∃(l':LU) (A:OA) (c:Nat),Hid (l'=l)∧e= .returned (.slice A l'.length c)∧w'.ownsRow base 5 1 (.slice A l'.length c) l'.length (bc l')∧Below base w w'∧l'.length≤c∧c≤maxLen
theorem ZQ {s:BA} (h:s.size≤140737488355328):(tx s).length≤9+s.size:=by
 unfold tx text;rw [List.length_append,Zg];have:=Za 8 s.size (by omega);omega
theorem Z3g {w:World} {g:Nat} {who text:BA} {stamp:Int} (h:Blk w g 213 [.string who,.int .i64 stamp,.string text]):w.cell? ⟨g,0,none⟩=some (.string who)∧w.cell? ⟨g,1,none⟩=some (.int .i64 stamp)∧w.cell? ⟨g,2,none⟩=some (.string text):=
 ⟨by rw [h.cell];rfl,by rw [h.cell];rfl,by rw [h.cell];rfl⟩
theorem Z4H (who:BA) (stamp:Int) (text:BA) (A:OA) (l:LU) (c:Nat) (w:World) (hr:Rd w w.heap.size 1 A l.length (bc l)) (hl:l.length+1000+who.size+text.size≤140737488355328):
  Calls Tryz.prog 325 #[.agg #[.string who,.int .i64 stamp,.string text],.slice A l.length c] w (RetO w.heap.size w (l++(tx who++(num (Zk stamp)++tx text)))):=by
 have hB:=Blk.new w 213 [.string who,.int .i64 stamp,.string text];have hb0:Below w.heap.size w (w.alloc (.cells #[.string who,.int .i64 stamp,.string text] 213)):=(bR _ _).alloc (lR _) _;have hr0:=hr.alive hb0;go_in;go_wp2_with fail;obtain ⟨g,hg⟩: ∃g,g=w.heap.size:=⟨_,rfl⟩;obtain ⟨w0,hw0⟩: ∃w0,w0=w.alloc (.cells #[.string who,.int .i64 stamp,.string text] 213):=⟨_,rfl⟩;change Blk (w.alloc (.cells #[.string who,.int .i64 stamp,.string text] 213)) _ _ _ at hB;rw [←hw0] at hB hb0 hr0 ⊢;rw [←hg] at hB ⊢;have HG:=qI hg;clear hw0 hg hr;obtain ⟨c0,c1,c2⟩:=Z3g hB;have hgl:=hB.lt;have hr0d:=hr0.drew;have hq1:l.length+9+who.size≤140737488355328:=by omega
 go_region_held3 (fun w'=>w'.cell? ⟨g,0,none⟩=some (.string who)∧w'.cell? ⟨g,1,none⟩=some (.int .i64 stamp)∧w'.cell? ⟨g,2,none⟩=some (.string text)) (first | exact Z3g (hB.below hb3 hgl) | exact Z3g (hB.below hb2 hgl) | exact Z3g (hB.below hb1 hgl) | go_keep)
  ((first
   | (go_at_call 253;first | (with_reducible refine (Z11 A l c who _ hr0 hq1).mono ?_) | (with_reducible refine (Z11 A l c who _ hr0d hq1).mono ?_);rintro e w1 ⟨l1,A1,c1',e1,rfl,ho1,hb1',i1,i2⟩;have hb1:Below w0.heap.size w0 w1:=(by first | exact hb1' | exact (bR w0.heap.size w0).drew.trans hb1');have hl1:l1.length≤l.length+9+who.size:=(by rw [e1.out,List.length_append];have:=ZQ (s:=who) (by omega);unfold tx at this;omega))
   | (go_at_call 167;have hq2:l1.length+9≤140737488355328:=(by omega);have hro1:=Rd.of_own ho1;(with_reducible refine (Z02 A1 l1 c1' _ w1 hro1 hq2).mono ?_);rintro e w2 ⟨l2,A2,c2',e2,rfl,ho2,hb2',i3,i4⟩;have hb2:Below w0.heap.size w0 w2:=hb1.next hb2';have hl2:l2.length≤l.length+18+who.size:=(by rw [e2.out,List.length_append];have:=Za 8 (Zk stamp) (by have:=Z0v stamp;unfold Ze at this;omega);omega))
   | (go_at_call 253;have hq3:l2.length+9+text.size≤140737488355328:=(by omega);have hro2:=Rd.of_own ho2;(with_reducible refine (Z11 A2 l2 c2' text w2 hro2 hq3).mono ?_);rintro e w3 ⟨l3,A3,c3',e3,rfl,ho3,hb3',i5,i6⟩;have hb3:Below w0.heap.size w0 w3:=hb2.next hb3')))
 have hl3:Hid (l3=l++(tx who++(num (Zk stamp)++tx text))):=by
  unfold Hid;rw [e3.out,e2.out,e1.out];unfold tx;simp only [List.append_assoc]
 have hbw:Below w.heap.size w w3:=hb0.next hb3;have hz:w.heap.size≤w2.heap.size:=(hb0.next hb2).size;clear e1 e2 e3 ho1 ho2 hb1 hb1' hb2 hb2' hb3 hb3';go_wp2_with fail;go_ret;exact ⟨l3,A3,c3',hl3,rfl,ho3.base (by have:=HG.out;omega),by first | exact hbw | (rw [HG.out];exact hbw),i5,i6⟩
theorem Z87 (base:Nat) (A2:OA) (d:LU) (c2:Nat) (A:OA) (l:LU) (c:Nat) (w:World) (hown:w.ownsRow base 5 1 (.slice A l.length c) l.length (bc l)) (hr2:Rd w w.heap.size 1 A2 d.length (bc d))
  (hl:l.length+d.length≤140737488355328) (hbase:base≤w.heap.size):
  Calls Tryz.prog 327 #[.agg #[.slice A2 d.length c2],.slice A l.length c] w (RetO base w (l++d)):=by
 have hb0:Below base w (w.alloc (.cells #[.slice A2 d.length c2] 215)):=(bR _ _).alloc hbase _;have hown0:=hown.alloc (.cells #[.slice A2 d.length c2] 215);have hr0:=hr2.alloc (lR _) (.cells #[.slice A2 d.length c2] 215);go_in;go_wp2_with (at_builtin;refine app8 rfl (.tmp 5) (.tmp 7) rfl base _ l.length l rfl hown0 w.heap.size A2 d.length c2 d rfl hr0 hl (lT hbase hb0.size) ?_);intro l3 A3 c3 w3 e3 ho3 hb3 _ _ i3 i4;go_wp2_with fail;go_ret;exact ⟨l3,A3,c3,e3,rfl,ho3,hb0.trans hb3,i3,i4⟩
theorem Z4o {w:World} {g:Nat} {ta na who text:BA} {stamp:Int} (h:Blk w g 221 [.string ta,.string na,.string who,.int .i64 stamp,.string text]):w.cell? ⟨g,0,none⟩=some (.string ta)∧w.cell? ⟨g,1,none⟩=some (.string na)∧w.cell? ⟨g,2,none⟩=some (.string who)∧w.cell? ⟨g,3,none⟩=some (.int .i64 stamp)∧w.cell? ⟨g,4,none⟩=some (.string text):=
 ⟨by rw [h.cell];rfl,by rw [h.cell];rfl,by rw [h.cell];rfl,by rw [h.cell];rfl,by rw [h.cell];rfl⟩
theorem Z9p (base:Nat) (ta na who:BA) (stamp:Int) (text:BA) (A:OA) (l:LU) (c:Nat) (w:World) (hown:w.ownsRow base 5 1 (.slice A l.length c) l.length (bc l))
  (hl:l.length+ta.size+na.size+2000+who.size+text.size≤140737488355328) (hbase:base≤w.heap.size):
  Calls Tryz.prog 338 #[.agg #[.string ta,.string na,.string who,.int .i64 stamp,.string text],.slice A l.length c] w (RetO base w (l++(ta.data.toList++(tx na++(tx who++(num (Zk stamp)++tx text)))))):=by
 have hB:=Blk.new w 221 [.string ta,.string na,.string who,.int .i64 stamp,.string text];have hb0:Below base w (w.alloc (.cells #[.string ta,.string na,.string who,.int .i64 stamp,.string text] 221)):=(bR _ _).alloc hbase _;have hown0:=hown.alloc (.cells #[.string ta,.string na,.string who,.int .i64 stamp,.string text] 221);go_in;go_wp2_with fail;obtain ⟨g,hg⟩: ∃g,g=w.heap.size:=⟨_,rfl⟩;obtain ⟨w0,hw0⟩: ∃w0,w0=w.alloc (.cells #[.string ta,.string na,.string who,.int .i64 stamp,.string text] 221):=⟨_,rfl⟩;change Blk (w.alloc (.cells #[.string ta,.string na,.string who,.int .i64 stamp,.string text] 221)) _ _ _ at hB;rw [←hw0] at hB hb0 hown0 ⊢;rw [←hg] at hB ⊢;have HG:=qI hg;clear hw0 hg hown;obtain ⟨c0,c1,c2,c3,c4⟩:=Z4o hB;have hgl:=hB.lt;have hne:some g≠(Value.slice A l.length c).ownBlock:=fun e=>own_ne hown0 hB (by decide) e.symm;have hown0d:w0.drew.ownsRow base 5 1 (.slice A l.length c) l.length (bc l):=hown0;have hq0:l.length+ta.size≤140737488355328:=by omega
 have hz0:base≤w0.heap.size:=hb0.size |> lT hbase
 go_region_held3 (fun w'=>w'.cell? ⟨g,0,none⟩=some (.string ta)∧w'.cell? ⟨g,1,none⟩=some (.string na)∧w'.cell? ⟨g,2,none⟩=some (.string who)∧w'.cell? ⟨g,3,none⟩=some (.int .i64 stamp)∧w'.cell? ⟨g,4,none⟩=some (.string text)) (first | exact Z4o (hB1.below hb3 hgl1) | exact Z4o (hB1.below hb2 hgl1) | exact Z4o hB1 | go_keep)
  ((first
   | (refine ZdS (by rfl) (.tmp 7) (.tmp 9) (by rfl) base _ l.length l (by rfl) (w:=World.drew w0) hown0d ta (by rfl) hq0 hz0 ?_;intro l1 A1 c1' w1 e1 ho1 hb1 hg1 i1 i2;have hB1:=hB.drew.grown hg1 hne;have hgl1:=hB1.lt;have hl1:l1.length≤l.length+ta.size:=(by rw [e1.out,List.length_append,Zg];omega);have hro1:=Rd.of_own ho1;have hq1:l1.length+9+na.size≤140737488355328:=(by omega))
   | (go_at_call 253;(with_reducible refine (Z11 A1 l1 c1' na w1 hro1 hq1).mono ?_);rintro e w2 ⟨l2,A2,c2',e2,rfl,ho2,hb2,i3,i4⟩;have hl2:l2.length≤l1.length+9+na.size:=(by rw [e2.out,List.length_append];have:=ZQ (s:=na) (by omega);unfold tx at this;omega);have hro2:=Rd.of_own ho2;have hq2:l2.length+1000+who.size+text.size≤140737488355328:=(by omega))
   | (go_at_call 325;(with_reducible refine (Z4H who stamp text A2 l2 c2' w2 hro2 hq2).mono ?_);rintro e w3 ⟨l3,A3,c3',e3,rfl,ho3,hb3',i5,i6⟩;have hb3:Below w1.heap.size w1 w3:=hb2.next hb3')))
 have hl3:Hid (l3=l++(ta.data.toList++(tx na++(tx who++(num (Zk stamp)++tx text))))):=by
  unfold Hid;rw [e3.out,e2.out,e1.out];unfold tx;simp only [List.append_assoc]
 have hz1:base≤w1.heap.size:=lT hz0 hb1.size;have hbw:Below base w w3:=hb0.trans ((bR base w0).drew.trans (hb1.trans (hb3.mono hz1)));have hz2:base≤w2.heap.size:=lT hz1 hb2.size;clear e1 e2 e3 ho1 ho2 hb1 hb2 hb3 hb3' hro1 hro2 hB hB1 hown0 hown0d;go_wp2_with fail;go_ret;exact ⟨l3,A3,c3',hl3,rfl,ho3.base hz2,hbw,i5,i6⟩
end Go.Proofs.YtecpbcmpncgokaaGreat
namespace Go.Dol
def Z0b (l:List BA):LU:=l.flatMap fun p=>p.data.toList
theorem Z7q {l:List BA} {k:Nat} (h:k<l.length):Z0b (l.take (k+1))=Z0b (l.take k)++(l[k]).data.toList:=by
 rw [List.take_succ_eq_append_getElem h];simp only [Z0b,List.flatMap_append,List.flatMap_cons,List.flatMap_nil,List.append_nil]
theorem Z5p (l:List BA) (k:Nat):(Z0b (l.take k)).length≤(Z0b l).length:=by
 conv=>rhs;rw [←List.take_append_drop k l]
 simp only [Z0b,List.flatMap_append,List.length_append];omega
theorem Z4Y {l:List Ent} {k:Nat} (h:k<l.length):(l.take (k+1)).flatMap entB=(l.take k).flatMap entB++entB l[k]:=by
 rw [List.take_succ_eq_append_getElem h];simp only [List.flatMap_append,List.flatMap_cons,List.flatMap_nil,List.append_nil]
theorem ZdT (l:List Ent) (k:Nat):((l.take k).flatMap entB).length≤(l.flatMap entB).length:=by
 conv=>rhs;rw [←List.take_append_drop k l]
 simp only [List.flatMap_append,List.length_append];omega
theorem Zau {l:List Ent} {k:Nat} (h:k<l.length):((l.take k).flatMap entB).length+(entB l[k]).length≤(l.flatMap entB).length:=by
 have:=ZdT l (k+1);rw [Z4Y h,List.length_append] at this;exact this
theorem Z6n (e:Ent):e.name.size+1+e.id.size≤(entB e).length:=by
 unfold entB tx text;simp only [List.length_append,List.length_cons,Zg];omega
end Go.Dol
namespace Go.Proofs.YtecpbcmpncgokaaGreat
open Go.RowKit Go.Dol
theorem Z2j {w:World} {g:Nat} {tr who text:BA} {stamp:Int} {v:Value} (h:Blk w g 219 [.string tr,v,.string who,.int .i64 stamp,.string text]):w.cell? ⟨g,0,none⟩=some (.string tr)∧w.cell? ⟨g,1,none⟩=some v∧w.cell? ⟨g,2,none⟩=some (.string who)∧w.cell? ⟨g,3,none⟩=some (.int .i64 stamp)∧w.cell? ⟨g,4,none⟩=some (.string text):=
 ⟨by rw [h.cell];rfl,by rw [h.cell];rfl,by rw [h.cell];rfl,by rw [h.cell];rfl,by rw [h.cell];rfl⟩
def ZfY (base g:Nat) (T:LU) (tr:BA) (A2:OA) (ps:List BA) (c2:Nat) (who:BA) (stamp:Int) (text:BA) (w:World) (b i:Value) (wr:World):Prop:=
 ∃(k:Nat) (l:LU) (A:OA) (c:Nat),i= .int .i64 k∧b= .slice A l.length c∧k≤ps.length∧Hid (l=T++Z0b (ps.take k))∧wr.ownsRow base 5 1 (.slice A l.length c) l.length (bc l)∧l.length≤c∧c≤maxLen∧
  Blk wr g 219 [.string tr,.slice A2 ps.length c2,.string who,.int .i64 stamp,.string text]∧Below base w wr
theorem Z6G (base:Nat) (tr:BA) (A2:OA) (ps:List BA) (c2:Nat) (who:BA) (stamp:Int) (text:BA) (A:OA) (l:LU) (c:Nat) (w:World) (hown:w.ownsRow base 5 1 (.slice A l.length c) l.length (bc l)) (hr2:Rd w base 1 A2 ps.length (pc ps))
  (hps:ps.length≤140737488355328) (hl:l.length+tr.size+(Z0b ps).length+3000+who.size+text.size≤140737488355328) (hbase:base≤w.heap.size):
  Calls Tryz.prog 335 #[.agg #[.string tr,.slice A2 ps.length c2,.string who,.int .i64 stamp,.string text],.slice A l.length c] w (RetO base w (l++(tr.data.toList++(Z5i ps++(tx who++(num (Zk stamp)++tx text)))))):=by
 have hB:=Blk.new w 219 [.string tr,.slice A2 ps.length c2,.string who,.int .i64 stamp,.string text];have hb0:Below base w (w.alloc (.cells #[.string tr,.slice A2 ps.length c2,.string who,.int .i64 stamp,.string text] 219)):=(bR _ _).alloc hbase _;have hown0:=hown.alloc (.cells #[.string tr,.slice A2 ps.length c2,.string who,.int .i64 stamp,.string text] 219);have hcl:Hid (Zk (ps.length:Int)=ps.length):=by unfold Hid Zk;omega
 go_in;go_wp2_with fail;obtain ⟨g,hg⟩: ∃g,g=w.heap.size:=⟨_,rfl⟩;obtain ⟨w0,hw0⟩: ∃w0,w0=w.alloc (.cells #[.string tr,.slice A2 ps.length c2,.string who,.int .i64 stamp,.string text] 219):=⟨_,rfl⟩;change Blk (w.alloc (.cells #[.string tr,.slice A2 ps.length c2,.string who,.int .i64 stamp,.string text] 219)) _ _ _ at hB;rw [←hw0] at hB hb0 hown0 ⊢;rw [←hg] at hB ⊢;have HG:=qI hg;clear hw0 hg hown;obtain ⟨c0,c1,c2',c3,c4⟩:=Z2j hB;have hgl:=hB.lt;have hne:some g≠(Value.slice A l.length c).ownBlock:=fun e=>own_ne hown0 hB (by decide) e.symm;have hown0d:w0.drew.ownsRow base 5 1 (.slice A l.length c) l.length (bc l):=hown0;have hq0:l.length+tr.size≤140737488355328:=by omega
 have hz0:base≤w0.heap.size:=hb0.size |> lT hbase
 go_region_held3 (fun w'=>w'.cell? ⟨g,0,none⟩=some (.string tr)∧w'.cell? ⟨g,1,none⟩=some (.slice A2 ps.length c2)∧w'.cell? ⟨g,2,none⟩=some (.string who)∧w'.cell? ⟨g,3,none⟩=some (.int .i64 stamp)∧w'.cell? ⟨g,4,none⟩=some (.string text)) (first | exact Z2j (hB1.below hb2 hgl1) | exact Z2j hB1 | go_keep)
  ((first
   | (refine ZdS (by rfl) (.tmp 7) (.tmp 9) (by rfl) base _ l.length l (by rfl) (w:=World.drew w0) hown0d tr (by rfl) hq0 hz0 ?_;intro l1 A1 c1' w1 e1 ho1 hb1 hg1 i1 i2;have hB1:=hB.drew.grown hg1 hne;have hgl1:=hB1.lt;have hl1:l1.length≤l.length+tr.size:=(by rw [e1.out,List.length_append,Zg];omega);have hro1:=Rd.of_own ho1;have hq1:l1.length+9≤140737488355328:=(by omega))
   | (go_at_call 167;(with_reducible refine (Z02 A1 l1 c1' _ w1 hro1 hq1).mono ?_);rintro e w2 ⟨l2,A2',c2'',e2,rfl,ho2,hb2,i3,i4⟩)))
 have hz1:base≤w1.heap.size:=lT hz0 hb1.size;have hz2:base≤w2.heap.size:=lT hz1 hb2.size;have hbw:Below base w w2:=hb0.trans ((bR base w0).drew.trans (hb1.trans (hb2.mono hz1)));have hT:Hid (l2=(l++(tr.data.toList++num ps.length))++Z0b (ps.take 0)):=by
  unfold Hid;rw [e2.out,e1.out,hcl.out];simp [Z0b]
 obtain ⟨T,hTe⟩: ∃T,T=l++(tr.data.toList++num ps.length):=⟨_,rfl⟩;have hTl:T.length≤l.length+tr.size+9:=by
  rw [hTe];simp only [List.length_append,Zg];have:=Za 8 ps.length (by omega);omega
 rw [←hTe] at hT;have HTE:=qI hTe;have hB2:=hB1.below hb2 hgl1;have ho2':=ho2.base hz1;clear hTe e1 e2 ho1 ho2 hb1 hb2 hro1 hB hB1 hown0 hown0d c0 c1 c2' c3 c4 hg1 hb0 hne hz0 hz1;obtain ⟨k0,k1,k2,k3,k4⟩:=Z2j hB2;go_wp2_with fail;clear k0 k1 k2 k3 k4;go_loopw [1,18] (fun b i wr=>ZfY base g T tr A2 ps c2 who stamp text w b i wr) (fun _ i _=>ps.length-(intOf i).toNat)
 case atStart=>exact ⟨0,l2,A2',c2'',rfl,rfl,zL _,hT,ho2',i3,i4,hB2,hbw⟩
 case round=>
  clear hT ho2' hB2 hbw i3 i4;obtain ⟨k,l3,A3,c3,rfl,rfl,hk,hT,hown,i3,i4,hB,hbel⟩:=hrel;obtain ⟨k0,k1,k2,k3,k4⟩:=Z2j hB;have hs:=hbel.size;have hl3:l3.length≤T.length+(Z0b ps).length:=by rw [hT.out,List.length_append];have:=Z5p ps k;omega
  have f1:IntKind.i64.wrap ((k:Int)+1)=(k:Int)+1:=qJ _ (by omega)
  by_cases h1:k<ps.length
  ·have d1:decide ((k:Int)<(ps.length:Int))=true:=dT (by omega)
   have d1':(k:Int)<(ps.length:Int):=by omega
   have hk0:(0:Int)≤(k:Int):=by omega
   have hlen1:ps.length≤9223372036854775807:=by omega
   have hrw:=hr2.below hbel;obtain ⟨bb,off,rfl,hbb,hcell⟩:=hrw.at_ (by omega);have q0:=hcell _ _ (Z2K h1);obtain ⟨p,hp⟩: ∃p,p=ps[k]:=⟨_,rfl⟩;rw [←hp] at q0;have hsucc:Hid (Z0b (ps.take (k+1))=Z0b (ps.take k)++p.data.toList):=by unfold Hid;rw [Z7q h1,hp]
   have hfit:l3.length+p.size≤140737488355328:=by
    have h5:=Z5p ps (k+1);rw [hsucc.out,List.length_append,Zg] at h5;have h6:=congrArg List.length hT.out;rw [List.length_append] at h6;omega
   have hne:some g≠(Value.slice A3 l3.length c3).ownBlock:=fun e=>own_ne hown hB (by decide) e.symm;clear hp hcell;go_wp2_with (at_builtin;refine Z4S rfl (.tmp 22) (.tmp 23) rfl base _ l3.length l3 rfl hown p rfl hfit (lT hbase hs) ?_);intro l4 A4 c4 w4 e4 ho4 hb4 hg4 i5 i6;go_wp2_with fail;refine ⟨⟨k+1,l4,A4,c4,by go_num,rfl,h1,?_,ho4,i5,i6,hB.grown hg4 hne,hbel.trans hb4⟩,by simp [intOf];omega⟩;unfold Hid;rw [e4.out,hT.out,hsucc.out,List.append_assoc]
  ·have d1:decide ((k:Int)<(ps.length:Int))=false:=qF (by omega)
   have d1': ¬(k:Int)<(ps.length:Int):=by omega
   have hkl:k=ps.length:=by omega
   have hT2:Hid (l3=T++Z0b ps):=by unfold Hid;rw [hT.out,hkl,List.take_length]
   clear hkl;have hq:l3.length+1000+who.size+text.size≤140737488355328:=by omega
   go_wp2_with (go_at_call 325;refine (Z4H who stamp text A3 l3 c3 wr (Rd.of_own hown) hq).mono ?_;rintro e w4 ⟨l4,A4,c4,e4,rfl,ho4,hb4,i5,i6⟩);go_ret;refine ⟨l4,A4,c4,?_,rfl,ho4.base (lT hbase hs),hbel.trans (hb4.mono (lT hbase hs)),i5,i6⟩;unfold Hid;rw [e4.out,hT2.out,HTE.out];unfold Z5i Z0b;simp only [List.append_assoc]
def Zfe (base g:Nat) (T:LU) (A2:OA) (es:List Ent) (c2:Nat) (w:World) (b i:Value) (wr:World):Prop:=
 ∃(k:Nat) (l:LU) (A:OA) (c:Nat),i= .int .i64 k∧b= .slice A l.length c∧k≤es.length∧Hid (l=T++(es.take k).flatMap entB)∧wr.ownsRow base 5 1 (.slice A l.length c) l.length (bc l)∧l.length≤c∧c≤maxLen∧
  Blk wr g 217 [.slice A2 es.length c2]∧Below base w wr
theorem Z88 (base:Nat) (A2:OA) (es:List Ent) (c2:Nat) (A:OA) (l:LU) (c:Nat) (w:World) (hr:Rd w w.heap.size 1 A l.length (bc l)) (hr2:Rd w base 3 A2 es.length (ec es))
  (hes:es.length≤140737488355328) (hl:l.length+1000+(es.flatMap entB).length≤140737488355328) (hbase:base≤w.heap.size):
  Calls Tryz.prog 330 #[.agg #[.slice A2 es.length c2],.slice A l.length c] w (RetO base w (l++Z4G es)):=by
 have hB:=Blk.new w 217 [.slice A2 es.length c2];have hb0:Below base w (w.alloc (.cells #[.slice A2 es.length c2] 217)):=(bR _ _).alloc hbase _;have hbx:Below w.heap.size w (w.alloc (.cells #[.slice A2 es.length c2] 217)):=(bR _ _).alloc (lR _) _;have hr0:=hr.alive hbx;have hcl:Hid (Zk (es.length:Int)=es.length):=by unfold Hid Zk;omega
 go_in;go_wp2_with fail;obtain ⟨g,hg⟩: ∃g,g=w.heap.size:=⟨_,rfl⟩;obtain ⟨w0,hw0⟩: ∃w0,w0=w.alloc (.cells #[.slice A2 es.length c2] 217):=⟨_,rfl⟩;change Blk (w.alloc (.cells #[.slice A2 es.length c2] 217)) _ _ _ at hB;rw [←hw0] at hB hb0 hr0 ⊢;rw [←hg] at hB ⊢;have HG:=qI hg;clear hw0 hg hr hbx;refine (Z02 A l c _ w0 hr0 (by omega)).mono ?_;rintro e w1 ⟨l1,A1,c1,e1,rfl,ho1,hb1,i1,i2⟩;have hz0:base≤w0.heap.size:=hb0.size |> lT hbase;have hB1:=hB.below hb1 hB.lt;have hbw:=hb0.trans (hb1.mono hz0);have ho1':=ho1.base hz0;obtain ⟨T,hTe⟩: ∃T,T=l++num es.length:=⟨_,rfl⟩;have hT:Hid (l1=T++(es.take 0).flatMap entB):=by unfold Hid;rw [e1.out,hcl.out,hTe];simp
 have hTl:T.length≤l.length+9:=by
  rw [hTe];simp only [List.length_append];have:=Za 8 es.length (by omega);omega
 have HTE:=qI hTe;have k0:w1.cell? ⟨g,0,none⟩=some (.slice A2 es.length c2):=by rw [hB1.cell];rfl
 clear hTe e1 ho1 hb1 hr0 hB hcl hb0;go_wp2_with fail;clear k0;go_loopw [1,15] (fun b i wr=>Zfe base g T A2 es c2 w b i wr) (fun _ i _=>es.length-(intOf i).toNat)
 case atStart=>exact ⟨0,l1,A1,c1,rfl,rfl,zL _,hT,ho1',i1,i2,hB1,hbw⟩
 case round=>
  clear hT ho1' hB1 hbw i1 i2;obtain ⟨k,l3,A3,c3,rfl,rfl,hk,hT,hown,i3,i4,hB,hbel⟩:=hrel;have hs:=hbel.size;have hzr:=lT hbase hs;have f1:IntKind.i64.wrap ((k:Int)+1)=(k:Int)+1:=qJ _ (by omega)
  by_cases h1:k<es.length
  ·have d1:decide ((k:Int)<(es.length:Int))=true:=dT (by omega)
   have d1':(k:Int)<(es.length:Int):=by omega
   have hk0:(0:Int)≤(k:Int):=by omega
   have hlen1:es.length≤9223372036854775807:=by omega
   have hrw:=hr2.below hbel;obtain ⟨bb,off,rfl,hbb,hcell⟩:=hrw.at_ (by omega);obtain ⟨p0,p1,p2⟩:=Z2L h1;have q0:=hcell _ _ p0;have q1:wr.cell? ⟨bb,off+k*3+1,none⟩=_:=hcell _ _ p1;have q2:wr.cell? ⟨bb,off+k*3+2,none⟩=_:=hcell _ _ p2;have hpart:=Zau h1;have hel:=Z6n es[k];obtain ⟨x,hx⟩: ∃x,x=es[k]:=⟨_,rfl⟩;have hsucc:Hid ((es.take (k+1)).flatMap entB=(es.take k).flatMap entB++entB x):=by unfold Hid;rw [Z4Y h1,hx]
   rw [←hx] at q0 q1 q2 hpart hel;have hl3:l3.length+x.name.size+1+x.id.size≤T.length+(es.flatMap entB).length:=by
    have h6:=congrArg List.length hT.out;rw [List.length_append] at h6;omega
   obtain ⟨x0,x1,x2⟩:=x;simp only at q0 q1 q2 hl3;have hb5:Below wr.heap.size wr (wr.alloc (.cells #[.string x0,.bool x1,.string x2] 177)):=(bR _ _).alloc (lR _) _;have hB5:=Blk.new wr 177 [.string x0,.bool x1,.string x2];have hr5:=(Rd.of_own hown).alive hb5;have hBt:=hB.alloc (.cells #[.string x0,.bool x1,.string x2] 177);clear hx hcell p0 p1 p2 hpart hel;go_wp2_with fail;obtain ⟨ge,hge⟩: ∃ge,ge=wr.heap.size:=⟨_,rfl⟩;obtain ⟨w5,hw5⟩: ∃w5,w5=wr.alloc (.cells #[.string x0,.bool x1,.string x2] 177):=⟨_,rfl⟩;change Blk (wr.alloc (.cells #[.string x0,.bool x1,.string x2] 177)) _ _ _ at hB5;rw [←hw5] at hb5 hB5 hr5 hBt ⊢;rw [←hge] at hB5 ⊢;have HGE:=qI hge;clear hw5 hge;refine (Z11 A3 l3 c3 x0 w5 hr5 (by omega)).mono ?_;rintro e w6 ⟨l6,A6,c6,e6,rfl,ho6,hb6,i5,i6⟩;have hl6:l6.length≤l3.length+9+x0.size:=by rw [e6.out,List.length_append];have:=ZQ (s:=x0) (by omega);unfold tx at this;omega
   have hb56:=hb5.next hb6;have hB6:=hB5.below hb6 hB5.lt;have hBt6:=hBt.below hb6 hBt.lt;have ho6':=ho6.base (base':=wr.heap.size) hb5.size;have k1:w6.cell? ⟨ge,1,none⟩=some (.bool x1):=by rw [hB6.cell];rfl
   clear hr5 hb5 hb6 ho6 hB5 hBt
   cases x1 with
   | true=>
    go_wp2_with (at_builtin;refine Z1y rfl (.tmp 25) (.tmp 26) rfl wr.heap.size _ l6.length l6 rfl ho6' rfl (by decide) (by decide) (by omega) hb56.size ?_);intro d7 l7 A7 c7 w7 ed7 e7 ho7 hb7 hg7 _ i7 i8;have hb57:=hb56.trans hb7;have hB7:=hB6.grown hg7 (fun e=>own_ne ho6' hB6 (by decide) e.symm);have hBt7:=hBt6.grown hg7 (fun e=>own_ne ho6' hBt6 (by decide) e.symm);have k2:w7.cell? ⟨ge,2,none⟩=some (.string x2):=by rw [hB7.cell];rfl
    have hl7:l7.length≤l6.length+1:=by rw [e7.out,List.length_append];exact lR _
    go_wp2_with (at_builtin;refine Z4S rfl (.tmp 31) (.tmp 33) rfl wr.heap.size _ l7.length l7 rfl ho7 x2 rfl (by omega) hb57.size ?_);intro l8 A8 c8 w8 e8 ho8 hb8 hg8 i9 i10;go_wp2_with fail;refine ⟨⟨k+1,l8,A8,c8,by go_num,rfl,h1,?_,ho8.base hzr,i9,i10,hBt7.grown hg8 (fun e=>own_ne ho7 hBt7 (by decide) e.symm),hbel.trans ((hb57.trans hb8).mono hzr)⟩,by simp [intOf];omega⟩;have hd:d7=1:=Z0F (n:=1) ed7 rfl;unfold Hid;rw [e8.out,e7.out,e6.out,hT.out,hsucc.out,hd];unfold entB tx;simp only [List.append_assoc,List.cons_append,List.nil_append,if_true]
   | false=>
    go_wp2_with (at_builtin;refine Z1y rfl (.tmp 28) (.tmp 29) rfl wr.heap.size _ l6.length l6 rfl ho6' rfl (by decide) (by decide) (by omega) hb56.size ?_);intro d7 l7 A7 c7 w7 ed7 e7 ho7 hb7 hg7 _ i7 i8;have hb57:=hb56.trans hb7;have hB7:=hB6.grown hg7 (fun e=>own_ne ho6' hB6 (by decide) e.symm);have hBt7:=hBt6.grown hg7 (fun e=>own_ne ho6' hBt6 (by decide) e.symm);have k2:w7.cell? ⟨ge,2,none⟩=some (.string x2):=by rw [hB7.cell];rfl
    have hl7:l7.length≤l6.length+1:=by rw [e7.out,List.length_append];exact lR _
    go_wp2_with (at_builtin;refine Z4S rfl (.tmp 31) (.tmp 33) rfl wr.heap.size _ l7.length l7 rfl ho7 x2 rfl (by omega) hb57.size ?_);intro l8 A8 c8 w8 e8 ho8 hb8 hg8 i9 i10;go_wp2_with fail;refine ⟨⟨k+1,l8,A8,c8,by go_num,rfl,h1,?_,ho8.base hzr,i9,i10,hBt7.grown hg8 (fun e=>own_ne ho7 hBt7 (by decide) e.symm),hbel.trans ((hb57.trans hb8).mono hzr)⟩,by simp [intOf];omega⟩;have hd:d7=0:=UInt8.toNat_inj.1 ed7.out;unfold Hid;rw [e8.out,e7.out,e6.out,hT.out,hsucc.out,hd];unfold entB tx;simp [List.append_assoc]
  ·have d1:decide ((k:Int)<(es.length:Int))=false:=qF (by omega)
   have d1': ¬(k:Int)<(es.length:Int):=by omega
   have hkl:k=es.length:=by omega
   have hT2:Hid (l3=l++Z4G es):=by
    unfold Hid;rw [hT.out,hkl,List.take_length,HTE.out];unfold Z4G;rw [List.append_assoc]
   clear hkl;go_wp2_with fail;go_ret;exact ⟨l3,A3,c3,hT2,rfl,hown,hbel,i3,i4⟩
theorem Z5P (Ad:OA) (nd cd:Nat) (Ae:OA) (ne ce:Nat) (tr:BA) (Ap:OA) (np cp:Nat) (ta na wh:BA) (st:Int) (te:BA) (w:World):
  Calls Tryz.prog 95 #[.agg #[.int .i64 1,.slice Ad nd cd,.slice Ae ne ce,.string tr,.slice Ap np cp,.string ta,.string na,.string wh,.int .i64 st,.string te]] w fun e w'=>e= .returned (.iface 215 (.agg #[.slice Ad nd cd]))∧Below w.heap.size w w':=by
 have hb0:Below w.heap.size w (w.alloc (.cells #[.int .i64 1,.slice Ad nd cd,.slice Ae ne ce,.string tr,.slice Ap np cp,.string ta,.string na,.string wh,.int .i64 st,.string te] 40)):=(bR _ _).alloc (lR _) _;have hb1:=hb0.alloc (B:=w.heap.size) hb0.size (.cells #[.string wh,.int .i64 st,.string te] 213);go_in;go_wp2_with fail;go_ret;exact ⟨rfl,hb1⟩
theorem Z5Q (Ad:OA) (nd cd:Nat) (Ae:OA) (ne ce:Nat) (tr:BA) (Ap:OA) (np cp:Nat) (ta na wh:BA) (st:Int) (te:BA) (w:World):
  Calls Tryz.prog 95 #[.agg #[.int .i64 2,.slice Ad nd cd,.slice Ae ne ce,.string tr,.slice Ap np cp,.string ta,.string na,.string wh,.int .i64 st,.string te]] w fun e w'=>e= .returned (.iface 217 (.agg #[.slice Ae ne ce]))∧Below w.heap.size w w':=by
 have hb0:Below w.heap.size w (w.alloc (.cells #[.int .i64 2,.slice Ad nd cd,.slice Ae ne ce,.string tr,.slice Ap np cp,.string ta,.string na,.string wh,.int .i64 st,.string te] 40)):=(bR _ _).alloc (lR _) _;have hb1:=hb0.alloc (B:=w.heap.size) hb0.size (.cells #[.string wh,.int .i64 st,.string te] 213);go_in;go_wp2_with fail;go_ret;exact ⟨rfl,hb1⟩
theorem Z5R (Ad:OA) (nd cd:Nat) (Ae:OA) (ne ce:Nat) (tr:BA) (Ap:OA) (np cp:Nat) (ta na wh:BA) (st:Int) (te:BA) (w:World):
  Calls Tryz.prog 95 #[.agg #[.int .i64 3,.slice Ad nd cd,.slice Ae ne ce,.string tr,.slice Ap np cp,.string ta,.string na,.string wh,.int .i64 st,.string te]] w fun e w'=>e= .returned (.iface 219 (.agg #[.string tr,.slice Ap np cp,.string wh,.int .i64 st,.string te]))∧Below w.heap.size w w':=by
 have hb0:Below w.heap.size w (w.alloc (.cells #[.int .i64 3,.slice Ad nd cd,.slice Ae ne ce,.string tr,.slice Ap np cp,.string ta,.string na,.string wh,.int .i64 st,.string te] 40)):=(bR _ _).alloc (lR _) _;have hb1:=hb0.alloc (B:=w.heap.size) hb0.size (.cells #[.string wh,.int .i64 st,.string te] 213);go_in;go_wp2_with fail;go_ret;exact ⟨rfl,hb1⟩
theorem Z5S (Ad:OA) (nd cd:Nat) (Ae:OA) (ne ce:Nat) (tr:BA) (Ap:OA) (np cp:Nat) (ta na wh:BA) (st:Int) (te:BA) (w:World):
  Calls Tryz.prog 95 #[.agg #[.int .i64 4,.slice Ad nd cd,.slice Ae ne ce,.string tr,.slice Ap np cp,.string ta,.string na,.string wh,.int .i64 st,.string te]] w fun e w'=>e= .returned (.iface 221 (.agg #[.string ta,.string na,.string wh,.int .i64 st,.string te]))∧Below w.heap.size w w':=by
 have hb0:Below w.heap.size w (w.alloc (.cells #[.int .i64 4,.slice Ad nd cd,.slice Ae ne ce,.string tr,.slice Ap np cp,.string ta,.string na,.string wh,.int .i64 st,.string te] 40)):=(bR _ _).alloc (lR _) _;have hb1:=hb0.alloc (B:=w.heap.size) hb0.size (.cells #[.string wh,.int .i64 st,.string te] 213);go_in;go_wp2_with fail;go_ret;exact ⟨rfl,hb1⟩
theorem ZcZ (Ad:OA) (nd cd:Nat) (Ae:OA) (ne ce:Nat) (tr:BA) (Ap:OA) (np cp:Nat) (ta na wh:BA) (st:Int) (te:BA) (w:World) (k:Int) (h1:k≠1) (h2:k≠2) (h3:k≠3) (h4:k≠4):
  Calls Tryz.prog 95 #[.agg #[.int .i64 k,.slice Ad nd cd,.slice Ae ne ce,.string tr,.slice Ap np cp,.string ta,.string na,.string wh,.int .i64 st,.string te]] w fun e w'=>e= .returned (.nilIface)∧Below w.heap.size w w':=by
 have hb0:Below w.heap.size w (w.alloc (.cells #[.int .i64 k,.slice Ad nd cd,.slice Ae ne ce,.string tr,.slice Ap np cp,.string ta,.string na,.string wh,.int .i64 st,.string te] 40)):=(bR _ _).alloc (lR _) _;have hb1:=hb0.alloc (B:=w.heap.size) hb0.size (.cells #[.string wh,.int .i64 st,.string te] 213);have d1:(k==1)=false:=beq_eq_false_iff_ne.2 h1;have d2:(k==2)=false:=beq_eq_false_iff_ne.2 h2;have d3:(k==3)=false:=beq_eq_false_iff_ne.2 h3;have d4:(k==4)=false:=beq_eq_false_iff_ne.2 h4;clear h1 h2 h3 h4;go_in;go_wp2_with fail;go_ret;exact ⟨rfl,hb1⟩
theorem ta11 (xs:Array Value) (w:World):(Instr.typeAssert (.iface 215 (.agg xs)) 151 215 true).run Tryz.prog w= .ok (.tuple #[.agg xs,.bool true]) w:=by kernel_rfl
theorem ta21 (xs:Array Value) (w:World):(Instr.typeAssert (.iface 217 (.agg xs)) 151 215 true).run Tryz.prog w= .ok (.tuple #[.agg #[.slice none 0 0],.bool false]) w:=by kernel_rfl
theorem ta22 (xs:Array Value) (w:World):(Instr.typeAssert (.iface 217 (.agg xs)) 151 217 true).run Tryz.prog w= .ok (.tuple #[.agg xs,.bool true]) w:=by kernel_rfl
theorem ta31 (xs:Array Value) (w:World):(Instr.typeAssert (.iface 219 (.agg xs)) 151 215 true).run Tryz.prog w= .ok (.tuple #[.agg #[.slice none 0 0],.bool false]) w:=by kernel_rfl
theorem ta32 (xs:Array Value) (w:World):(Instr.typeAssert (.iface 219 (.agg xs)) 151 217 true).run Tryz.prog w= .ok (.tuple #[.agg #[.slice none 0 0],.bool false]) w:=by kernel_rfl
theorem ta33 (xs:Array Value) (w:World):(Instr.typeAssert (.iface 219 (.agg xs)) 151 219 true).run Tryz.prog w= .ok (.tuple #[.agg xs,.bool true]) w:=by kernel_rfl
theorem ta41 (xs:Array Value) (w:World):(Instr.typeAssert (.iface 221 (.agg xs)) 151 215 true).run Tryz.prog w= .ok (.tuple #[.agg #[.slice none 0 0],.bool false]) w:=by kernel_rfl
theorem ta42 (xs:Array Value) (w:World):(Instr.typeAssert (.iface 221 (.agg xs)) 151 217 true).run Tryz.prog w= .ok (.tuple #[.agg #[.slice none 0 0],.bool false]) w:=by kernel_rfl
theorem ta43 (xs:Array Value) (w:World):(Instr.typeAssert (.iface 221 (.agg xs)) 151 219 true).run Tryz.prog w= .ok (.tuple #[.agg #[.string ⟨#[]⟩,.slice none 0 0,.string ⟨#[]⟩,.int .i64 0,.string ⟨#[]⟩],.bool false]) w:=by kernel_rfl
theorem ta44 (xs:Array Value) (w:World):(Instr.typeAssert (.iface 221 (.agg xs)) 151 221 true).run Tryz.prog w= .ok (.tuple #[.agg xs,.bool true]) w:=by kernel_rfl
theorem taN1 (w:World):(Instr.typeAssert .nilIface 151 215 true).run Tryz.prog w= .ok (.tuple #[.agg #[.slice none 0 0],.bool false]) w:=by kernel_rfl
theorem taN2 (w:World):(Instr.typeAssert .nilIface 151 217 true).run Tryz.prog w= .ok (.tuple #[.agg #[.slice none 0 0],.bool false]) w:=by kernel_rfl
theorem taN3 (w:World):(Instr.typeAssert .nilIface 151 219 true).run Tryz.prog w= .ok (.tuple #[.agg #[.string ⟨#[]⟩,.slice none 0 0,.string ⟨#[]⟩,.int .i64 0,.string ⟨#[]⟩],.bool false]) w:=by kernel_rfl
theorem taN4 (w:World):(Instr.typeAssert .nilIface 151 221 true).run Tryz.prog w= .ok (.tuple #[.agg #[.string ⟨#[]⟩,.string ⟨#[]⟩,.string ⟨#[]⟩,.int .i64 0,.string ⟨#[]⟩],.bool false]) w:=by kernel_rfl
theorem Z6o (Ad:OA) (nd cd:Nat) (Ae:OA) (ne ce:Nat) (tr:BA) (Ap:OA) (np cp:Nat) (ta na wh:BA) (st:Int) (te:BA) (w:World):
  Calls Tryz.prog 159 #[.iface 215 (.agg #[.slice Ad nd cd])] w fun e w'=>e= .returned (.agg #[.int .i64 1,.slice Ad nd cd,.slice none 0 0,.string ⟨#[]⟩,.slice none 0 0,.string ⟨#[]⟩,.string ⟨#[]⟩,.string ⟨#[]⟩,.int .i64 0,.string ⟨#[]⟩])∧Below w.heap.size w w':=by
 have t1:=ta11 #[.slice Ad nd cd];go_in;go_wp2_with fail;refine bodyPost_ret (v:=.agg #[.int .i64 1,.slice Ad nd cd,.slice none 0 0,.string ⟨#[]⟩,.slice none 0 0,.string ⟨#[]⟩,.string ⟨#[]⟩,.string ⟨#[]⟩,.int .i64 0,.string ⟨#[]⟩]) (by simp [results,Tryz.results159,go_sem]) rfl ⟨rfl,?_⟩
 first
  | exact ((bR w.heap.size w).alloc (lR _) _).alloc (by simp) _
  | exact (((bR w.heap.size w).alloc (lR _) _).alloc (by simp) _).setCell (by simp) _
  | (trace_state;fail)
theorem Z6p (Ad:OA) (nd cd:Nat) (Ae:OA) (ne ce:Nat) (tr:BA) (Ap:OA) (np cp:Nat) (ta na wh:BA) (st:Int) (te:BA) (w:World):
  Calls Tryz.prog 159 #[.iface 217 (.agg #[.slice Ae ne ce])] w fun e w'=>e= .returned (.agg #[.int .i64 2,.slice none 0 0,.slice Ae ne ce,.string ⟨#[]⟩,.slice none 0 0,.string ⟨#[]⟩,.string ⟨#[]⟩,.string ⟨#[]⟩,.int .i64 0,.string ⟨#[]⟩])∧Below w.heap.size w w':=by
 have t1:=ta21 #[.slice Ae ne ce];have t2:=ta22 #[.slice Ae ne ce];go_in;go_wp2_with fail;refine bodyPost_ret (v:=.agg #[.int .i64 2,.slice none 0 0,.slice Ae ne ce,.string ⟨#[]⟩,.slice none 0 0,.string ⟨#[]⟩,.string ⟨#[]⟩,.string ⟨#[]⟩,.int .i64 0,.string ⟨#[]⟩]) (by simp [results,Tryz.results159,go_sem]) rfl ⟨rfl,?_⟩
 first
  | exact ((bR w.heap.size w).alloc (lR _) _).alloc (by simp) _
  | exact (((bR w.heap.size w).alloc (lR _) _).alloc (by simp) _).setCell (by simp) _
  | (trace_state;fail)
theorem Z6q (Ad:OA) (nd cd:Nat) (Ae:OA) (ne ce:Nat) (tr:BA) (Ap:OA) (np cp:Nat) (ta na wh:BA) (st:Int) (te:BA) (w:World):
  Calls Tryz.prog 159 #[.iface 219 (.agg #[.string tr,.slice Ap np cp,.string wh,.int .i64 st,.string te])] w fun e w'=>e= .returned (.agg #[.int .i64 3,.slice none 0 0,.slice none 0 0,.string tr,.slice Ap np cp,.string ⟨#[]⟩,.string ⟨#[]⟩,.string wh,.int .i64 st,.string te])∧Below w.heap.size w w':=by
 have t1:=ta31 #[.string tr,.slice Ap np cp,.string wh,.int .i64 st,.string te];have t2:=ta32 #[.string tr,.slice Ap np cp,.string wh,.int .i64 st,.string te];have t3:=ta33 #[.string tr,.slice Ap np cp,.string wh,.int .i64 st,.string te];go_in;go_wp2_with fail;refine bodyPost_ret (v:=.agg #[.int .i64 3,.slice none 0 0,.slice none 0 0,.string tr,.slice Ap np cp,.string ⟨#[]⟩,.string ⟨#[]⟩,.string wh,.int .i64 st,.string te]) (by simp [results,Tryz.results159,go_sem]) rfl ⟨rfl,?_⟩
 first
  | exact ((bR w.heap.size w).alloc (lR _) _).alloc (by simp) _
  | exact (((bR w.heap.size w).alloc (lR _) _).alloc (by simp) _).setCell (by simp) _
  | (trace_state;fail)
theorem Z6r (Ad:OA) (nd cd:Nat) (Ae:OA) (ne ce:Nat) (tr:BA) (Ap:OA) (np cp:Nat) (ta na wh:BA) (st:Int) (te:BA) (w:World):
  Calls Tryz.prog 159 #[.iface 221 (.agg #[.string ta,.string na,.string wh,.int .i64 st,.string te])] w fun e w'=>e= .returned (.agg #[.int .i64 4,.slice none 0 0,.slice none 0 0,.string ⟨#[]⟩,.slice none 0 0,.string ta,.string na,.string wh,.int .i64 st,.string te])∧Below w.heap.size w w':=by
 have t1:=ta41 #[.string ta,.string na,.string wh,.int .i64 st,.string te];have t2:=ta42 #[.string ta,.string na,.string wh,.int .i64 st,.string te];have t3:=ta43 #[.string ta,.string na,.string wh,.int .i64 st,.string te];have t4:=ta44 #[.string ta,.string na,.string wh,.int .i64 st,.string te];go_in;go_wp2_with fail;refine bodyPost_ret (v:=.agg #[.int .i64 4,.slice none 0 0,.slice none 0 0,.string ⟨#[]⟩,.slice none 0 0,.string ta,.string na,.string wh,.int .i64 st,.string te]) (by simp [results,Tryz.results159,go_sem]) rfl ⟨rfl,?_⟩
 first
  | exact ((bR w.heap.size w).alloc (lR _) _).alloc (by simp) _
  | exact (((bR w.heap.size w).alloc (lR _) _).alloc (by simp) _).setCell (by simp) _
  | (trace_state;fail)
theorem Zav (w:World):
  Calls Tryz.prog 159 #[.nilIface] w fun e w'=>e= .returned (.agg #[.int .i64 0,.slice none 0 0,.slice none 0 0,.string ⟨#[]⟩,.slice none 0 0,.string ⟨#[]⟩,.string ⟨#[]⟩,.string ⟨#[]⟩,.int .i64 0,.string ⟨#[]⟩])∧Below w.heap.size w w':=by
 have t1:=taN1;have t2:=taN2;have t3:=taN3;have t4:=taN4;go_in;go_wp2_with fail;refine bodyPost_ret (v:=.agg #[.int .i64 0,.slice none 0 0,.slice none 0 0,.string ⟨#[]⟩,.slice none 0 0,.string ⟨#[]⟩,.string ⟨#[]⟩,.string ⟨#[]⟩,.int .i64 0,.string ⟨#[]⟩]) (by simp [results,Tryz.results159,go_sem]) rfl ⟨rfl,?_⟩
 first
  | exact (bR w.heap.size w).alloc (lR _) _
  | (trace_state;fail)
def ZfZ (p:Prop) (w:World) (e:Ending) (w':World):Prop:=∃ v:Bool,e= .returned (.bool v)∧(v=true↔p)∧Below w.heap.size w w'
def Zs (k:Int) (vd ve:Value) (tr:BA) (vp:Value) (ta na wh:BA) (st:Int) (te:BA):List Value:=[.int .i64 k,vd,ve,.string tr,vp,.string ta,.string na,.string wh,.int .i64 st,.string te]
theorem Z2 {w:World} {g:Nat} {k:Int} {vd ve:Value} {tr:BA} {vp:Value} {ta na wh:BA} {st:Int} {te:BA} (h:Blk w g 40 (Zs k vd ve tr vp ta na wh st te)):
  w.cell? ⟨g,0,none⟩=some (.int .i64 k)∧w.cell? ⟨g,1,none⟩=some vd∧w.cell? ⟨g,2,none⟩=some ve∧w.cell? ⟨g,3,none⟩=some (.string tr)∧w.cell? ⟨g,4,none⟩=some vp∧w.cell? ⟨g,5,none⟩=some (.string ta)∧w.cell? ⟨g,6,none⟩=some (.string na)∧w.cell? ⟨g,7,none⟩=some (.string wh)∧w.cell? ⟨g,8,none⟩=some (.int .i64 st)∧w.cell? ⟨g,9,none⟩=some (.string te):=
 ⟨by rw [h.cell];rfl,by rw [h.cell];rfl,by rw [h.cell];rfl,by rw [h.cell];rfl,by rw [h.cell];rfl,by rw [h.cell];rfl,by rw [h.cell];rfl,by rw [h.cell];rfl,by rw [h.cell];rfl,by rw [h.cell];rfl⟩
theorem Zaw {x y:BA} (h:x=y):(x.toList==y.toList)=true:=by subst h;exact beq_iff_eq.2 rfl
theorem ZdU {x y:BA} (h: ¬x=y):(x.toList==y.toList)=false:=beq_eq_false_iff_ne.2 fun e=>h (Z23 e)
end Go.Proofs.YtecpbcmpncgokaaGreat
