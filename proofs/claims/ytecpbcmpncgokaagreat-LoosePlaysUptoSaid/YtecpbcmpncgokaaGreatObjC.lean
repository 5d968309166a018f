/- What a reader of an object's bytes takes, in plain Lean: what was taken, or that something was wrong. Conditions: bytes of at most 2^47 - 4096. -/
import Derived.Test.YtecpbcmpncgokaaGreatObjA
import Derived.Test.YtecpbcmpncgokaaGreatObjBB
import Derived.Test.YtecpbcmpncgokaaGreatCodeA
import Derived.Test.YtecpbcmpncgokaaGreatWordsA
import Derived.Test.YtecpbcmpncgokaaGreatShort
set_option maxRecDepth 100000
set_option maxHeartbeats 8000000
set_option linter.unusedVariables false
namespace Go.Dol
def Took {α:Type} (t:Option (α×LU)) (b:Bool) (v:α) (l':LU) (b':Bool):Prop:=(b'=true∧(b=true∨t=none))∨(b'=false∧b=false∧t=some (v,l'))
theorem Took.good {α:Type} {t:Option (α×LU)} {b b':Bool} {v:α} {l':LU} (h:Took t b v l' b') (hb:b'=false):b=false∧t=some (v,l'):=by
 rcases h with h | h
 ·rw [hb] at h
  cases h.1
 ·exact h.2
theorem Took.stay {α:Type} {t:Option (α×LU)} {b b':Bool} {v:α} {l':LU} (h:Took t b v l' b') (hb:b=true):b'=true:=by
 rcases h with h | h
 ·exact h.1
 ·rw [hb] at h
  cases h.2.1
theorem Z1f {α:Type} {t:Option (α×LU)} {v:α} {l':LU} (b:Bool) (h:t=some (v,l')):Took t b v l' b:=by
 cases b
 ·exact .inr ⟨rfl,rfl,h⟩
 ·exact .inl ⟨rfl,.inl rfl⟩
theorem Z1g {α:Type} {t:Option (α×LU)} (b:Bool) (v:α) (l':LU) (h:t=none):Took t b v l' true:=.inl ⟨rfl,.inr h⟩
def seqT {α β γ:Type} (t:Option (α×LU)) (s:LU→Option (β×LU)) (f:α→β→γ):Option (γ×LU):=
 match t with | none=>none | some (v,l1)=>match s l1 with | none=>none | some (u,l2)=>some (f v u,l2)
theorem Z8U {α β γ:Type} {v:α} {l1:LU} {s:LU→Option (β×LU)} {f:α→β→γ}:seqT (some (v,l1)) s f=match s l1 with | none=>none | some (u,l2)=>some (f v u,l2):=rfl
theorem Took.then {α β γ:Type} {t:Option (α×LU)} {b b1 b2:Bool} {v:α} {u:β} {l1 l2:LU} {s:LU→Option (β×LU)} (h1:Took t b v l1 b1) (h2:Took (s l1) b1 u l2 b2)
  {r:Option (γ×LU)} {f:α→β→γ} (hr:r=seqT t s f):Took r b (f v u) l2 b2:=by
 subst hr;rcases h2 with ⟨e2,h2⟩ | ⟨e2,e1,h2⟩
 ·refine .inl ⟨e2,?_⟩
  rcases h1 with ⟨e1,h1⟩ | ⟨e1,e0,h1⟩
  ·rcases h1 with h1 | h1
   ·exact .inl h1
   ·exact .inr (by rw [h1];rfl)
  ·rcases h2 with h2 | h2
   ·rw [e1] at h2
    cases h2
   ·exact .inr (by rw [h1,Z8U,h2])
 ·obtain ⟨e0,h1⟩:=h1.good e1
  exact .inr ⟨e2,e0,by rw [h1,Z8U,h2]⟩
def Zct {α:Type} (t:Option (α×LU)):Option (α×LU):=match t with | none=>none | some (v,_)=>some (v,[])
theorem Took.last {α:Type} {t:Option (α×LU)} {b b':Bool} {v:α} {l':LU} (h:Took t b v l' b'):Took (Zct t) b v [] b':=by
 rcases h with ⟨e,h⟩ | ⟨e,e0,h⟩
 ·refine .inl ⟨e,?_⟩
  rcases h with h | h
  ·exact .inl h
  ·exact .inr (by rw [h];rfl)
 ·exact .inr ⟨e,e0,by rw [h];rfl⟩
def dirT (r1:LU):Option ((LU×LU)×LU):=seqT (ZS 1 r1) (ZS 32) fun d i=>(d,i)
theorem ZbQ (r:LU):Z0a r=seqT (Z0j r) dirT fun nm u=>(⟨⟨nm.toArray⟩,decide (u.1=[1]),⟨u.2.toArray⟩⟩:Ent):=by
 unfold Z0a seqT dirT seqT
 cases Z0j r with
 | none=>rfl
 | some p=>
  obtain ⟨nm,r1⟩:=p;simp only
  cases ZS 1 r1 with
  | none=>rfl
  | some p=>
   obtain ⟨d,r2⟩:=p;simp only
   cases ZS 32 r2 with
   | none=>rfl
   | some p=>rfl
theorem ZaG {l l1 l2 l3:LU} {b b1 b2 b3:Bool} {nm d i:LU} (h1:Took (Z0j l) b nm l1 b1) (h2:Took (ZS 1 l1) b1 d l2 b2) (h3:Took (ZS 32 l2) b2 i l3 b3):Took (Z0a l) b (⟨⟨nm.toArray⟩,decide (d=[1]),⟨i.toArray⟩⟩:Ent) l3 b3:=
 h1.then (s:=dirT) (u:=(d,i)) (f:=fun nm u=>(⟨⟨nm.toArray⟩,decide (u.1=[1]),⟨u.2.toArray⟩⟩:Ent)) (h2.then (s:=ZS 32) h3 (f:=fun d i=>(d,i)) rfl) (ZbQ l)
def Z2Y (r:LU):Option ((BA×Int×BA)×LU):=match Z1R r with | none=>none | some v=>some (v,[])
def ZdX (r1:LU):Option ((Nat×LU)×LU):=seqT (Z7 r1) (fun r2=>Zct (Z0j r2)) fun n t=>(n,t)
theorem ZaH (r:LU):Z2Y r=seqT (Z0j r) ZdX fun who u=>((⟨who.toArray⟩,(u.1:Int),⟨u.2.toArray⟩):BA×Int×BA):=by
 unfold Z2Y Z1R seqT ZdX seqT Zct
 cases Z0j r with
 | none=>rfl
 | some p=>
  obtain ⟨nm,r1⟩:=p;simp only
  cases Z7 r1 with
  | none=>rfl
  | some p=>
   obtain ⟨d,r2⟩:=p;simp only
   cases Z0j r2 with
   | none=>rfl
   | some p=>rfl
theorem Z4r {l l1 l2 l3:LU} {b b1 b2 b3:Bool} {who text:LU} {n:Nat} (h1:Took (Z0j l) b who l1 b1) (h2:Took (Z7 l1) b1 n l2 b2) (h3:Took (Z0j l2) b2 text l3 b3):Took (Z2Y l) b ((⟨who.toArray⟩,(n:Int),⟨text.toArray⟩):BA×Int×BA) [] b3:=
 h1.then (s:=ZdX) (u:=(n,text)) (f:=fun who u=>((⟨who.toArray⟩,(u.1:Int),⟨u.2.toArray⟩):BA×Int×BA)) (h2.then (s:=fun r2=>Zct (Z0j r2)) h3.last (f:=fun n t=>(n,t)) rfl) (ZaH l)
def ZK {α:Type} (f:LU→Option (α×LU)):Nat→LU→Option (List α×LU)
 | 0,r=>some ([],r)
 | n+1,r=>match f r with
  | none=>none
  | some (e,r1)=>match ZK f n r1 with
   | none=>none
   | some (l,r2)=>some (e::l,r2)
theorem Z4I: ∀(n:Nat) (r:LU),Z2U n r=ZK Z0a n r
 | 0,_=>rfl
 | n+1,r=>by
  unfold Z2U ZK
  cases Z0a r with
  | none=>rfl
  | some p=>
   obtain ⟨e,r1⟩:=p;simp only;rw [Z4I n r1]
   cases ZK Z0a n r1 with
   | none=>rfl
   | some p=>rfl
def Z0s (r:LU):Option (BA×LU):=match ZS 32 r with | none=>none | some (p,r1)=>some (⟨p.toArray⟩,r1)
theorem Z4J: ∀(n:Nat) (r:LU),Z2V n r=ZK Z0s n r
 | 0,_=>rfl
 | n+1,r=>by
  have hp:Z0s r=match ZS 32 r with | none=>none | some (p,r1)=>some (⟨p.toArray⟩,r1):=rfl
  unfold Z2V ZK;rw [hp]
  cases ZS 32 r with
  | none=>rfl
  | some p=>
   obtain ⟨e,r1⟩:=p;simp only;rw [Z4J n r1]
   cases ZK Z0s n r1 with
   | none=>rfl
   | some p=>rfl
def Sofar {α:Type} (f:LU→Option (α×LU)) (N:Nat) (l0:LU) (b0:Bool) (acc:List α) (n:Nat) (r:LU) (b:Bool):Prop:=
 (b=true∧(b0=true∨ZK f N l0=none))∨(b=false∧b0=false∧ZK f N l0=match ZK f n r with | none=>none | some (l,q)=>some (acc++l,q))
theorem Sofar.start {α:Type} (f:LU→Option (α×LU)) (N:Nat) (l0:LU) (b:Bool):Sofar f N l0 b [] N l0 b:=by
 cases b
 ·refine .inr ⟨rfl,rfl,?_⟩
  split<;>simp_all
 ·exact .inl ⟨rfl,.inl rfl⟩
theorem Sofar.step {α:Type} {f:LU→Option (α×LU)} {N n:Nat} {l0 r r':LU} {b0 b b':Bool} {acc:List α} {v:α} (h:Sofar f N l0 b0 acc (n+1) r b) (ht:Took (f r) b v r' b'):Sofar f N l0 b0 (acc++[v]) n r' b':=by
 rcases h with ⟨e,h⟩ | ⟨e,e0,h⟩
 ·exact .inl ⟨ht.stay e,h⟩
 ·rcases ht with ⟨e1,h1⟩ | ⟨e1,_,h1⟩
  ·refine .inl ⟨e1,.inr ?_⟩
   rcases h1 with h1 | h1
   ·rw [e] at h1
    cases h1
   ·rw [h]
    unfold ZK;simp only [h1]
  ·refine .inr ⟨e1,e0,?_⟩
   rw [h]
   conv=>lhs;unfold ZK
   simp only [h1]
   cases ZK f n r' with
   | none=>rfl
   | some p=>simp [List.append_assoc]
theorem Sofar.done {α:Type} {f:LU→Option (α×LU)} {N n:Nat} {l0 r:LU} {b0 b:Bool} {acc:List α} (h:Sofar f N l0 b0 acc n r b) (hn:n=0∨b=true):Took (ZK f N l0) b0 acc r b:=by
 rcases h with ⟨e,h⟩ | ⟨e,e0,h⟩
 ·exact .inl ⟨e,h⟩
 ·rcases hn with hn | hn
  ·subst hn
   refine .inr ⟨e,e0,?_⟩;rw [h];simp [ZK]
  ·rw [e] at hn
   cases hn
theorem Z4K {p:LU} {t:Nat} {rest:LU} (h:Z7 p=some (t,rest)):rest.length<p.length:=by
 obtain ⟨rfl,_⟩:=ZC h;have:=Z6O t;rw [List.length_append];omega
theorem Z51 {n:Nat} {l a r:LU} (h:ZS n l=some (a,r)):a.length=n∧r.length+n=l.length:=by
 unfold ZS at h;split at h
 ·cases h
 ·injection h with h
  injection h with h1 h2
  subst h1;subst h2;simp only [List.length_take,List.length_drop];omega
def Z3R {α:Type} (f:LU→Option (α×LU)) (l:LU):Option (List α×LU):=match Z7 l with | none=>none | some (n,l1)=>ZK f n l1
theorem Z1h {α:Type} {f:LU→Option (α×LU)} {l l1 l2:LU} {b b1 b2:Bool} {n:Nat} {v:List α} (h1:Took (Z7 l) b n l1 b1) (h2:Took (ZK f n l1) b1 v l2 b2):Took (Z3R f l) b v l2 b2:=by
 rcases h2 with ⟨e2,h2⟩ | ⟨e2,e1,h2⟩
 ·refine .inl ⟨e2,?_⟩
  rcases h1 with ⟨e1,h1⟩ | ⟨e1,e0,h1⟩
  ·rcases h1 with h1 | h1
   ·exact .inl h1
   ·exact .inr (by unfold Z3R;rw [h1])
  ·rcases h2 with h2 | h2
   ·rw [e1] at h2
    cases h2
   ·exact .inr (by unfold Z3R;rw [h1];exact h2)
 ·obtain ⟨e0,h1⟩:=h1.good e1
  exact .inr ⟨e2,e0,by unfold Z3R;rw [h1];exact h2⟩
def Z10 (p:Option Obj) (o:Obj) (b:Bool):Prop:=(b=true∧p=none)∨(b=false∧p=some o)
def endO {α:Type} (t:Option (α×LU)) (f:α→Obj):Option Obj:=match t with | none=>none | some (v,_)=>some (f v)
theorem Z5T {α:Type} {t:Option (α×LU)} {p:Option Obj} {f:α→Obj} {v:α} {l':LU} {b:Bool} (h:Took t false v l' b) (hp:p=endO t f):Z10 p (f v) b:=by
 subst hp;rcases h with ⟨e,h⟩ | ⟨e,_,h⟩
 ·refine .inl ⟨e,?_⟩
  rcases h with h | h
  ·cases h
  ·rw [h];rfl
 ·exact .inr ⟨e,by rw [h];rfl⟩
theorem Z3S {l l':LU} {en:List Ent} {b:Bool} (h:Took (Z3R Z0a l) false en l' b):Z10 (Z2W l) { Obj.zero with kind:=2,ents:=en } b:=
 Z5T (f:=fun en=>{ Obj.zero with kind:=2,ents:=en }) h (by
  unfold Z2W endO Z3R
  cases Z7 l with
  | none=>rfl
  | some p=>
   obtain ⟨n,r1⟩:=p;simp only;rw [Z4I]
   cases ZK Z0a n r1 with
   | none=>rfl
   | some p=>rfl)
def comT (r1:LU):Option ((List BA×(BA×Int×BA))×LU):=seqT (Z3R Z0s r1) Z2Y fun l v=>(l,v)
theorem Z2N {l l1 l2 l3:LU} {t:LU} {pa:List BA} {v:BA×Int×BA} {b1 b2 b3:Bool} (h1:Took (ZS 32 l) false t l1 b1) (h2:Took (Z3R Z0s l1) b1 pa l2 b2) (h3:Took (Z2Y l2) b2 v l3 b3):
  Z10 (Z1S l) { Obj.zero with kind:=3,tree:=⟨t.toArray⟩,pars:=pa,who:=v.1,stamp:=v.2.1,text:=v.2.2 } b3:=
 Z5T (f:=fun x:LU×(List BA×(BA×Int×BA))=>{ Obj.zero with kind:=3,tree:=⟨x.1.toArray⟩,pars:=x.2.1,who:=x.2.2.1,stamp:=x.2.2.2.1,text:=x.2.2.2.2 })
  (h1.then (s:=comT) (u:=(pa,v)) (f:=fun t u=>(t,u)) (h2.then (s:=Z2Y) h3 (f:=fun l v=>(l,v)) rfl) rfl) (by
   unfold Z1S endO seqT comT seqT Z3R Z2Y
   cases ZS 32 l with
   | none=>rfl
   | some p=>
    obtain ⟨t,r1⟩:=p;simp only
    cases Z7 r1 with
    | none=>rfl
    | some p=>
     obtain ⟨n,r2⟩:=p;simp only;rw [Z4J]
     cases ZK Z0s n r2 with
     | none=>rfl
     | some p=>
      obtain ⟨l,r3⟩:=p;simp only
      cases Z1R r3 with
      | none=>rfl
      | some p=>rfl)
def tagT (r1:LU):Option ((LU×(BA×Int×BA))×LU):=seqT (Z0j r1) Z2Y fun l v=>(l,v)
theorem Z7r {l l1 l2 l3:LU} {t nm:LU} {v:BA×Int×BA} {b1 b2 b3:Bool} (h1:Took (ZS 32 l) false t l1 b1) (h2:Took (Z0j l1) b1 nm l2 b2) (h3:Took (Z2Y l2) b2 v l3 b3):
  Z10 (Z3O l) { Obj.zero with kind:=4,target:=⟨t.toArray⟩,name:=⟨nm.toArray⟩,who:=v.1,stamp:=v.2.1,text:=v.2.2 } b3:=
 Z5T (f:=fun x:LU×(LU×(BA×Int×BA))=>{ Obj.zero with kind:=4,target:=⟨x.1.toArray⟩,name:=⟨x.2.1.toArray⟩,who:=x.2.2.1,stamp:=x.2.2.2.1,text:=x.2.2.2.2 })
  (h1.then (s:=tagT) (u:=(nm,v)) (f:=fun t u=>(t,u)) (h2.then (s:=Z2Y) h3 (f:=fun l v=>(l,v)) rfl) rfl) (by
   unfold Z3O endO seqT tagT seqT Z2Y
   cases ZS 32 l with
   | none=>rfl
   | some p=>
    obtain ⟨t,r1⟩:=p;simp only
    cases Z0j r1 with
    | none=>rfl
    | some p=>
     obtain ⟨nm,r2⟩:=p;simp only
     cases Z1R r2 with
     | none=>rfl
     | some p=>rfl)
theorem Z1p {ge:BA→BA→Bool} {k:UInt8} {l:LU} {o:Obj} {b:Bool} (h:Z10 (ZN k l) o b):decO ge (k::l)=if b=false∧Zb ge o=true∧encO o=k::l then some o else none:=by
 have hp:Z7n (k::l)=ZN k l:=rfl;unfold decO;rw [hp];rcases h with ⟨e,h⟩ | ⟨e,h⟩
 ·rw [h,e]
  simp
 ·rw [h,e]
  simp
end Go.Dol
namespace Go.Proofs.YtecpbcmpncgokaaGreat
open Go.RowKit Go.Dol
def errB (b:Bool):Int:=if b then 2 else 0
def Rs (w:World) (B g:Nat) (l:LU) (b:Bool):Prop:=
 ∃(A:OA) (c:Nat),Blk w g 224 [.slice A l.length c,.int .i64 (errB b)]∧Far w B A l∧l.length≤c∧c≤maxLen∧l.length≤140737488355328∧B≤g
theorem Rs.lt {w:World} {B g:Nat} {l:LU} {b:Bool} (h:Rs w B g l b):g<w.heap.size∧B≤g:=by
 obtain ⟨A,c,hB,_,_,_,_,h1⟩:=h;exact ⟨hB.lt,h1⟩
theorem Rs.keep {w w':World} {B g:Nat} {l:LU} {b:Bool} (h:Rs w B g l b) {row:Option Nat} (hg:w.grownBy w' row) (hne:some g≠row) (hr:Other w B row):Rs w' B g l b:=by
 obtain ⟨A,c,hB,hF,h1⟩:=h;exact ⟨A,c,hB.grown hg hne,hF.keep hg hr,h1⟩
theorem Rs.below {w w':World} {B g:Nat} {l:LU} {b:Bool} (h:Rs w B g l b) (hb:Below w.heap.size w w'):Rs w' B g l b:=by
 obtain ⟨A,c,hB,hF,h1⟩:=h;exact ⟨A,c,hB.below hb hB.lt,hF.below hb,h1⟩
theorem Rs.drew {w:World} {B g:Nat} {l:LU} {b:Bool} (h:Rs w B g l b):Rs w.drew B g l b:=by
 obtain ⟨A,c,hB,hF,h1⟩:=h;exact ⟨A,c,hB.drew,hF.drew,h1⟩
def ZdY {α:Type} (mk:α→Value) (P:α→Prop) (B g:Nat) (t:Option (α×LU)) (l:LU) (b:Bool) (w:World) (e:Ending) (w':World):Prop:=
 ∃(v:α) (l':LU) (b':Bool),e= .returned (mk v)∧Rs w' B g l' b'∧Hid (Took t b v l' b')∧w.grownBy w' (some g)∧l'.length≤l.length∧P v
def mkS (v:LU):Value:=.string ⟨v.toArray⟩
def mkN (n:Nat):Value:=.int .i64 (n:Nat)
theorem Z0z (B g n:Nat) (nI:Int) (hnI:nI=(n:Nat)) (l:LU) (b:Bool) (w:World) (h:Rs w B g l b):
  Calls Tryz.prog 229 #[.pointer (some ⟨g,0,none⟩),.int .i64 nI] w (ZdY mkS (fun v=>v.length≤n) B g (ZS n l) l b w):=by
 obtain ⟨A,c,hB,hF,hc,hcm,hl,hBg⟩:=h;have hO:=Other.blk hB (by decide) hBg;have k0:w.cell? ⟨g,0,none⟩=some (.slice A l.length c):=by rw [hB.cell];rfl
 have k1:w.cell? ⟨g,1,none⟩=some (.int .i64 (errB b)):=by rw [hB.cell];rfl
 have z0:=hB.free 0;have z1:=hB.free 1
 by_cases hn:l.length<n
 ·have d1:decide ((l.length:Int)<nI)=true:=dT (by omega)
  have HT:Hid (ZS n l=none):=by unfold Hid ZS;rw [if_pos hn]
  clear hnI;go_in;go_wp2_with fail;go_ret;have hg:w.grownBy (w.setCell ⟨g,1,none⟩ (.int .i64 2)) (some g):=Z0 (gR w _) 1 _;exact ⟨[],l,true,rfl,⟨A,c,hB.set 1 (.int .i64 2),hF.keep hg hO,hc,hcm,hl,hBg⟩,qI (Z1g b _ _ HT.out),hg,lR _,zL _⟩
 ·have hn':n≤l.length:=by omega
  have d1:decide ((l.length:Int)<nI)=false:=qF (by omega);have HT:Hid (ZS n l=some (l.take n,l.drop n)):=by unfold Hid ZS;rw [if_neg hn]
  obtain ⟨m,em,jm,jm',⟨rm,km,km'⟩,_,sm⟩:=ZeR (k:=n) nI hnI hF.1 hn' hc hcm;obtain ⟨q,A',c',eq,jq,jq',hq,_,sq,_,sn⟩:=Z0V (k:=n) nI hnI hF.1 hn' hc hcm;have v1:=Z0L (c:=c) rm;clear hnI hn;go_in;go_wp2_with fail;go_ret;have hg:w.grownBy (w.setCell ⟨g,0,none⟩ (.slice A' q.length c')) (some g):=Z0 (gR w _) 0 _;have hq2:=hq.2;refine ⟨m,q,b,rfl,⟨A',c',hB.set 0 (.slice A' q.length c'),(hF.piece hq (lR _) jq sq).keep hg hO,hq2.1,hq2.2,by omega,hBg⟩,qI (Z1f b ?_),hg,by omega,jm⟩;rw [HT.out,em.out,eq.out]
theorem Z3T (B g:Nat) (l:LU) (b:Bool) (w:World) (h:Rs w B g l b):
  Calls Tryz.prog 269 #[.pointer (some ⟨g,0,none⟩)] w (ZdY mkN (fun n=>n≤4611686018427387903) B g (Z7 l) l b w):=by
 obtain ⟨A,c,hB,hF,hc,hcm,hl,hBg⟩:=h;have hO:=Other.blk hB (by decide) hBg;have k0:w.cell? ⟨g,0,none⟩=some (.slice A l.length c):=by rw [hB.cell];rfl
 have hgl:=hB.lt;go_in;go_wp2_with fail;refine (Z0w A l c w hF.1 hl hc).mono ?_;intro e w1 h1;rcases ht:Z7 l with _ | ⟨n,q⟩
 ·rw [ht] at h1
  obtain ⟨rfl,hb1⟩:=h1;have hB1:=hB.below hb1 hgl;have hO1:=Other.blk hB1 (by decide) hBg;have k1:w1.cell? ⟨g,1,none⟩=some (.int .i64 (errB b)):=by rw [hB1.cell];rfl
  have z0:=hB1.free 0;have z1:=hB1.free 1;have k3:w1.cell? ⟨g,0,none⟩=some (.slice A l.length c):=by rw [hB1.cell];rfl
  have HT:=qI ht;clear ht k0
  cases b with
  | false=>
   have k2:w1.cell? ⟨g,1,none⟩=some (.int .i64 0):=k1;clear k1;go_wp2_with fail;go_ret;have hg:w1.grownBy ((w1.setCell ⟨g,0,none⟩ (.slice none 0 0)).setCell ⟨g,1,none⟩ (.int .i64 2)) (some g):=Z0 (Z0 (gR w1 _) 0 _) 1 _;rw [HT.out];exact ⟨0,[],true,rfl,⟨none,0,(hB1.set 0 (.slice none 0 0)).set 1 (.int .i64 2),Far.nil,zL _,by decide,by decide,hBg⟩,qI (Z1g _ _ _ rfl),Z6 (Z5 hb1 _) hg,zL _,by decide⟩
  | true=>
   have k2:w1.cell? ⟨g,1,none⟩=some (.int .i64 2):=k1;clear k1;go_wp2_with fail;go_ret;have hg:w1.grownBy ((w1.setCell ⟨g,0,none⟩ (.slice none 0 0)).setCell ⟨g,1,none⟩ (.int .i64 2)) (some g):=Z0 (Z0 (gR w1 _) 0 _) 1 _;rw [HT.out];exact ⟨0,[],true,rfl,⟨none,0,(hB1.set 0 (.slice none 0 0)).set 1 (.int .i64 2),Far.nil,zL _,by decide,by decide,hBg⟩,qI (Z1g _ _ _ rfl),Z6 (Z5 hb1 _) hg,zL _,by decide⟩
 ·rw [ht] at h1
  obtain ⟨q',A',c',e1,rfl,ho1,hb1,i1,i2⟩:=h1;have hB1:=hB.below hb1 hgl;have hO1:=Other.blk hB1 (by decide) hBg;have k1:w1.cell? ⟨g,1,none⟩=some (.int .i64 (errB b)):=by rw [hB1.cell];rfl
  have z0:=hB1.free 0;have z1:=hB1.free 1;have k3:w1.cell? ⟨g,0,none⟩=some (.slice A l.length c):=by rw [hB1.cell];rfl
  have HT:=qI ht;have hlt:=qI (Z4K ht);have hn:=qI ((ZC ht).2);have hF1:Far w1 B A' q':=Far.of_seg (Seg.of_own ho1);clear ht k0
  cases b with
  | false=>
   have k2:w1.cell? ⟨g,1,none⟩=some (.int .i64 0):=k1;clear k1;go_wp2_with fail;go_ret;have hg:w1.grownBy ((w1.setCell ⟨g,0,none⟩ (.slice A' q'.length c')).setCell ⟨g,1,none⟩ (.int .i64 0)) (some g):=Z0 (Z0 (gR w1 _) 0 _) 1 _;have hq:q'.length<l.length:=by rw [e1.out];exact hlt.out
   rw [HT.out];exact ⟨n,q',false,rfl,⟨A',c',(hB1.set 0 (.slice A' q'.length c')).set 1 (.int .i64 0),hF1.keep hg hO1,i1,i2,by omega,hBg⟩,qI (Z1f _ (by rw [e1.out])),Z6 (Z5 hb1 _) hg,by omega,hn.out⟩
  | true=>
   have k2:w1.cell? ⟨g,1,none⟩=some (.int .i64 2):=k1;clear k1;go_wp2_with fail;go_ret;have hg:w1.grownBy ((w1.setCell ⟨g,0,none⟩ (.slice A' q'.length c')).setCell ⟨g,1,none⟩ (.int .i64 2)) (some g):=Z0 (Z0 (gR w1 _) 0 _) 1 _;have hq:q'.length<l.length:=by rw [e1.out];exact hlt.out
   rw [HT.out];exact ⟨n,q',true,rfl,⟨A',c',(hB1.set 0 (.slice A' q'.length c')).set 1 (.int .i64 2),hF1.keep hg hO1,i1,i2,by omega,hBg⟩,qI (Z1f _ (by rw [e1.out])),Z6 (Z5 hb1 _) hg,by omega,hn.out⟩
theorem Z52 {l s q:LU} (h:Z0j l=some (s,q)):q.length≤l.length∧s.length≤1048576:=by
 unfold Z0j at h;obtain ⟨e,h1,h2⟩:=Z81 h;have:=congrArg List.length e;simp only [List.length_append] at this;omega
theorem Z29 (B g:Nat) (l:LU) (b:Bool) (w:World) (h:Rs w B g l b):
  Calls Tryz.prog 232 #[.pointer (some ⟨g,0,none⟩)] w (ZdY mkS (fun v=>v.length≤1048576) B g (Z0j l) l b w):=by
 obtain ⟨A,c,hB,hF,hc,hcm,hl,hBg⟩:=h;have hO:=Other.blk hB (by decide) hBg;have k0:w.cell? ⟨g,0,none⟩=some (.slice A l.length c):=by rw [hB.cell];rfl
 have hgl:=hB.lt;go_in;go_wp2_with fail;refine (Z9a A l c 1048576 w hF.1 hl hc).mono ?_;intro e w1 h1;change Z5b w (Z0j l) e w1 at h1;rcases ht:Z0j l with _ | ⟨s,q⟩
 ·rw [ht] at h1
  obtain ⟨rfl,hb1⟩:=h1;have hB1:=hB.below hb1 hgl;have hO1:=Other.blk hB1 (by decide) hBg;have k1:w1.cell? ⟨g,1,none⟩=some (.int .i64 (errB b)):=by rw [hB1.cell];rfl
  have z0:=hB1.free 0;have z1:=hB1.free 1;have k3:w1.cell? ⟨g,0,none⟩=some (.slice A l.length c):=by rw [hB1.cell];rfl
  have HT:=qI ht;clear ht k0
  cases b with
  | false=>
   have k2:w1.cell? ⟨g,1,none⟩=some (.int .i64 0):=k1;clear k1;go_wp2_with fail;go_ret;have hg:w1.grownBy ((w1.setCell ⟨g,0,none⟩ (.slice none 0 0)).setCell ⟨g,1,none⟩ (.int .i64 2)) (some g):=Z0 (Z0 (gR w1 _) 0 _) 1 _;rw [HT.out];exact ⟨[],[],true,rfl,⟨none,0,(hB1.set 0 (.slice none 0 0)).set 1 (.int .i64 2),Far.nil,zL _,by decide,by decide,hBg⟩,qI (Z1g _ _ _ rfl),Z6 (Z5 hb1 _) hg,zL _,by decide⟩
  | true=>
   have k2:w1.cell? ⟨g,1,none⟩=some (.int .i64 2):=k1;clear k1;go_wp2_with fail;go_ret;have hg:w1.grownBy ((w1.setCell ⟨g,0,none⟩ (.slice none 0 0)).setCell ⟨g,1,none⟩ (.int .i64 2)) (some g):=Z0 (Z0 (gR w1 _) 0 _) 1 _;rw [HT.out];exact ⟨[],[],true,rfl,⟨none,0,(hB1.set 0 (.slice none 0 0)).set 1 (.int .i64 2),Far.nil,zL _,by decide,by decide,hBg⟩,qI (Z1g _ _ _ rfl),Z6 (Z5 hb1 _) hg,zL _,by decide⟩
 ·rw [ht] at h1
  obtain ⟨q',A',c',e1,rfl,hs1,hb1⟩:=h1;have hB1:=hB.below hb1 hgl;have hO1:=Other.blk hB1 (by decide) hBg;have k1:w1.cell? ⟨g,1,none⟩=some (.int .i64 (errB b)):=by rw [hB1.cell];rfl
  have z0:=hB1.free 0;have z1:=hB1.free 1;have k3:w1.cell? ⟨g,0,none⟩=some (.slice A l.length c):=by rw [hB1.cell];rfl
  have HT:=qI ht;have hlt:=qI (Z52 ht);have hF1:Far w1 B A' q':=Far.of_seg hs1;have i1:=hs1.2.1;have i2:=hs1.2.2.1;clear ht k0 hs1
  cases b with
  | false=>
   have k2:w1.cell? ⟨g,1,none⟩=some (.int .i64 0):=k1;clear k1;go_wp2_with fail;go_ret;have hg:w1.grownBy ((w1.setCell ⟨g,0,none⟩ (.slice A' q'.length c')).setCell ⟨g,1,none⟩ (.int .i64 0)) (some g):=Z0 (Z0 (gR w1 _) 0 _) 1 _;have hq:q'.length≤l.length:=by rw [e1.out];exact hlt.out.1
   rw [HT.out];exact ⟨s,q',false,rfl,⟨A',c',(hB1.set 0 (.slice A' q'.length c')).set 1 (.int .i64 0),hF1.keep hg hO1,i1,i2,by omega,hBg⟩,qI (Z1f _ (by rw [e1.out])),Z6 (Z5 hb1 _) hg,by omega,hlt.out.2⟩
  | true=>
   have k2:w1.cell? ⟨g,1,none⟩=some (.int .i64 2):=k1;clear k1;go_wp2_with fail;go_ret;have hg:w1.grownBy ((w1.setCell ⟨g,0,none⟩ (.slice A' q'.length c')).setCell ⟨g,1,none⟩ (.int .i64 2)) (some g):=Z0 (Z0 (gR w1 _) 0 _) 1 _;have hq:q'.length≤l.length:=by rw [e1.out];exact hlt.out.1
   rw [HT.out];exact ⟨s,q',true,rfl,⟨A',c',(hB1.set 0 (.slice A' q'.length c')).set 1 (.int .i64 2),hF1.keep hg hO1,i1,i2,by omega,hBg⟩,qI (Z1f _ (by rw [e1.out])),Z6 (Z5 hb1 _) hg,by omega,hlt.out.2⟩
def mkT (v:BA×Int×BA):Value:=.agg #[.string v.1,.int .i64 v.2.1,.string v.2.2]
theorem Z5r (B g:Nat) (l:LU) (b:Bool) (w:World) (h:Rs w B g l b):
  Calls Tryz.prog 234 #[.pointer (some ⟨g,0,none⟩)] w fun e w'=> ∃(v:BA×Int×BA) (l':LU) (b':Bool),e= .returned (mkT v)∧Rs w' B g l' b'∧Hid (Took (Z2Y l) b v [] b')∧w.grownBy w' (some g):=by
 obtain ⟨hgl,hBg⟩:=h.lt;have hb0:Below w.heap.size w (w.alloc (.cells #[.string ⟨#[]⟩,.int .i64 0,.string ⟨#[]⟩] 213)):=(bR _ _).alloc (lR _) _;have hB0:=Blk.new w 213 [.string ⟨#[]⟩,.int .i64 0,.string ⟨#[]⟩];have h0:=h.below hb0;have hne:some w.heap.size≠some g:=fun e=>by injection e with e;omega
 go_in;go_wp2_with fail;refine (Z29 B g l b _ h0).mono ?_;rintro e w1 ⟨who,l1,b1,rfl,h1,t1,g1,y1,_⟩;have hB1:=hB0.grown g1 hne;unfold mkS;go_wp2_with fail;refine (Z3T B g l1 b1 _ h1).mono ?_;rintro e w2 ⟨n,l2,b2,rfl,h2,t2,g2,y2,_⟩;have hB2:=hB1.grown g2 hne;unfold mkN;go_wp2_with fail;refine (Z29 B g l2 b2 _ h2).mono ?_;rintro e w3 ⟨tx,l3,b3,rfl,h3,t3,g3,y3,_⟩;have hB3:=hB2.grown g3 hne;unfold mkS;have HT:Hid (Took (Z2Y l) b ((⟨who.toArray⟩,(n:Int),⟨tx.toArray⟩):BA×Int×BA) [] b3):=Z4r t1.out t2.out t3.out;clear t1 t2 t3;go_wp2_with ((refine Z3 (by rfl) _ (.tmp 2) (.tmp 9) rfl w.heap.size [.string ⟨who.toArray⟩,.int .i64 (n:Nat),.string ⟨tx.toArray⟩] rfl rfl 213 [.string ⟨#[]⟩,.int .i64 0,.string ⟨#[]⟩] hB3 (by kernel_rfl) rfl (by intro v hv;simp only [List.mem_cons,List.not_mem_nil,or_false] at hv;rcases hv with rfl | rfl | rfl<;>rfl) ?_;intro w4 hB4 hg4));have q0:w4.cell? ⟨w.heap.size,0,none⟩=some (.string ⟨who.toArray⟩):=by rw [hB4.cell];rfl
 have q1:w4.cell? ⟨w.heap.size,1,none⟩=some (.int .i64 (n:Nat)):=by rw [hB4.cell];rfl
 have q2:w4.cell? ⟨w.heap.size,2,none⟩=some (.string ⟨tx.toArray⟩):=by rw [hB4.cell];rfl
 have hw:w.grownBy w4 (some g):=by
  have h5:=Z6 (Z6 (Z5 hb0 (some g)) (Z6 g1 g2)) g3;refine ⟨hg4.os.trans h5.os,hg4.tape.trans h5.tape,hg4.output.trans h5.output,lT h5.size hg4.size,fun k hk hkg=> ?_⟩;rw [hg4.block k (Nat.lt_of_lt_of_le hk h5.size) (fun e=>by injection e with e;omega),h5.block k hk hkg]
 refine bodyPost_ret (v:=mkT (⟨who.toArray⟩,(n:Int),⟨tx.toArray⟩)) ?_ rfl ⟨_,l3,b3,rfl,h3.keep hg4 (fun e=>by injection e with e;omega) (Other.blk hB3 (by decide) (by omega)),HT,hw⟩;unfold mkT;simp [results,Tryz.results234,asAddr,q0,q1,q2,go_sem]
end Go.Proofs.YtecpbcmpncgokaaGreat
namespace Go.Dol
open Go.RowKit
theorem Rd.new3 (w:World) (T:TypeId) (u v x:Value):Rd (w.alloc (.cells #[u,v,x] T)) (w.heap.size+1) 3 (some ⟨w.heap.size,0,none⟩) 1 [u,v,x]:=by
 refine ⟨by simp,fun _=>⟨w.heap.size,0,rfl,by omega,fun j u' hu=> ?_⟩⟩;have hB:=Blk.new w T [u,v,x];rw [Nat.zero_add];exact (hB.cell j).trans hu
end Go.Dol
namespace Go.Proofs.YtecpbcmpncgokaaGreat
open Go.RowKit Go.Dol
theorem ZaI:(Tryz.prog.info? 177).map (fun i=>(i.zero,i.size,i.bytes))=some (some (.agg #[.string ⟨#[]⟩,.bool false,.string ⟨#[]⟩]),3,40):=by kernel_rfl
theorem Zcu:(Tryz.prog.info? 9).map (fun i=>(i.zero,i.size,i.bytes))=some (some (.string ⟨#[]⟩),1,16):=by kernel_rfl
theorem Z8V (a b:List Ent):ec (a++b)=ec a++ec b:=by simp [ec]
theorem ZdZ (a b:List BA):pc (a++b)=pc a++pc b:=by simp [pc]
theorem Z9 {w:World} {g g':Nat} {T T':TypeId} {cs cs':List Value} (h:Blk w g T cs) (h':Blk w g' T' cs') (hT:T≠T'):some g≠some g':=fun e=>by
 injection e with e
 subst e;unfold Blk at h h';rw [h] at h';injection h' with h'
 injection h' with _ h'
 exact hT h'
def TreeSt (w:World) (B gx gr g:Nat) (en:List Ent) (l:LU) (b:Bool):Prop:=
 ∃(A:OA) (c:Nat),Blk w gx 217 [.slice A en.length c]∧w.ownsRow B 177 3 (.slice A en.length c) en.length (ec en)∧Blk w gr 222 [.pointer (some ⟨g,0,none⟩)]∧Rs w B g l b∧B≤gx∧B≤gr∧B≤w.heap.size
theorem TreeSt.calm {w w':World} {B gx gr g:Nat} {en:List Ent} {l l':LU} {b b':Bool} (h:TreeSt w B gx gr g en l b) (hR:Rs w' B g l' b') (hg:w.grownBy w' (some g)):TreeSt w' B gx gr g en l' b':=by
 obtain ⟨A,c,h1,h2,h3,h4,h5,h6,h7⟩:=h;obtain ⟨Ar,cr,h8,_⟩:=h4;have n1:=Z9 h1 h8 (by decide);have n2:=Z9 h3 h8 (by decide);exact ⟨A,c,h1.grown hg n1,Zc h2 h8 (by decide) hg,h3.grown hg n2,hR,h5,h6,lT h7 hg.size⟩
def Ze0 (B gx gr g:Nat) (en:List Ent) (l:LU) (b:Bool) (w:World) (e:Ending) (w':World):Prop:=
 ∃(v:Ent) (l':LU) (b':Bool),e= .returned (.tuple #[])∧TreeSt w' B gx gr g (en++[v]) l' b'∧Hid (Took (Z0a l) b v l' b')∧Below B w w'∧l'.length≤l.length
theorem ZaJ (B gx gr g:Nat) (en:List Ent) (l:LU) (b:Bool) (w:World) (h:TreeSt w B gx gr g en l b) (hen:en.length+1≤5000000000000):
  Calls Tryz.prog 231 #[.pointer (some ⟨gx,0,none⟩),.pointer (some ⟨gr,0,none⟩)] w (Ze0 B gx gr g en l b w):=by
 obtain ⟨A,c,hX,hE,hG,hR,hBx,hBr,hBw⟩:=h;obtain ⟨_,hBg⟩:=hR.lt;obtain ⟨Ar,cr,hRb,_⟩:=id hR;have n1:=Z9 hX hRb (by decide);have n2:=Z9 hG hRb (by decide);have z0:w.cell? ⟨gx,0,none⟩=some (.slice A en.length c):=by rw [hX.cell];rfl
 have y0:w.cell? ⟨gr,0,none⟩=some (.pointer (some ⟨g,0,none⟩)):=by rw [hG.cell];rfl
 go_in;go_wp2_with fail;refine Z1t (S:=fun w'=>w'.cell? ⟨gx,0,none⟩=some (.slice A en.length c)∧w'.cell? ⟨gr,0,none⟩=some (.pointer (some ⟨g,0,none⟩))) 13 _ (by kernel_rfl) rfl (by kernel_rfl) rfl rfl ⟨z0,y0⟩ (fun hHeld=> ?_);simp only [List.setIfInBounds_toArray,List.set_cons_zero,List.set_cons_succ,idle,List.getElem_toArray,List.getElem_cons_succ,List.getElem_cons_zero];refine tk 0 (.pointer (some ⟨gx,0,none⟩)) rfl (fun _ _ _ h=>h) (Or.inl ⟨by rfl,fun w' hS=> ?_⟩) hHeld ?_
 ·obtain ⟨s0,s1⟩:=hS
  go_simp
 try simp only [Act.put,sA]
 refine tk 1 (.slice A en.length c) rfl (fun _ _ _ h=>h) (Or.inl ⟨by rfl,fun w' hS=> ?_⟩) hHeld ?_
 ·obtain ⟨s0,s1⟩:=hS
  go_simp
 try simp only [Act.put]
 refine tk 2 (.pointer (some ⟨g,0,none⟩)) rfl (fun _ _ _ h=>h) (Or.inl ⟨by rfl,fun w' hS=> ?_⟩) hHeld ?_
 ·obtain ⟨s0,s1⟩:=hS
  go_simp
 try simp only [Act.put]
 refine tk 4 (.pointer (some ⟨g,0,none⟩)) rfl (fun _ _ _ h=>h) (Or.inl ⟨by rfl,fun w' hS=> ?_⟩) hHeld ?_
 ·obtain ⟨s0,s1⟩:=hS
  go_simp
 try simp only [Act.put]
 refine tk 7 (.pointer (some ⟨g,0,none⟩)) rfl (fun _ _ _ h=>h) (Or.inl ⟨by rfl,fun w' hS=> ?_⟩) hHeld ?_
 ·obtain ⟨s0,s1⟩:=hS
  go_simp
 try simp only [Act.put]
 refine wpAnyH_ready (rs:=[3]) (by kernel_rfl) (by simp) (AllReadyH.cons (o:=_) rfl (fun K hK=> ?_) AllReadyH.nil);go_simp;refine (Z29 B g l b w.drew hR.drew).mono ?_;rintro e w1 ⟨nm,l1,b1,rfl,h1,t1,g1,q1,_⟩;have hE1:=Zc (w:=w.drew) hE hRb.drew (by decide) g1;obtain ⟨Ar1,cr1,hRb1,_⟩:=id h1;have hX1:=hX.drew.grown g1 n1;have hG1:=hG.drew.grown g1 n2;have z1:w1.cell? ⟨gx,0,none⟩=some (.slice A en.length c):=by rw [hX1.cell];rfl
 have y1:w1.cell? ⟨gr,0,none⟩=some (.pointer (some ⟨g,0,none⟩)):=by rw [hG1.cell];rfl
 unfold mkS;refine hK.out _ _ ⟨z1,y1⟩ (fun hHeld=> ?_);clear hK K
 try simp only [Act.put,sA,sB,sC]
 refine wpAnyH_ready (rs:=[5]) (by kernel_rfl) (by simp) (AllReadyH.cons (o:=_) rfl (fun K hK=> ?_) AllReadyH.nil);go_simp;refine (Z0z B g 1 1 rfl l1 b1 w1 h1).mono ?_;rintro e w2 ⟨dd,l2,b2,rfl,h2,t2,g2,q2,_⟩;have hE2:=Zc hE1 hRb1 (by decide) g2;obtain ⟨Ar2,cr2,hRb2,_⟩:=id h2;have hX2:=hX1.grown g2 n1;have hG2:=hG1.grown g2 n2;have z2:w2.cell? ⟨gx,0,none⟩=some (.slice A en.length c):=by rw [hX2.cell];rfl
 have y2:w2.cell? ⟨gr,0,none⟩=some (.pointer (some ⟨g,0,none⟩)):=by rw [hG2.cell];rfl
 unfold mkS;refine hK.out _ _ ⟨z2,y2⟩ (fun hHeld=> ?_);clear hK K
 try simp only [Act.put,sA,sB,sC]
 refine tk 6 (.bool (dd==[1])) rfl (fun _ _ _ h=>h) (Or.inl ⟨by rfl,fun w' hS=> ?_⟩) hHeld ?_
 ·obtain ⟨s0,s1⟩:=hS
  go_simp
 try simp only [Act.put,sA]
 refine wpAnyH_ready (rs:=[8]) (by kernel_rfl) (by simp) (AllReadyH.cons (o:=_) rfl (fun K hK=> ?_) AllReadyH.nil);go_simp;refine (Z0z B g 32 32 rfl l2 b2 w2 h2).mono ?_;rintro e w3 ⟨ii,l3,b3,rfl,h3,t3,g3,q3,_⟩;have hE3:=Zc hE2 hRb2 (by decide) g3;have hX3:=hX2.grown g3 n1;have hG3:=hG2.grown g3 n2;have z3:w3.cell? ⟨gx,0,none⟩=some (.slice A en.length c):=by rw [hX3.cell];rfl
 have y3:w3.cell? ⟨gr,0,none⟩=some (.pointer (some ⟨g,0,none⟩)):=by rw [hG3.cell];rfl
 unfold mkS;refine hK.out _ _ ⟨z3,y3⟩ (fun hHeld=> ?_);clear hK K
 try simp only [Act.put,sA,sB,sC]
 refine tk 9 (.agg #[.string ⟨nm.toArray⟩,.bool (dd==[1]),.string ⟨ii.toArray⟩]) rfl (fun _ _ _ h=>h) (Or.inl ⟨by rfl,fun w' hS=> ?_⟩) hHeld ?_
 ·obtain ⟨s0,s1⟩:=hS
  go_simp
 try simp only [Act.put,sA]
 have hE4:=hE3.alloc (.cells #[.string ⟨nm.toArray⟩,.bool (dd==[1]),.string ⟨ii.toArray⟩] 177);have hr4:=Rd.new3 w3 177 (.string ⟨nm.toArray⟩) (.bool (dd==[1])) (.string ⟨ii.toArray⟩);have h14: ∀u∈[Value.string ⟨nm.toArray⟩,.bool (dd==[1]),.string ⟨ii.toArray⟩],u.oneCell'=true:=by
  intro u hu;simp only [List.mem_cons,List.not_mem_nil,or_false] at hu;rcases hu with rfl | rfl | rfl<;>rfl
 have s1:w.heap.size≤w1.heap.size:=g1.size;have s2:=g2.size;have s3:=g3.size;have hb4:Below w3.heap.size w3 (w3.alloc (.cells #[.string ⟨nm.toArray⟩,.bool (dd==[1]),.string ⟨ii.toArray⟩] 177)):=(bR _ _).alloc (lR _) _;have hBw4:B≤(w3.alloc (.cells #[.string ⟨nm.toArray⟩,.bool (dd==[1]),.string ⟨ii.toArray⟩] 177)).heap.size:=lT (by omega) hb4.size;have h4:=h3.below hb4;have hX4:=hX3.alloc (.cells #[.string ⟨nm.toArray⟩,.bool (dd==[1]),.string ⟨ii.toArray⟩] 177);have hG4:=hG3.alloc (.cells #[.string ⟨nm.toArray⟩,.bool (dd==[1]),.string ⟨ii.toArray⟩] 177);have z4:(w3.alloc (.cells #[.string ⟨nm.toArray⟩,.bool (dd==[1]),.string ⟨ii.toArray⟩] 177)).cell? ⟨gx,0,none⟩=some (.slice A en.length c):=by rw [hX4.cell];rfl
 have n3:some gx≠(Value.slice A en.length c).ownBlock:=fun e=>own_ne hE4 hX4 (by decide) e.symm;have n4:some gr≠(Value.slice A en.length c).ownBlock:=fun e=>own_ne hE4 hG4 (by decide) e.symm;obtain ⟨Ar4,cr4,hRb4,_⟩:=id h4;have n5:some g≠(Value.slice A en.length c).ownBlock:=fun e=>own_ne hE4 hRb4 (by decide) e.symm;have hO4:Other _ B (Value.slice A en.length c).ownBlock:=Other.own hE4 (by decide) (lR _);have y4:(w3.alloc (.cells #[.string ⟨nm.toArray⟩,.bool (dd==[1]),.string ⟨ii.toArray⟩] 177)).cell? ⟨gr,0,none⟩=some (.pointer (some ⟨g,0,none⟩)):=by rw [hG4.cell];rfl
 refine wpAnyH_ready (rs:=[10]) (by kernel_rfl) (by simp) (AllReadyH.cons (o:=_) rfl (fun K hK=> ?_) AllReadyH.nil);go_simp;refine hK.out _ _ ⟨z4,y4⟩ (fun hHeld=> ?_);clear hK K
 try simp only [Act.put,sA,sB,sC]
 refine wpAnyH_ready (rs:=[11]) (by kernel_rfl) (by simp) (AllReadyH.cons (o:=_) rfl (fun K hK=> ?_) AllReadyH.nil);refine Z7Z rfl (.tmp 3) (.tmp 12) 37 177 _ 3 40 rfl Tryz.underlying37 ZaI rfl (by decide) B _ en.length (ec en) rfl hE4 _ _ 1 1 _ rfl hr4 h14 (by unfold maxLen;omega) (by omega) hBw4 ?_;intro A5 c5 w5 hE5 hb5 hg5 _ _;have hX5:=hX4.grown hg5 n3;have hG5:=hG4.grown hg5 n4;have z5:w5.cell? ⟨gx,0,none⟩=some (.slice A en.length c):=by rw [hX5.cell];rfl
 have y5:w5.cell? ⟨gr,0,none⟩=some (.pointer (some ⟨g,0,none⟩)):=by rw [hG5.cell];rfl
 refine hK.out _ _ ⟨z5,y5⟩ (fun hHeld=> ?_);clear hK K
 try simp only [Act.put,sA]
 refine tk 12 (.pointer (some ⟨gx,0,none⟩)) rfl (fun _ _ _ h=>h) (Or.inl ⟨by rfl,fun w' hS=> ?_⟩) hHeld ?_
 ·obtain ⟨s0,s1⟩:=hS
  go_simp
 try simp only [Act.put]
 refine tk 13 (undef) rfl (fun _ _ _ h=>h) (Or.inl ⟨by rfl,fun w' hS=> ?_⟩) hHeld ?_
 ·obtain ⟨s0,s1⟩:=hS
  go_simp
 try simp only [Act.put]
 refine wpAnyH_done (by kernel_rfl) ?_ _;have f5:=hX5.free 0;simp only [Z4c];go_simp;have h5:=h4.keep hg5 n5 hO4;have hX6:=hX5.set 0 (.slice A5 (en.length+1) c5);have hgx:w5.grownBy (w5.setCell ⟨gx,0,none⟩ (.slice A5 (en.length+1) c5)) (some gx):=Z0 (gR w5 _) 0 _;have h6:=h5.keep hgx n1.symm (Other.blk hX5 (by decide) hBx);have hE6:=Zc hE5 hX5 (by decide) hgx;have hG6:=hG5.grown hgx (Z9 hG5 hX5 (by decide));have hbe:Below B w (w5.setCell ⟨gx,0,none⟩ (.slice A5 (en.length+1) c5)):=((bR B w).drew).trans
  ((((Z1 g1 hBg hBw:Below B w.drew w1).trans (Z1 g2 hBg (by omega))).trans (Z1 g3 hBg (by omega))).trans (((hb4.mono (by omega)).trans hb5).trans (Z1 hgx hBx (lT hBw4 hg5.size))))
 have hBw6:=hbe.size;have e1:en.length+1=(en++[(⟨⟨nm.toArray⟩,decide (dd=[1]),⟨ii.toArray⟩⟩:Ent)]).length:=by simp
 have HT:=qI (ZaG t1.out t2.out t3.out);have hec:ec en++[Value.string ⟨nm.toArray⟩,.bool (dd==[1]),.string ⟨ii.toArray⟩]=ec (en++[(⟨⟨nm.toArray⟩,decide (dd=[1]),⟨ii.toArray⟩⟩:Ent)]):=by
  rw [Z8V];have hdd:(dd==[1])=decide (dd=[1]):=by by_cases h:dd=[1]<;>simp [h]
  rw [hdd]
  rfl
 rw [hec] at hE6;obtain ⟨w6,hw6⟩: ∃w6,w6=w5.setCell ⟨gx,0,none⟩ (.slice A5 (en.length+1) c5):=⟨_,rfl⟩;rw [←hw6] at hX6 hE6 hG6 h6 hbe hBw6 ⊢;rw [e1] at hX6 hE6;go_end0;exact ⟨_,l3,b3,rfl,⟨A5,c5,hX6,hE6,hG6,h6,hBx,hBr,lT hBw hBw6⟩,HT,hbe,by omega⟩
def ComSt (w:World) (B gx gr g:Nat) (tr wh:BA) (st:Int) (te:BA) (pa:List BA) (l:LU) (b:Bool):Prop:=
 ∃(A:OA) (c:Nat),Blk w gx 219 [.string tr,.slice A pa.length c,.string wh,.int .i64 st,.string te]∧w.ownsRow B 9 1 (.slice A pa.length c) pa.length (pc pa)∧Blk w gr 222 [.pointer (some ⟨g,0,none⟩)]∧Rs w B g l b∧B≤gx∧B≤gr∧B≤w.heap.size
theorem ComSt.calm {w w':World} {B gx gr g:Nat} {tr wh:BA} {st:Int} {te:BA} {pa:List BA} {l l':LU} {b b':Bool} (h:ComSt w B gx gr g tr wh st te pa l b) (hR:Rs w' B g l' b') (hg:w.grownBy w' (some g)):ComSt w' B gx gr g tr wh st te pa l' b':=by
 obtain ⟨A,c,h1,h2,h3,h4,h5,h6,h7⟩:=h;obtain ⟨Ar,cr,h8,_⟩:=h4;exact ⟨A,c,h1.grown hg (Z9 h1 h8 (by decide)),Zc h2 h8 (by decide) hg,h3.grown hg (Z9 h3 h8 (by decide)),hR,h5,h6,lT h7 hg.size⟩
def Zd0 (B gx gr g:Nat) (tr wh:BA) (st:Int) (te:BA) (pa:List BA) (l:LU) (b:Bool) (w:World) (e:Ending) (w':World):Prop:=
 ∃(v:BA) (l':LU) (b':Bool),e= .returned (.tuple #[])∧ComSt w' B gx gr g tr wh st te (pa++[v]) l' b'∧Hid (Took (Z0s l) b v l' b')∧Below B w w'∧l'.length≤l.length∧v.size≤32
theorem ZaK {l l':LU} {b b':Bool} {v:LU} (h:Took (ZS 32 l) b v l' b'):Took (Z0s l) b (⟨v.toArray⟩:BA) l' b':=by
 rcases h with ⟨e,h⟩ | ⟨e,e0,h⟩
 ·refine .inl ⟨e,?_⟩
  rcases h with h | h
  ·exact .inl h
  ·exact .inr (by unfold Z0s;rw [h])
 ·exact .inr ⟨e,e0,by unfold Z0s;rw [h]⟩
theorem Z9z (B gx gr g:Nat) (tr wh:BA) (st:Int) (te:BA) (pa:List BA) (l:LU) (b:Bool) (w:World) (h:ComSt w B gx gr g tr wh st te pa l b) (hpa:pa.length+1≤8000000000000):
  Calls Tryz.prog 233 #[.pointer (some ⟨gx,0,none⟩),.pointer (some ⟨gr,0,none⟩)] w (Zd0 B gx gr g tr wh st te pa l b w):=by
 obtain ⟨A,c,hX,hE,hG,hR,hBx,hBr,hBw⟩:=h;obtain ⟨_,hBg⟩:=hR.lt;obtain ⟨Ar,cr,hRb,_⟩:=id hR;have n1:=Z9 hX hRb (by decide);have n2:=Z9 hG hRb (by decide);have z0:w.cell? ⟨gx,1,none⟩=some (.slice A pa.length c):=by rw [hX.cell];rfl
 have y0:w.cell? ⟨gr,0,none⟩=some (.pointer (some ⟨g,0,none⟩)):=by rw [hG.cell];rfl
 go_in;go_wp2_with fail;refine Z1t (S:=fun w'=>w'.cell? ⟨gx,1,none⟩=some (.slice A pa.length c)∧w'.cell? ⟨gr,0,none⟩=some (.pointer (some ⟨g,0,none⟩))) 7 _ (by kernel_rfl) rfl (by kernel_rfl) rfl rfl ⟨z0,y0⟩ (fun hHeld=> ?_);simp only [List.setIfInBounds_toArray,List.set_cons_zero,List.set_cons_succ,idle,List.getElem_toArray,List.getElem_cons_succ,List.getElem_cons_zero];refine tk 0 (.pointer (some ⟨gx,1,none⟩)) rfl (fun _ _ _ h=>h) (Or.inl ⟨by rfl,fun w' hS=> ?_⟩) hHeld ?_
 ·obtain ⟨s0,s1⟩:=hS
  go_simp
 try simp only [Act.put,sA]
 refine tk 1 (.slice A pa.length c) rfl (fun _ _ _ h=>h) (Or.inl ⟨by rfl,fun w' hS=> ?_⟩) hHeld ?_
 ·obtain ⟨s0,s1⟩:=hS
  go_simp
 try simp only [Act.put]
 refine tk 2 (.pointer (some ⟨g,0,none⟩)) rfl (fun _ _ _ h=>h) (Or.inl ⟨by rfl,fun w' hS=> ?_⟩) hHeld ?_
 ·obtain ⟨s0,s1⟩:=hS
  go_simp
 try simp only [Act.put]
 refine wpAnyH_ready (rs:=[3]) (by kernel_rfl) (by simp) (AllReadyH.cons (o:=_) rfl (fun K hK=> ?_) AllReadyH.nil);go_simp;refine (Z0z B g 32 32 rfl l b w.drew hR.drew).mono ?_;rintro e w1 ⟨ii,l1,b1,rfl,h1,t1,g1,q1,hi32⟩;have hE1:=Zc (w:=w.drew) hE hRb.drew (by decide) g1;have hX1:=hX.drew.grown g1 n1;have hG1:=hG.drew.grown g1 n2;have z1:w1.cell? ⟨gx,1,none⟩=some (.slice A pa.length c):=by rw [hX1.cell];rfl
 have y1:w1.cell? ⟨gr,0,none⟩=some (.pointer (some ⟨g,0,none⟩)):=by rw [hG1.cell];rfl
 unfold mkS;refine hK.out _ _ ⟨z1,y1⟩ (fun hHeld=> ?_);clear hK K
 try simp only [Act.put,sA,sB,sC]
 have hE4:=hE1.alloc (.cells #[.string ⟨ii.toArray⟩] 9);have hr4:=Rd.new1 w1 9 (.string ⟨ii.toArray⟩);have h14: ∀u∈[Value.string ⟨ii.toArray⟩],u.oneCell'=true:=by
  intro u hu;obtain rfl:=List.mem_singleton.1 hu
  rfl
 have s1:w.heap.size≤w1.heap.size:=g1.size;have hb4:Below w1.heap.size w1 (w1.alloc (.cells #[.string ⟨ii.toArray⟩] 9)):=(bR _ _).alloc (lR _) _;have hBw4:B≤(w1.alloc (.cells #[.string ⟨ii.toArray⟩] 9)).heap.size:=lT (by omega) hb4.size;have h4:=h1.below hb4;have hX4:=hX1.alloc (.cells #[.string ⟨ii.toArray⟩] 9);have hG4:=hG1.alloc (.cells #[.string ⟨ii.toArray⟩] 9);have z4:(w1.alloc (.cells #[.string ⟨ii.toArray⟩] 9)).cell? ⟨gx,1,none⟩=some (.slice A pa.length c):=by rw [hX4.cell];rfl
 have n3:some gx≠(Value.slice A pa.length c).ownBlock:=fun e=>own_ne hE4 hX4 (by decide) e.symm;have n4:some gr≠(Value.slice A pa.length c).ownBlock:=fun e=>own_ne hE4 hG4 (by decide) e.symm;obtain ⟨Ar4,cr4,hRb4,_⟩:=id h4;have n5:some g≠(Value.slice A pa.length c).ownBlock:=fun e=>own_ne hE4 hRb4 (by decide) e.symm;have hO4:Other _ B (Value.slice A pa.length c).ownBlock:=Other.own hE4 (by decide) (lR _);have y4:(w1.alloc (.cells #[.string ⟨ii.toArray⟩] 9)).cell? ⟨gr,0,none⟩=some (.pointer (some ⟨g,0,none⟩)):=by rw [hG4.cell];rfl
 refine wpAnyH_ready (rs:=[4]) (by kernel_rfl) (by simp) (AllReadyH.cons (o:=_) rfl (fun K hK=> ?_) AllReadyH.nil);go_simp;refine hK.out _ _ ⟨z4,y4⟩ (fun hHeld=> ?_);clear hK K
 try simp only [Act.put,sA,sB,sC]
 refine wpAnyH_ready (rs:=[5]) (by kernel_rfl) (by simp) (AllReadyH.cons (o:=_) rfl (fun K hK=> ?_) AllReadyH.nil);refine Z7Z rfl (.tmp 3) (.tmp 6) 38 9 _ 1 16 rfl Tryz.underlying38 Zcu rfl (by decide) B _ pa.length (pc pa) rfl hE4 _ _ 1 1 _ rfl hr4 h14 (by unfold maxLen;omega) (by omega) hBw4 ?_;intro A5 c5 w5 hE5 hb5 hg5 _ _;have hX5:=hX4.grown hg5 n3;have hG5:=hG4.grown hg5 n4;have z5:w5.cell? ⟨gx,1,none⟩=some (.slice A pa.length c):=by rw [hX5.cell];rfl
 have y5:w5.cell? ⟨gr,0,none⟩=some (.pointer (some ⟨g,0,none⟩)):=by rw [hG5.cell];rfl
 refine hK.out _ _ ⟨z5,y5⟩ (fun hHeld=> ?_);clear hK K
 try simp only [Act.put,sA]
 refine tk 6 (.pointer (some ⟨gx,1,none⟩)) rfl (fun _ _ _ h=>h) (Or.inl ⟨by rfl,fun w' hS=> ?_⟩) hHeld ?_
 ·obtain ⟨s0,s1⟩:=hS
  go_simp
 try simp only [Act.put]
 refine tk 7 (undef) rfl (fun _ _ _ h=>h) (Or.inl ⟨by rfl,fun w' hS=> ?_⟩) hHeld ?_
 ·obtain ⟨s0,s1⟩:=hS
  go_simp
 try simp only [Act.put]
 refine wpAnyH_done (by kernel_rfl) ?_ _;have f5:=hX5.free 1;simp only [Z4c];go_simp;have h5:=h4.keep hg5 n5 hO4;have hX6:=hX5.set 1 (.slice A5 (pa.length+1) c5);have hgx:w5.grownBy (w5.setCell ⟨gx,1,none⟩ (.slice A5 (pa.length+1) c5)) (some gx):=Z0 (gR w5 _) 1 _;have h6:=h5.keep hgx n1.symm (Other.blk hX5 (by decide) hBx);have hE6:=Zc hE5 hX5 (by decide) hgx;have hG6:=hG5.grown hgx (Z9 hG5 hX5 (by decide));have hbe:Below B w (w5.setCell ⟨gx,1,none⟩ (.slice A5 (pa.length+1) c5)):=((bR B w).drew).trans
  ((Z1 g1 hBg hBw:Below B w.drew w1).trans (((hb4.mono (by omega)).trans hb5).trans (Z1 hgx hBx (lT hBw4 hg5.size))))
 have hBw6:=hbe.size;have e1:pa.length+1=(pa++[(⟨ii.toArray⟩:BA)]).length:=by simp
 have HT:=qI (ZaK t1.out);have hec:pc pa++[Value.string ⟨ii.toArray⟩]=pc (pa++[(⟨ii.toArray⟩:BA)]):=by
  rw [ZdZ]
  rfl
 rw [hec] at hE6;obtain ⟨w6,hw6⟩: ∃w6,w6=w5.setCell ⟨gx,1,none⟩ (.slice A5 (pa.length+1) c5):=⟨_,rfl⟩;rw [←hw6] at hX6 hE6 hG6 h6 hbe hBw6 ⊢;rw [e1] at hX6 hE6;go_end0;exact ⟨_,l1,b1,rfl,⟨A5,c5,hX6,hE6,hG6,h6,hBx,hBr,lT hBw hBw6⟩,HT,hbe,q1,hi32⟩
theorem Z5s {l r:LU} {e:Ent} (h:Z0a l=some (e,r)):r.length+33≤l.length:=by
 unfold Z0a at h;split at h
 ·cases h
 ·rename_i nm r1 h1
  split at h
  ·cases h
  ·rename_i d r2 h2
   split at h
   ·cases h
   ·rename_i i r3 h3
    injection h with h
    injection h with _ h
    subst h;have a1:=(Z52 h1).1;have a2:=(Z51 h2).2;have a3:=(Z51 h3).2;omega
theorem Z5t {l r:LU} {e:BA} (h:Z0s l=some (e,r)):r.length+32≤l.length:=by
 unfold Z0s at h;split at h
 ·cases h
 ·rename_i p r1 h1
  injection h with h
  injection h with _ h
  subst h;have a1:=(Z51 h1).2;omega
def Ze1 (B gx gr g N:Nat) (l0:LU) (b0:Bool) (L:Nat) (w:World) (i:Value) (wr:World):Prop:=
 ∃(n:Nat) (v:List Ent) (l:LU) (b:Bool),i= .int .i64 n∧TreeSt wr B gx gr g v l b∧Hid (Sofar Z0a N l0 b0 v n l b)∧Below B w wr∧n≤4611686018427387903∧v.length≤L+1∧(b=false→v.length*32+l.length≤L)∧Hid (∀p∈v,True)
def Zff (B gx gr g:Nat) (tr wh:BA) (st:Int) (te:BA) (N:Nat) (l0:LU) (b0:Bool) (L:Nat) (w:World) (i:Value) (wr:World):Prop:=
 ∃(n:Nat) (v:List BA) (l:LU) (b:Bool),i= .int .i64 n∧ComSt wr B gx gr g tr wh st te v l b∧Hid (Sofar Z0s N l0 b0 v n l b)∧Below B w wr∧n≤4611686018427387903∧v.length≤L+1∧(b=false→v.length*32+l.length≤L)∧Hid (∀p∈v,p.size≤32)
theorem Z7s (B gx gr g:Nat) (l:LU) (b:Bool) (w:World) (h:TreeSt w B gx gr g [] l b) (hl:l.length≤140737488351232):
  Calls Tryz.prog 230 #[.pointer (some ⟨g,0,none⟩),.func (.func 231) #[] #[.pointer (some ⟨gx,0,none⟩),.pointer (some ⟨gr,0,none⟩)]] w fun e w'=>
   ∃(v:List Ent) (l':LU) (b':Bool),e= .returned (.tuple #[])∧TreeSt w' B gx gr g v l' b'∧Hid (Took (Z3R Z0a l) b v l' b')∧Below B w w'∧v.length≤l.length+1∧Hid (∀p∈v,True):=by
 obtain ⟨A,c,hX,hE,hG,hR,hBx,hBr,hBw⟩:=id h;obtain ⟨_,hBg⟩:=hR.lt;go_in;go_wp2_with fail;refine (Z3T B g l b w hR).mono ?_;rintro e w1 ⟨N,l1,b1,rfl,h1,t1,g1,q1,hN⟩;unfold mkN;have hs1:=h.calm h1 g1;have hb1:Below B w w1:=Z1 g1 hBg hBw;clear h hX hE hG hR h1 g1;go_wp2_with fail;go_loopw [4] (fun i wr=>Ze1 B gx gr g N l1 b1 l.length w i wr) (fun i _=>(intOf i).toNat)
 case atStart=>exact ⟨N,[],l1,b1,rfl,hs1,qI (Sofar.start _ _ _ _),hb1,hN,by simp,fun _=>by simp;omega,qI (by simp)⟩
 case round=>
  clear hs1 hb1;obtain ⟨n,v,l2,b2,rfl,hs,hT,hb,hn,hv1,hv2,hv3⟩:=hrel;obtain ⟨A2,c2,hX2,hE2,hG2,hR2,_,_,hBw2⟩:=id hs;obtain ⟨Ar,cr,hRb,_⟩:=id hR2;have z1:wr.cell? ⟨g,1,none⟩=some (.int .i64 (errB b2)):=by rw [hRb.cell];rfl
  clear hX2 hE2 hG2 hR2 hRb
  by_cases h0:0<n
  ·have d0:decide ((n:Int)>0)=true:=dT (by omega)
   have d0':decide ((0:Int)<(n:Int))=true:=dT (by omega)
   cases b2 with
   | true=>
    have z2:wr.cell? ⟨g,1,none⟩=some (.int .i64 2):=z1;clear z1;go_wp2_with fail;go_end0;exact ⟨v,l2,true,rfl,hs,qI (Z1h t1.out (hT.out.done (.inr rfl))),hb,hv1,hv3⟩
   | false=>
    have z2:wr.cell? ⟨g,1,none⟩=some (.int .i64 0):=z1;clear z1;have f1:IntKind.i64.wrap ((n:Int)-1)=(n:Int)-1:=qJ _ (by omega);have hv2':=hv2 rfl;go_wp2_with ((go_at_call 231;refine (ZaJ B gx gr g v l2 false _ hs (by omega)).mono ?_;rintro e w3 ⟨x,l3,b3,rfl,hs3,t3,hb3,q3⟩));have hm:n=(n-1)+1:=by omega
    have hT2:=hT.out;rw [hm] at hT2;refine ⟨⟨n-1,v++[x],l3,b3,by go_num,hs3,qI (hT2.step t3.out),hb.trans hb3,by omega,by simp;omega,fun hb0=> ?_,qI ?_⟩,by simp [intOf];omega⟩
    ·have h3:=Z5s (t3.out.good hb0).2
     simp only [List.length_append,List.length_singleton];omega
    ·intro p hp
     rcases List.mem_append.1 hp with hp | hp
     ·exact hv3.out p hp
     ·obtain rfl:=List.mem_singleton.1 hp
      trivial
  ·have d0:decide ((n:Int)>0)=false:=qF (by omega)
   have d0':decide ((0:Int)<(n:Int))=false:=qF (by omega);go_wp2_with fail;go_end0;exact ⟨v,l2,b2,rfl,hs,qI (Z1h t1.out (hT.out.done (.inl (by omega)))),hb,hv1,hv3⟩
theorem Z8e (B gx gr g:Nat) (tr wh:BA) (st:Int) (te:BA) (l:LU) (b:Bool) (w:World) (h:ComSt w B gx gr g tr wh st te [] l b) (hl:l.length≤140737488351232):
  Calls Tryz.prog 230 #[.pointer (some ⟨g,0,none⟩),.func (.func 233) #[] #[.pointer (some ⟨gx,0,none⟩),.pointer (some ⟨gr,0,none⟩)]] w fun e w'=>
   ∃(v:List BA) (l':LU) (b':Bool),e= .returned (.tuple #[])∧ComSt w' B gx gr g tr wh st te v l' b'∧Hid (Took (Z3R Z0s l) b v l' b')∧Below B w w'∧v.length≤l.length+1∧Hid (∀p∈v,p.size≤32):=by
 obtain ⟨A,c,hX,hE,hG,hR,hBx,hBr,hBw⟩:=id h;obtain ⟨_,hBg⟩:=hR.lt;go_in;go_wp2_with fail;refine (Z3T B g l b w hR).mono ?_;rintro e w1 ⟨N,l1,b1,rfl,h1,t1,g1,q1,hN⟩;unfold mkN;have hs1:=h.calm h1 g1;have hb1:Below B w w1:=Z1 g1 hBg hBw;clear h hX hE hG hR h1 g1;go_wp2_with fail;go_loopw [4] (fun i wr=>Zff B gx gr g tr wh st te N l1 b1 l.length w i wr) (fun i _=>(intOf i).toNat)
 case atStart=>exact ⟨N,[],l1,b1,rfl,hs1,qI (Sofar.start _ _ _ _),hb1,hN,by simp,fun _=>by simp;omega,qI (by simp)⟩
 case round=>
  clear hs1 hb1;obtain ⟨n,v,l2,b2,rfl,hs,hT,hb,hn,hv1,hv2,hv3⟩:=hrel;obtain ⟨A2,c2,hX2,hE2,hG2,hR2,_,_,hBw2⟩:=id hs;obtain ⟨Ar,cr,hRb,_⟩:=id hR2;have z1:wr.cell? ⟨g,1,none⟩=some (.int .i64 (errB b2)):=by rw [hRb.cell];rfl
  clear hX2 hE2 hG2 hR2 hRb
  by_cases h0:0<n
  ·have d0:decide ((n:Int)>0)=true:=dT (by omega)
   have d0':decide ((0:Int)<(n:Int))=true:=dT (by omega)
   cases b2 with
   | true=>
    have z2:wr.cell? ⟨g,1,none⟩=some (.int .i64 2):=z1;clear z1;go_wp2_with fail;go_end0;exact ⟨v,l2,true,rfl,hs,qI (Z1h t1.out (hT.out.done (.inr rfl))),hb,hv1,hv3⟩
   | false=>
    have z2:wr.cell? ⟨g,1,none⟩=some (.int .i64 0):=z1;clear z1;have f1:IntKind.i64.wrap ((n:Int)-1)=(n:Int)-1:=qJ _ (by omega);have hv2':=hv2 rfl;go_wp2_with ((go_at_call 233;refine (Z9z B gx gr g tr wh st te v l2 false _ hs (by omega)).mono ?_;rintro e w3 ⟨x,l3,b3,rfl,hs3,t3,hb3,q3,q4⟩));have hm:n=(n-1)+1:=by omega
    have hT2:=hT.out;rw [hm] at hT2;refine ⟨⟨n-1,v++[x],l3,b3,by go_num,hs3,qI (hT2.step t3.out),hb.trans hb3,by omega,by simp;omega,fun hb0=> ?_,qI ?_⟩,by simp [intOf];omega⟩
    ·have h3:=Z5t (t3.out.good hb0).2
     simp only [List.length_append,List.length_singleton];omega
    ·intro p hp
     rcases List.mem_append.1 hp with hp | hp
     ·exact hv3.out p hp
     ·obtain rfl:=List.mem_singleton.1 hp
      exact q4
  ·have d0:decide ((n:Int)>0)=false:=qF (by omega)
   have d0':decide ((0:Int)<(n:Int))=false:=qF (by omega);go_wp2_with fail;go_end0;exact ⟨v,l2,b2,rfl,hs,qI (Z1h t1.out (hT.out.done (.inl (by omega)))),hb,hv1,hv3⟩
end Go.Proofs.YtecpbcmpncgokaaGreat
namespace Go.Dol
open Go.RowKit
def RdN (w:World) (base size:Nat) (A:OA) (n:Nat) (xs:List Value):Prop:=Rd w w.heap.size size A n xs∧(0<n→ ∀k,Zl A=some k→base≤k)
theorem RdN.own {w:World} {base size:Nat} {e:TypeId} {A:OA} {n c:Nat} {xs:List Value} (h:w.ownsRow base e size (.slice A n c) n xs):RdN w base size A n xs:=by
 refine ⟨Rd.of_own h,fun hn k hk=> ?_⟩;rcases h.2 with ⟨h1,_⟩ | ⟨g,cap,cur,h1,h2,_⟩
 ·injection h1 with _ h1
  omega
 ·injection h1 with hA _ _
  rw [hA] at hk;injection hk with hk
  have e2:g=k:=hk;omega
theorem RdN.nil {w:World} {base size:Nat} {A:OA}:RdN w base size A 0 []:=⟨Rd.nil,fun h=>absurd h (by decide)⟩
theorem RdN.below {w w':World} {base size:Nat} {A:OA} {n:Nat} {xs:List Value} (h:RdN w base size A n xs) (hb:Below w.heap.size w w'):RdN w' base size A n xs:=⟨(h.1.below hb).more hb.size,h.2⟩
theorem RdN.lower {w:World} {base base' size:Nat} {A:OA} {n:Nat} {xs:List Value} (h:RdN w base size A n xs) (hb:base'≤base):RdN w base' size A n xs:=⟨h.1,fun hn k hk=>lT hb (h.2 hn k hk)⟩
theorem RdN.apart {w w':World} {base size k:Nat} {A:OA} {n:Nat} {xs:List Value} (h:RdN w base size A n xs) (hg:w.grownBy w' (some k)) (hk:k<base):RdN w' base size A n xs:=by
 refine ⟨⟨h.1.len,fun hn=> ?_⟩,h.2⟩;obtain ⟨b,off,e,hb,hc⟩:=h.1.at_ hn;have h2:=h.2 hn b (by rw [e];rfl);exact ⟨b,off,e,Nat.lt_of_lt_of_le hb hg.size,fun j u hu=>(World.cell?_of_block (hg.block b hb (fun e2=>by injection e2 with e2;omega))).trans (hc j u hu)⟩
end Go.Dol
namespace Go.Proofs.YtecpbcmpncgokaaGreat
open Go.RowKit Go.Dol
theorem mkf (fn:Fn) (first cap:Array Value) (w:World):(Instr.makeFunc fn first cap).run Tryz.prog w= .ok (.func fn first cap) w:=rfl
theorem Zfg (v:LU) (w:World) (hl:v.length≤140737488355328): ∃A c w',(convert 9 36 (.string ⟨v.toArray⟩)).run Tryz.prog w= .ok (.slice A v.length c) w'∧RdN w' w.heap.size 1 A v.length (bc v)∧Below w.heap.size w w'∧v.length≤c∧c≤maxLen:=by
 have hs:(⟨v.toArray⟩:BA).size=v.length:=by simp [ByteArray.size]
 obtain ⟨A,c,w',h1,h2,h3,h4,h5⟩:=Z6w (P:=Tryz.prog) w 9 36 5 ⟨v.toArray⟩ Tryz.underlying9 Tryz.underlying36 Tryz.underlying5 (by rw [hs];exact hl);rw [hs] at h1 h2 h4;refine ⟨A,c,w',h1,⟨h2,fun hn k hk=> ?_⟩,h3,h4,h5⟩;have h6:=run_bytes_of_string (P:=Tryz.prog) w 9 36 5 ⟨v.toArray⟩ Tryz.underlying9 Tryz.underlying36 Tryz.underlying5;rw [h1] at h6;injection h6 with h6 _
 injection h6 with h6 _ _
 rw [h6] at hk;injection hk with hk
 have e2:w.heap.size=k:=hk;omega
def Z6T (p:Option Go.Dol.Obj) (B g:Nat) (w:World) (mk:Go.Dol.Obj→Value→Value→Value→Value) (nm:Go.Dol.Obj→Go.Dol.Obj) (e:Ending) (w':World):Prop:=
 ∃(o:Go.Dol.Obj) (Ad:OA) (cd:Nat) (Ae:OA) (ce:Nat) (Ap:OA) (cp:Nat) (l':LU) (b':Bool),e= .returned (mk o (.slice Ad o.data.length cd) (.slice Ae o.ents.length ce) (.slice Ap o.pars.length cp))∧
  RdN w' B 1 Ad o.data.length (bc o.data)∧RdN w' B 3 Ae o.ents.length (ec o.ents)∧RdN w' B 1 Ap o.pars.length (pc o.pars)∧Rs w' B g l' b'∧Hid (Z10 p o b'∧o=nm o)∧Below B w w'∧o.ents.length≤140737488351233∧o.pars.length≤140737488351233∧Hid (∀q∈o.pars,q.size≤maxLen)
theorem ZaL (B g:Nat) (l:LU) (w:World) (h:Rs w B g l false) (hBw:B≤w.heap.size) (hl:l.length≤140737488351232):
  Calls Tryz.prog 160 #[.pointer (some ⟨g,0,none⟩),.int .i64 1] w (Z6T (ZN 1 l) B g w (fun o vd ve vp=> .iface 215 (.agg #[vd])) fun o=>{ Obj.zero with kind:=1,data:=o.data }):=by
 obtain ⟨hgl,hBg⟩:=h.lt;have hb0:Below w.heap.size w (w.alloc (.cells #[.pointer (some ⟨g,0,none⟩)] 222)):=(bR _ _).alloc (lR _) _;have h0:=h.below hb0;obtain ⟨A,c,hRb,hF,hc,hcm,_⟩:=id h;have hG:=Blk.new w 222 [.pointer (some ⟨g,0,none⟩)];have n2:=Z9 hG (hRb.below hb0 hRb.lt) (by decide);have y0:(w.alloc (.cells #[.pointer (some ⟨g,0,none⟩)] 222)).cell? ⟨w.heap.size,0,none⟩=some (.pointer (some ⟨g,0,none⟩)):=by rw [hG.cell];rfl
 have r0:w.cell? ⟨g,0,none⟩=some (.slice A l.length c):=by rw [hRb.cell];rfl
 go_in;go_wp2_with fail;refine wp_region_held_drew (S:=fun w'=>w'.cell? ⟨w.heap.size,0,none⟩=some (.pointer (some ⟨g,0,none⟩))) (by kernel_rfl) y0 (fun hHeld=> ?_);refine tk 0 (.pointer (some ⟨g,0,none⟩)) rfl (fun _ _ _ h=>h) (Or.inl ⟨by rfl,fun w' hS=> ?_⟩) hHeld ?_
 ·obtain s0:=hS
  go_simp
 try simp only [Act.put,sA]
 refine tk 1 (.pointer (some ⟨g,0,none⟩)) rfl (fun _ _ _ h=>h) (Or.inl ⟨by rfl,fun w' hS=> ?_⟩) hHeld ?_
 ·obtain s0:=hS
  go_simp
 try simp only [Act.put]
 refine tk 2 (.pointer (some ⟨g,0,none⟩)) rfl (fun _ _ _ h=>h) (Or.inl ⟨by rfl,fun w' hS=> ?_⟩) hHeld ?_
 ·obtain s0:=hS
  go_simp
 try simp only [Act.put]
 refine tk 3 (.pointer (some ⟨g,0,none⟩)) rfl (fun _ _ _ h=>h) (Or.inl ⟨by rfl,fun w' hS=> ?_⟩) hHeld ?_
 ·obtain s0:=hS
  go_simp
 try simp only [Act.put]
 refine wpAnyH_ready (rs:=[4]) (by kernel_rfl) (by simp) (AllReadyH.cons (o:=_) rfl (fun K hK=> ?_) AllReadyH.nil);go_simp;refine hK.out _ _ y0 (fun hHeld=> ?_);clear hK K
 try simp only [Act.put,sA,sB,sC]
 refine tk 5 (.int .i64 l.length) rfl (fun _ _ _ h=>h) (Or.inl ⟨by rfl,fun w' hS=> ?_⟩) hHeld ?_
 ·obtain s0:=hS
  go_simp
 try simp only [Act.put,sA]
 refine wpAnyH_ready (rs:=[6]) (by kernel_rfl) (by simp) (AllReadyH.cons (o:=_) rfl (fun K hK=> ?_) AllReadyH.nil);go_simp;refine (Z0z B g l.length _ rfl l false (w.alloc (.cells #[.pointer (some ⟨g,0,none⟩)] 222)).drew h0.drew).mono ?_;rintro e w1 ⟨v,l1,b1,rfl,h1,t1,g1,q1,hv⟩;have hG1:=hG.drew.grown g1 n2;have y1:w1.cell? ⟨w.heap.size,0,none⟩=some (.pointer (some ⟨g,0,none⟩)):=by rw [hG1.cell];rfl
 unfold mkS;refine hK.out _ _ y1 (fun hHeld=> ?_);clear hK K
 try simp only [Act.put,sA,sB,sC]
 obtain ⟨Ad,cd,w2,hcv,hRd,hb2,_,_⟩:=Zfg v w1 (by omega);have y2:w2.cell? ⟨w.heap.size,0,none⟩=some (.pointer (some ⟨g,0,none⟩)):=(hb2.cell (p:=⟨w.heap.size,0,none⟩) hG1.lt).trans y1;refine wpAnyH_ready (rs:=[7]) (by kernel_rfl) (by simp) (AllReadyH.cons (o:=_) rfl (fun K hK=> ?_) AllReadyH.nil);go_simp;refine hK.out _ _ y2 (fun hHeld=> ?_);clear hK K
 try simp only [Act.put,sA,sB,sC]
 refine tk 8 (.agg #[.slice Ad v.length cd]) rfl (fun _ _ _ h=>h) (Or.inl ⟨by rfl,fun w' hS=> ?_⟩) hHeld ?_
 ·obtain s0:=hS
  go_simp
 try simp only [Act.put,sA]
 refine tk 9 (.iface 215 (.agg #[.slice Ad v.length cd])) rfl (fun _ _ _ h=>h) (Or.inl ⟨by rfl,fun w' hS=> ?_⟩) hHeld ?_
 ·obtain s0:=hS
  go_simp
 try simp only [Act.put]
 refine tk 10 (.iface 215 (.agg #[.slice Ad v.length cd])) rfl (fun _ _ _ h=>h) (Or.inl ⟨by rfl,fun w' hS=> ?_⟩) hHeld ?_
 ·obtain s0:=hS
  go_simp
 try simp only [Act.put]
 refine wpAnyH_done (by kernel_rfl) ?_ _;have hT:=t1.out;have htb:ZS l.length l=some (l,[]):=by
  unfold ZS;rw [if_neg (by omega),List.take_length,List.drop_length]
 rw [htb] at hT;have hP:Hid (Z10 (ZN 1 l) { Obj.zero with kind:=1,data:=v } b1):=by
  rcases hT with ⟨_,h | h⟩ | ⟨h1,_,h2⟩
  ·cases h
  ·cases h
  ·injection h2 with h2
   injection h2 with h2 _
   exact .inr ⟨h1,by rw [Zcn,h2]⟩
 have s1:(w.alloc (.cells #[.pointer (some ⟨g,0,none⟩)] 222)).heap.size≤w1.heap.size:=g1.size;have s0:=hb0.size;have hbe:Below B w w2:=(hb0.mono hBw).trans ((((bR B (w.alloc (.cells #[.pointer (some ⟨g,0,none⟩)] 222))).drew).trans (Z1 g1 hBg (lT hBw s0):Below B (w.alloc (.cells #[.pointer (some ⟨g,0,none⟩)] 222)).drew w1)).trans (hb2.mono (by omega)));clear hcv hT htb;go_wp2_with fail;go_ret;exact ⟨{ Obj.zero with kind:=1,data:=v },Ad,cd,none,0,none,0,l1,b1,rfl,hRd.lower (by omega),RdN.nil,RdN.nil,h1.below hb2,qI ⟨hP.out,rfl⟩,hbe,by simp [Obj.zero],by simp [Obj.zero],qI (by simp [Obj.zero])⟩
theorem ZaM (B g:Nat) (l:LU) (w:World) (h:Rs w B g l false) (hBw:B≤w.heap.size) (hl:l.length≤140737488351232):
  Calls Tryz.prog 160 #[.pointer (some ⟨g,0,none⟩),.int .i64 2] w (Z6T (ZN 2 l) B g w (fun o vd ve vp=> .iface 217 (.agg #[ve])) fun o=>{ Obj.zero with kind:=2,ents:=o.ents }):=by
 obtain ⟨hgl,hBg⟩:=h.lt;have hb0:Below w.heap.size w (w.alloc (.cells #[.pointer (some ⟨g,0,none⟩)] 222)):=(bR _ _).alloc (lR _) _;have h0:=h.below hb0;obtain ⟨A,c,hRb,hF,hc,hcm,_⟩:=id h;have hG:=Blk.new w 222 [.pointer (some ⟨g,0,none⟩)];have n2:=Z9 hG (hRb.below hb0 hRb.lt) (by decide);have s0:(w.alloc (.cells #[.pointer (some ⟨g,0,none⟩)] 222)).heap.size=w.heap.size+1:=by simp
 have hmf:=mkf;have hb1:Below w.heap.size w ((w.alloc (.cells #[.pointer (some ⟨g,0,none⟩)] 222)).alloc (.cells #[.slice none 0 0] 217)):=hb0.alloc hb0.size _;have h1:=h.below hb1;have hG1:=hG.alloc (.cells #[.slice none 0 0] 217);have hX1:=Blk.new (w.alloc (.cells #[.pointer (some ⟨g,0,none⟩)] 222)) 217 [.slice none 0 0];rw [s0] at hX1;have hst:TreeSt ((w.alloc (.cells #[.pointer (some ⟨g,0,none⟩)] 222)).alloc (.cells #[.slice none 0 0] 217)) B (w.heap.size+1) w.heap.size g [] l false:=⟨none,0,hX1,World.ownsRow_nil _ _ _ _,hG1,h1,by omega,hBw,lT hBw hb1.size⟩;go_in;go_wp2_with fail;refine (Z7s B (w.heap.size+1) w.heap.size g l false _ hst hl).mono ?_;rintro e w3 ⟨v,l3,b3,rfl,hs3,t3,hb3,hv,_⟩;obtain ⟨A3,c3,hX3,hE3,hG3,hR3,_,_,_⟩:=id hs3;have z3:w3.cell? ⟨w.heap.size+1,0,none⟩=some (.slice A3 v.length c3):=by rw [hX3.cell];rfl
 have hbe:Below B w w3:=(hb1.mono hBw).trans hb3;have hP:Hid (Z10 (ZN 2 l) { Obj.zero with kind:=2,ents:=v } b3):=qI (by rw [Z6Q];exact Z3S t3.out);go_wp2_with fail;go_ret;exact ⟨{ Obj.zero with kind:=2,ents:=v },none,0,A3,c3,none,0,l3,b3,rfl,RdN.nil,RdN.own hE3,RdN.nil,hR3,qI ⟨hP.out,rfl⟩,hbe,by show v.length≤_;omega,by simp [Obj.zero],qI (by simp [Obj.zero])⟩
theorem ZaN (B g:Nat) (l:LU) (w:World) (h:Rs w B g l false) (hBw:B≤w.heap.size) (hl:l.length≤140737488351232):
  Calls Tryz.prog 160 #[.pointer (some ⟨g,0,none⟩),.int .i64 3] w (Z6T (ZN 3 l) B g w (fun o vd ve vp=> .iface 219 (.agg #[.string o.tree,vp,.string o.who,.int .i64 o.stamp,.string o.text])) fun o=>{ Obj.zero with kind:=3,tree:=o.tree,pars:=o.pars,who:=o.who,stamp:=o.stamp,text:=o.text }):=by
 obtain ⟨hgl,hBg⟩:=h.lt;have hb0:Below w.heap.size w (w.alloc (.cells #[.pointer (some ⟨g,0,none⟩)] 222)):=(bR _ _).alloc (lR _) _;have h0:=h.below hb0;obtain ⟨A,c,hRb,hF,hc,hcm,_⟩:=id h;have hG:=Blk.new w 222 [.pointer (some ⟨g,0,none⟩)];have n2:=Z9 hG (hRb.below hb0 hRb.lt) (by decide);have s0:(w.alloc (.cells #[.pointer (some ⟨g,0,none⟩)] 222)).heap.size=w.heap.size+1:=by simp
 have hmf:=mkf;go_in;go_wp2_with fail;refine (Z0z B g 32 32 rfl l false _ h0).mono ?_;rintro e w1 ⟨t,l1,b1,rfl,h1,t1,g1,q1,_⟩;have hG1:=hG.grown g1 n2;have hs1:w.heap.size+1≤w1.heap.size:=by have:=g1.size;omega
 have y1:w1.cell? ⟨w.heap.size,0,none⟩=some (.pointer (some ⟨g,0,none⟩)):=by rw [hG1.cell];rfl
 have hn1:w.heap.size≠w1.heap.size:=by omega
 have hn2: ¬w1.heap.size=w.heap.size:=by omega
 have hn3:w.heap.size<w1.heap.size:=by omega
 unfold mkS;have hb2:Below w1.heap.size w1 (w1.alloc (.cells #[.string ⟨t.toArray⟩,.slice none 0 0,.string ⟨#[]⟩,.int .i64 0,.string ⟨#[]⟩] 219)):=(bR _ _).alloc (lR _) _;have hG2:=hG1.alloc (.cells #[.string ⟨t.toArray⟩,.slice none 0 0,.string ⟨#[]⟩,.int .i64 0,.string ⟨#[]⟩] 219);have hX2:=Blk.new w1 219 [.string ⟨t.toArray⟩,.slice none 0 0,.string ⟨#[]⟩,.int .i64 0,.string ⟨#[]⟩];have hst:ComSt (w1.alloc (.cells #[.string ⟨t.toArray⟩,.slice none 0 0,.string ⟨#[]⟩,.int .i64 0,.string ⟨#[]⟩] 219)) B w1.heap.size w.heap.size g ⟨t.toArray⟩ ⟨#[]⟩ 0 ⟨#[]⟩ [] l1 b1:=⟨none,0,hX2,World.ownsRow_nil _ _ _ _,hG2,h1.below hb2,by omega,hBw,lT (by omega) hb2.size⟩;go_wp2_with fail;refine (Z8e B w1.heap.size w.heap.size g ⟨t.toArray⟩ ⟨#[]⟩ 0 ⟨#[]⟩ l1 b1 _ hst (by omega)).mono ?_;rintro e w3 ⟨v,l3,b3,rfl,hs3,t3,hb3,hv,hv3⟩;obtain ⟨A3,c3,hX3,hE3,hG3,hR3,_,_,hB3⟩:=id hs3;obtain ⟨Ar,cr,hRb3,_⟩:=id hR3;have y3:w3.cell? ⟨w.heap.size,0,none⟩=some (.pointer (some ⟨g,0,none⟩)):=by rw [hG3.cell];rfl
 go_wp2_with fail;refine (Z5r B g l3 b3 w3 hR3).mono ?_;rintro e w4 ⟨v4,l4,b4,rfl,h4,t4,g4⟩;have n4:=Z9 hX3 hRb3 (by decide);have hX4:=hX3.grown g4 n4;have hE4:=Zc hE3 hRb3 (by decide) g4;obtain ⟨k0,k1,k2,k3,k4⟩:=Z2j hX4;have f2:=hX4.free 2;have f3:=hX4.free 3;have f4:=hX4.free 4;unfold mkT;go_wp2_with fail;have hg5:w4.grownBy (((w4.setCell ⟨w1.heap.size,2,none⟩ (.string v4.1)).setCell ⟨w1.heap.size,3,none⟩ (.int .i64 v4.2.1)).setCell ⟨w1.heap.size,4,none⟩ (.string v4.2.2)) (some w1.heap.size):=Z0 (Z0 (Z0 (gR w4 _) 2 _) 3 _) 4 _;have hE5:=Zc hE4 hX4 (by decide) hg5;have h5:=h4.keep hg5 n4.symm (Other.blk hX4 (by decide) (by omega));have s3:=hb3.size;have hbe:Below B w _:=(((hb0.mono hBw).trans (Z1 g1 hBg (by omega))).trans ((hb2.mono (by omega)).trans hb3)).trans ((Z1 g4 hBg hB3).trans (Z1 hg5 (by omega) (lT hB3 g4.size)));have hP:Hid (Z10 (ZN 3 l) { Obj.zero with kind:=3,tree:=⟨t.toArray⟩,pars:=v,who:=v4.1,stamp:=v4.2.1,text:=v4.2.2 } b4):=qI (by rw [Z6R];exact Z2N t1.out t3.out t4.out);go_ret;exact ⟨{ Obj.zero with kind:=3,tree:=⟨t.toArray⟩,pars:=v,who:=v4.1,stamp:=v4.2.1,text:=v4.2.2 },none,0,none,0,A3,c3,l4,b4,rfl,RdN.nil,RdN.nil,RdN.own hE5,h5,qI ⟨hP.out,rfl⟩,hbe,by simp [Obj.zero],by show v.length≤_;omega,qI (fun q hq=>by have:=hv3.out q hq;unfold maxLen;omega)⟩
theorem ZaO (B g:Nat) (l:LU) (w:World) (h:Rs w B g l false) (hBw:B≤w.heap.size) (hl:l.length≤140737488351232):
  Calls Tryz.prog 160 #[.pointer (some ⟨g,0,none⟩),.int .i64 4] w (Z6T (ZN 4 l) B g w (fun o vd ve vp=> .iface 221 (.agg #[.string o.target,.string o.name,.string o.who,.int .i64 o.stamp,.string o.text])) fun o=>{ Obj.zero with kind:=4,target:=o.target,name:=o.name,who:=o.who,stamp:=o.stamp,text:=o.text }):=by
 obtain ⟨hgl,hBg⟩:=h.lt;have hb0:Below w.heap.size w (w.alloc (.cells #[.pointer (some ⟨g,0,none⟩)] 222)):=(bR _ _).alloc (lR _) _;have h0:=h.below hb0;obtain ⟨A,c,hRb,hF,hc,hcm,_⟩:=id h;have hG:=Blk.new w 222 [.pointer (some ⟨g,0,none⟩)];have n2:=Z9 hG (hRb.below hb0 hRb.lt) (by decide);have s0:(w.alloc (.cells #[.pointer (some ⟨g,0,none⟩)] 222)).heap.size=w.heap.size+1:=by simp
 have y0:(w.alloc (.cells #[.pointer (some ⟨g,0,none⟩)] 222)).cell? ⟨w.heap.size,0,none⟩=some (.pointer (some ⟨g,0,none⟩)):=by rw [hG.cell];rfl
 go_in;go_wp2_with fail;refine wp_region_held_drew (S:=fun w'=>w'.cell? ⟨w.heap.size,0,none⟩=some (.pointer (some ⟨g,0,none⟩))) (by kernel_rfl) y0 (fun hHeld=> ?_);refine tk 0 (.pointer (some ⟨g,0,none⟩)) rfl (fun _ _ _ h=>h) (Or.inl ⟨by rfl,fun w' hS=> ?_⟩) hHeld ?_
 ·obtain s0:=hS
  go_simp
 try simp only [Act.put,sA]
 refine tk 2 (.pointer (some ⟨g,0,none⟩)) rfl (fun _ _ _ h=>h) (Or.inl ⟨by rfl,fun w' hS=> ?_⟩) hHeld ?_
 ·obtain s0:=hS
  go_simp
 try simp only [Act.put]
 refine tk 4 (.pointer (some ⟨g,0,none⟩)) rfl (fun _ _ _ h=>h) (Or.inl ⟨by rfl,fun w' hS=> ?_⟩) hHeld ?_
 ·obtain s0:=hS
  go_simp
 try simp only [Act.put]
 refine wpAnyH_ready (rs:=[1]) (by kernel_rfl) (by simp) (AllReadyH.cons (o:=_) rfl (fun K hK=> ?_) AllReadyH.nil);go_simp;refine (Z0z B g 32 32 rfl l false _ h0.drew).mono ?_;rintro e w1 ⟨t,l1,b1,rfl,h1,t1,g1,q1,_⟩;have hG1:=hG.drew.grown g1 n2;have y1:w1.cell? ⟨w.heap.size,0,none⟩=some (.pointer (some ⟨g,0,none⟩)):=by rw [hG1.cell];rfl
 unfold mkS;refine hK.out _ _ y1 (fun hHeld=> ?_);clear hK K
 try simp only [Act.put,sA,sB,sC]
 refine wpAnyH_ready (rs:=[3]) (by kernel_rfl) (by simp) (AllReadyH.cons (o:=_) rfl (fun K hK=> ?_) AllReadyH.nil);go_simp;refine (Z29 B g l1 b1 w1 h1).mono ?_;rintro e w2 ⟨nm,l2,b2,rfl,h2,t2,g2,q2,_⟩;have hG2:=hG1.grown g2 n2;have y2:w2.cell? ⟨w.heap.size,0,none⟩=some (.pointer (some ⟨g,0,none⟩)):=by rw [hG2.cell];rfl
 unfold mkS;refine hK.out _ _ y2 (fun hHeld=> ?_);clear hK K
 try simp only [Act.put,sA,sB,sC]
 refine wpAnyH_ready (rs:=[5]) (by kernel_rfl) (by simp) (AllReadyH.cons (o:=_) rfl (fun K hK=> ?_) AllReadyH.nil);go_simp;refine (Z5r B g l2 b2 w2 h2).mono ?_;rintro e w3 ⟨v,l3,b3,rfl,h3,t3,g3⟩;have hG3:=hG2.grown g3 n2;have y3:w3.cell? ⟨w.heap.size,0,none⟩=some (.pointer (some ⟨g,0,none⟩)):=by rw [hG3.cell];rfl
 unfold mkT;refine hK.out _ _ y3 (fun hHeld=> ?_);clear hK K
 try simp only [Act.put,sA,sB,sC]
 refine tk 6 (.agg #[.string ⟨t.toArray⟩,.string ⟨nm.toArray⟩,.string v.1,.int .i64 v.2.1,.string v.2.2]) rfl (fun _ _ _ h=>h) (Or.inl ⟨by rfl,fun w' hS=> ?_⟩) hHeld ?_
 ·obtain s0:=hS
  go_simp
 try simp only [Act.put,sA]
 refine tk 7 (.iface 221 (.agg #[.string ⟨t.toArray⟩,.string ⟨nm.toArray⟩,.string v.1,.int .i64 v.2.1,.string v.2.2])) rfl (fun _ _ _ h=>h) (Or.inl ⟨by rfl,fun w' hS=> ?_⟩) hHeld ?_
 ·obtain s0:=hS
  go_simp
 try simp only [Act.put]
 refine tk 8 (.iface 221 (.agg #[.string ⟨t.toArray⟩,.string ⟨nm.toArray⟩,.string v.1,.int .i64 v.2.1,.string v.2.2])) rfl (fun _ _ _ h=>h) (Or.inl ⟨by rfl,fun w' hS=> ?_⟩) hHeld ?_
 ·obtain s0:=hS
  go_simp
 try simp only [Act.put]
 refine wpAnyH_done (by kernel_rfl) ?_ _;have s1:(w.alloc (.cells #[.pointer (some ⟨g,0,none⟩)] 222)).heap.size≤w1.heap.size:=g1.size;have s2:=g2.size;have hbe:Below B w w3:=(hb0.mono hBw).trans ((((bR B _).drew).trans (Z1 g1 hBg (lT hBw hb0.size):Below B _ w1)).trans ((Z1 g2 hBg (by omega)).trans (Z1 g3 hBg (by omega))));have hP:Hid (Z10 (ZN 4 l) { Obj.zero with kind:=4,target:=⟨t.toArray⟩,name:=⟨nm.toArray⟩,who:=v.1,stamp:=v.2.1,text:=v.2.2 } b3):=qI (by rw [Z9l];exact Z7r t1.out t2.out t3.out);go_wp2_with fail;go_ret;exact ⟨{ Obj.zero with kind:=4,target:=⟨t.toArray⟩,name:=⟨nm.toArray⟩,who:=v.1,stamp:=v.2.1,text:=v.2.2 },none,0,none,0,none,0,l3,b3,rfl,RdN.nil,RdN.nil,RdN.nil,h3,qI ⟨hP.out,rfl⟩,hbe,by simp [Obj.zero],by simp [Obj.zero],qI (by simp [Obj.zero])⟩
def Z1E (w:World) (r:Option Go.Dol.Obj) (e:Ending) (w':World):Prop:=
 match r with
 | none=>e= .returned (.tuple #[.agg #[.int .i64 0,.slice none 0 0,.slice none 0 0,.string ⟨#[]⟩,.slice none 0 0,.string ⟨#[]⟩,.string ⟨#[]⟩,.string ⟨#[]⟩,.int .i64 0,.string ⟨#[]⟩],.int .i64 2])∧Below w.heap.size w w'
 | some o=> ∃(k:Int) (Ad:OA) (d:LU) (cd:Nat) (Ae:OA) (en:List Ent) (ce:Nat) (tr:BA) (Ap:OA) (pa:List BA) (cp:Nat) (ta na wh:BA) (st:Int) (te:BA),
   Hid (o=⟨k,d,en,tr,pa,ta,na,wh,st,te⟩)∧e= .returned (.tuple #[.agg #[.int .i64 k,.slice Ad d.length cd,.slice Ae en.length ce,.string tr,.slice Ap pa.length cp,.string ta,.string na,.string wh,.int .i64 st,.string te],.int .i64 0])∧
   RdN w' w.heap.size 1 Ad d.length (bc d)∧RdN w' w.heap.size 3 Ae en.length (ec en)∧RdN w' w.heap.size 1 Ap pa.length (pc pa)∧Below w.heap.size w w'∧en.length≤140737488355328∧pa.length≤140737488355328∧Hid (∀p∈pa,p.size≤maxLen)
theorem Z5u (k:Int) (vd ve:Value) (tr:BA) (vp:Value) (ta na wh:BA) (st:Int) (te:BA) (hd:vd.oneCell'=true) (he:ve.oneCell'=true) (hp:vp.oneCell'=true): ∀v∈[Value.int .i64 k,vd,ve,.string tr,vp,.string ta,.string na,.string wh,.int .i64 st,.string te],v.oneCell'=true:=by
 intro v hv;simp only [List.mem_cons,List.not_mem_nil,or_false] at hv;rcases hv with rfl | rfl | rfl | rfl | rfl | rfl | rfl | rfl | rfl | rfl<;>first | rfl | assumption
theorem Z8f (A:OA) (c:Nat) (w:World):Calls Tryz.prog 96 #[.slice A 0 c] w (Z1E w none):=by
 have hb1:Below w.heap.size w (w.alloc (.cells #[.int .i64 0,.slice none 0 0,.slice none 0 0,.string ⟨#[]⟩,.slice none 0 0,.string ⟨#[]⟩,.string ⟨#[]⟩,.string ⟨#[]⟩,.int .i64 0,.string ⟨#[]⟩] 40)):=(bR _ _).alloc (lR _) _;have hB:=Blk.new w 40 zcells;go_in;go_wp2_with ((refine Z3 (by rfl) _ (.tmp 2) (.tmp 11) rfl w.heap.size zcells rfl rfl 40 zcells hB (by kernel_rfl) rfl (by decide) ?_;intro w6 hB6 hg6));have hl:=Go.run_loadVar_row (P:=Tryz.prog) w6 w.heap.size 40 40 zcells.toArray (0,0) _ hB6 Tryz.underlying40 rfl (by kernel_rfl);refine bodyPost_ret (v:=.tuple #[.agg zcells.toArray,.int .i64 2]) ?_ rfl ⟨rfl,hb1.grown hg6 hb1.size (fun k hk=>by cases hk;exact lR _)⟩;simp [results,Tryz.results96,asAddr,hl]
theorem Z8g (A:OA) (l:LU) (n c:Nat) (w:World) (hn:n=l.length+1) (hr:Rd w w.heap.size 1 A n (bc (1::l))) (hc:n≤c) (hcm:c≤maxLen) (hl:l.length≤140737488351231):
  Calls Tryz.prog 96 #[.slice A n c] w (Z1E w (decO geS (1::l))):=by
 have d0:((n:Int)==0)=false:=beq_eq_false_iff_ne.2 (by omega);have hn0:(0:Int)<(n:Int):=by omega
 obtain ⟨m,A',c',em,jm,jm',⟨rm,km,km'⟩,_,_,_,sm⟩:=Z0V (k:=1) (l:=1::l) (c:=c) 1 rfl (by rw [List.length_cons,←hn];exact hr) (by simp) (by simp;omega) hcm;rw [List.length_cons,←hn] at sm jm;obtain ⟨g,off,rfl,hg,hcell⟩:=hr.at_ (by omega);have hml:m=l:=by rw [em.out];rfl
 have hb1:Below w.heap.size w (w.alloc (.cells #[.int .i64 0,.slice none 0 0,.slice none 0 0,.string ⟨#[]⟩,.slice none 0 0,.string ⟨#[]⟩,.string ⟨#[]⟩,.string ⟨#[]⟩,.int .i64 0,.string ⟨#[]⟩] 40)):=(bR _ _).alloc (lR _) _;have hb2:=hb1.alloc hb1.size (.cells #[.slice A' m.length c',.int .i64 0] 224);have hB1:=Blk.new w 40 zcells;have hB2:=hB1.alloc (.cells #[.slice A' m.length c',.int .i64 0] 224);have hR2:=Blk.new (w.alloc (.cells #[.int .i64 0,.slice none 0 0,.slice none 0 0,.string ⟨#[]⟩,.slice none 0 0,.string ⟨#[]⟩,.string ⟨#[]⟩,.string ⟨#[]⟩,.int .i64 0,.string ⟨#[]⟩] 40)) 224 [.slice A' m.length c',.int .i64 0];have s1:(w.alloc (.cells #[.int .i64 0,.slice none 0 0,.slice none 0 0,.string ⟨#[]⟩,.slice none 0 0,.string ⟨#[]⟩,.string ⟨#[]⟩,.string ⟨#[]⟩,.int .i64 0,.string ⟨#[]⟩] 40)).heap.size=w.heap.size+1:=by simp
 have s2:((w.alloc (.cells #[.int .i64 0,.slice none 0 0,.slice none 0 0,.string ⟨#[]⟩,.slice none 0 0,.string ⟨#[]⟩,.string ⟨#[]⟩,.string ⟨#[]⟩,.int .i64 0,.string ⟨#[]⟩] 40)).alloc (.cells #[.slice A' m.length c',.int .i64 0] 224)).heap.size=w.heap.size+2:=by simp
 rw [s1] at hR2;have hRs:Rs ((w.alloc (.cells #[.int .i64 0,.slice none 0 0,.slice none 0 0,.string ⟨#[]⟩,.slice none 0 0,.string ⟨#[]⟩,.string ⟨#[]⟩,.string ⟨#[]⟩,.int .i64 0,.string ⟨#[]⟩] 40)).alloc (.cells #[.slice A' m.length c',.int .i64 0] 224)) (w.heap.size+1) (w.heap.size+1) m false:=⟨A',c',hR2,Far.of_rd ((rm.below hb2).more (by omega)) (by omega),km,km',by omega,lR _⟩;have hx0:((w.alloc (.cells #[.int .i64 0,.slice none 0 0,.slice none 0 0,.string ⟨#[]⟩,.slice none 0 0,.string ⟨#[]⟩,.string ⟨#[]⟩,.string ⟨#[]⟩,.int .i64 0,.string ⟨#[]⟩] 40)).alloc (.cells #[.slice A' m.length c',.int .i64 0] 224)).cell? ⟨g,off,none⟩=some (.int .u8 1):=by
  have:=hcell 0 (.int .u8 1) rfl;rw [←this];exact hb2.cell (p:=⟨g,off,none⟩) hg
 have hx1:w.cell? ⟨g,off,none⟩=some (.int .u8 1):=hcell 0 (.int .u8 1) rfl;have hwx:IntKind.i64.wrap 1=1:=by rfl
 clear hcell;have HN:=qI hn;have HML:=qI hml;clear hn hml;go_in;go_wp2_with fail;refine (ZaL (w.heap.size+1) (w.heap.size+1) m _ hRs (by omega) (by have:=HML.out;rw [this];omega)).mono ?_;rintro e w3 ⟨⟨ko,d,en,tr,pa,ta,na,wh,st,te⟩,Ad,cd,Ae,ce,Ap,cp,l3,b3,rfl,hdn,hen,hpn,hR3,hP,hb3,hel,hpl,hps⟩;have hsh:=hP.out.2;injection hsh with x1 x2 x3 x4 x5 x6 x7 x8 x9 x10
 simp only [Obj.zero] at x1 x2 x3 x4 x5 x6 x7 x8 x9 x10;subst x1 x3 x4 x5 x6 x7 x8 x9 x10;have hPo:=qI hP.out.1;rw [HML.out] at hPo;clear hP;dsimp only at hel hpl hps hdn hen hpn ⊢;go_wp2_with fail;refine (Z6o Ad d.length cd none 0 0 ⟨#[]⟩ none 0 0 ⟨#[]⟩ ⟨#[]⟩ ⟨#[]⟩ 0 ⟨#[]⟩ w3).mono ?_;rintro e w4 ⟨rfl,hb4⟩;have hs3:=hb3.size;have hb34:=hb3.trans (hb4.mono (by omega));have hR4:=hR3.below hb4;have hd4':=hdn.below hb4;have he4':=hen.below hb4;have hp4':=hpn.below hb4;have hbo:Below w4.heap.size w4 (w4.alloc (.cells #[.int .i64 1,.slice Ad d.length cd,.slice none 0 0,.string ⟨#[]⟩,.slice none 0 0,.string ⟨#[]⟩,.string ⟨#[]⟩,.string ⟨#[]⟩,.int .i64 0,.string ⟨#[]⟩] 40)):=(bR _ _).alloc (lR _) _;have hO:=Blk.new w4 40 [.int .i64 1,.slice Ad d.length cd,.slice none 0 0,.string ⟨#[]⟩,.slice none 0 0,.string ⟨#[]⟩,.string ⟨#[]⟩,.string ⟨#[]⟩,.int .i64 0,.string ⟨#[]⟩];have hd4:=hd4'.1.alive hbo;have he4:=he4'.1.alive hbo;have hp4:=hp4'.1.alive hbo;have hB4:=hB2.below hb34 (by omega);have hE:=Z28 1 Ad d cd none [] 0 ⟨#[]⟩ none [] 0 ⟨#[]⟩ ⟨#[]⟩ ⟨#[]⟩ 0 ⟨#[]⟩ (w4.alloc (.cells #[.int .i64 1,.slice Ad d.length cd,.slice none 0 0,.string ⟨#[]⟩,.slice none 0 0,.string ⟨#[]⟩,.string ⟨#[]⟩,.string ⟨#[]⟩,.int .i64 0,.string ⟨#[]⟩] 40)) hd4 Rd.nil Rd.nil (zL _) (zL _) (qI (by simp));obtain ⟨z0,z1,z2,z3,z4,z5,z6,z7,z8,z9⟩:=Z2 hO;clear hRs hx0 hx1 hR2 hB1;go_wp2_with fail;refine hE.mono ?_;rintro e w6 ⟨hb6,hR6⟩;have hb46:=hbo.next hb6;have hR7:=hR4.below hb46;have hB7:=hB4.below hb46 hB4.lt;have hO7:=hO.below hb6 hO.lt;have hs34:=hb34.size;have hbe:Below w.heap.size w w6:=hb2.trans ((hb34.mono (by omega)).trans (hb46.mono (by omega)));obtain ⟨Ar,cr,hRb,_⟩:=id hR7;have e1:w6.cell? ⟨w.heap.size+1,1,none⟩=some (.int .i64 (errB b3)):=by rw [hRb.cell];rfl
 clear z0 z1 z2 z3 z4 z5 z6 z7 z8 z9 hE;rcases hR6 with ⟨hck,lo,Ao,co,el,rfl,ho6⟩ | ⟨hck,rfl⟩
 ·have hDec:=Z1p (ge:=geS) hPo.out
  have HCK:=qI hck
  cases b3 with
  | true=>
   have e2:w6.cell? ⟨w.heap.size+1,1,none⟩=some (.int .i64 2):=e1;have HD:Hid (decO geS (1::l)=none):=by
    unfold Hid;rw [hDec,if_neg (by simp)]
   clear e1 hDec hck;go_wp2_with ((refine Z3 (by rfl) _ (.tmp 2) (.tmp 43) rfl w.heap.size zcells rfl rfl 40 zcells hB7 (by kernel_rfl) rfl (by decide) ?_;intro w8 hB8 hg8));have hl:=Go.run_loadVar_row (P:=Tryz.prog) w8 w.heap.size 40 40 zcells.toArray (0,0) _ hB8 Tryz.underlying40 rfl (by kernel_rfl);rw [show decO geS (1::l)=none from HD.out];refine bodyPost_ret (v:=.tuple #[.agg zcells.toArray,.int .i64 2]) ?_ rfl ⟨rfl,hbe.grown hg8 hbe.size (fun k hk=>by cases hk;exact lR _)⟩;simp [results,Tryz.results96,asAddr,hl]
  | false=>
   have e2:w6.cell? ⟨w.heap.size+1,1,none⟩=some (.int .i64 0):=e1;clear e1;have hr6:=Rd.of_own ho6;have hrb:Rd w6 w6.heap.size 1 (some ⟨g,off,none⟩) (1::l).length (bc (1::l)):=by
    have:=(hr.below hbe).more hbe.size;rwa [HN.out] at this
   have hlo:lo.length≤140737488355328:=by
    by_cases h:lo.length≤140737488355328
    ·exact h
    ·exfalso
     have h1:=el.out;have h2:=Z4q hck;rw [←h1] at h2;omega
   have hnl:n=(1::l).length:=by rw [List.length_cons];exact HN.out
   have hq:=Z24 Ao lo co (some ⟨g,off,none⟩) (1::l) c w6 _ _ hr6 hrb hlo (by simp;omega);rw [←hnl] at hq;have HNL:=qI hnl;clear hck hnl
   by_cases heq:lo=1::l
   ·have HD:Hid (decO geS (1::l)=some ⟨1,d,[],⟨#[]⟩,[],⟨#[]⟩,⟨#[]⟩,⟨#[]⟩,0,⟨#[]⟩⟩):=by
     unfold Hid;rw [hDec,if_pos ⟨rfl,HCK.out,by rw [←el.out];exact heq⟩]
    have HQ:=qI heq;clear hDec heq hr hrb hr6 hlo;obtain ⟨z0,z1,z2,z3,z4,z5,z6,z7,z8,z9⟩:=Z2 hO7
    go_wp2_with ((first
     | (go_at_call 161;refine hq.mono ?_;rintro e w7 ⟨v7,n7,rfl,hv7,rfl⟩;obtain rfl:=hv7.2 HQ.out)
     | (refine Z3 (by rfl) _ (.tmp 2) (.tmp 44) rfl w.heap.size [.int .i64 1,.slice Ad d.length cd,.slice none 0 0,.string ⟨#[]⟩,.slice none 0 0,.string ⟨#[]⟩,.string ⟨#[]⟩,.string ⟨#[]⟩,.int .i64 0,.string ⟨#[]⟩] rfl rfl 40 zcells (hB7.drewN n7) (by kernel_rfl) rfl (Z5u _ _ _ _ _ _ _ _ _ _ rfl rfl rfl) ?_;intro w8 hB8 hg8)))
    have hl:=Go.run_loadVar_row (P:=Tryz.prog) w8 w.heap.size 40 40 #[.int .i64 1,.slice Ad d.length cd,.slice none 0 0,.string ⟨#[]⟩,.slice none 0 0,.string ⟨#[]⟩,.string ⟨#[]⟩,.string ⟨#[]⟩,.int .i64 0,.string ⟨#[]⟩] (0,0) _ hB8 Tryz.underlying40 rfl (by kernel_rfl);rw [HD.out];have hg9:w6.grownBy w8 (some w.heap.size):=⟨hg8.os,hg8.tape,hg8.output,hg8.size,hg8.block⟩;have hb9:Below w.heap.size w w8:=hbe.grown hg9 hbe.size (fun k hk=>by cases hk;exact lR _);refine bodyPost_ret (v:=.tuple #[.agg #[.int .i64 1,.slice Ad d.length cd,.slice none 0 0,.string ⟨#[]⟩,.slice none 0 0,.string ⟨#[]⟩,.string ⟨#[]⟩,.string ⟨#[]⟩,.int .i64 0,.string ⟨#[]⟩],.int .i64 0]) ?_ rfl ⟨1,Ad,d,cd,none,[],0,⟨#[]⟩,none,[],0,⟨#[]⟩,⟨#[]⟩,⟨#[]⟩,0,⟨#[]⟩,rfl,rfl,((((hdn.below hb4).below hb46).apart hg9 (by omega)).lower (by omega)),RdN.nil,RdN.nil,hb9,(zL _),(zL _),(qI (by simp))⟩;simp [results,Tryz.results96,asAddr,hl]
   ·have HD:Hid (decO geS (1::l)=none):=by
     unfold Hid;rw [hDec,if_neg (by rintro ⟨_,_,h⟩;exact heq (by rw [el.out,h]))]
    have HQ:=qI heq;clear hDec heq hr hrb hr6 hlo
    go_wp2_with ((first
     | (go_at_call 161;refine hq.mono ?_;rintro e w7 ⟨v7,n7,rfl,hv7,rfl⟩;obtain rfl:v7=false:=Bool.eq_false_iff.2 fun h=>HQ.out (hv7.1 h))
     | (refine Z3 (by rfl) _ (.tmp 2) (.tmp 43) rfl w.heap.size zcells rfl rfl 40 zcells (hB7.drewN n7) (by kernel_rfl) rfl (by decide) ?_;intro w8 hB8 hg8)))
    have hl:=Go.run_loadVar_row (P:=Tryz.prog) w8 w.heap.size 40 40 zcells.toArray (0,0) _ hB8 Tryz.underlying40 rfl (by kernel_rfl);rw [HD.out];have hg9:w6.grownBy w8 (some w.heap.size):=⟨hg8.os,hg8.tape,hg8.output,hg8.size,hg8.block⟩;refine bodyPost_ret (v:=.tuple #[.agg zcells.toArray,.int .i64 2]) ?_ rfl ⟨rfl,hbe.grown hg9 hbe.size (fun k hk=>by cases hk;exact lR _)⟩;simp [results,Tryz.results96,asAddr,hl]
 ·have hDec:=Z1p (ge:=geS) hPo.out
  have HD:Hid (decO geS (1::l)=none):=by
   unfold Hid;rw [hDec,if_neg (by rw [hck];simp)]
  clear hDec
  cases b3 with
  | true=>
   have e2:w6.cell? ⟨w.heap.size+1,1,none⟩=some (.int .i64 2):=e1;clear e1;go_wp2_with ((refine Z3 (by rfl) _ (.tmp 2) (.tmp 43) rfl w.heap.size zcells rfl rfl 40 zcells hB7 (by kernel_rfl) rfl (by decide) ?_;intro w8 hB8 hg8));have hl:=Go.run_loadVar_row (P:=Tryz.prog) w8 w.heap.size 40 40 zcells.toArray (0,0) _ hB8 Tryz.underlying40 rfl (by kernel_rfl);rw [show decO geS (1::l)=none from HD.out];refine bodyPost_ret (v:=.tuple #[.agg zcells.toArray,.int .i64 2]) ?_ rfl ⟨rfl,hbe.grown hg8 hbe.size (fun k hk=>by cases hk;exact lR _)⟩;simp [results,Tryz.results96,asAddr,hl]
  | false=>
   have e2:w6.cell? ⟨w.heap.size+1,1,none⟩=some (.int .i64 0):=e1;clear e1;go_wp2_with ((refine Z3 (by rfl) _ (.tmp 2) (.tmp 43) rfl w.heap.size zcells rfl rfl 40 zcells hB7 (by kernel_rfl) rfl (by decide) ?_;intro w8 hB8 hg8));have hl:=Go.run_loadVar_row (P:=Tryz.prog) w8 w.heap.size 40 40 zcells.toArray (0,0) _ hB8 Tryz.underlying40 rfl (by kernel_rfl);rw [show decO geS (1::l)=none from HD.out];refine bodyPost_ret (v:=.tuple #[.agg zcells.toArray,.int .i64 2]) ?_ rfl ⟨rfl,hbe.grown hg8 hbe.size (fun k hk=>by cases hk;exact lR _)⟩;simp [results,Tryz.results96,asAddr,hl]
theorem Z8h (A:OA) (l:LU) (n c:Nat) (w:World) (hn:n=l.length+1) (hr:Rd w w.heap.size 1 A n (bc (2::l))) (hc:n≤c) (hcm:c≤maxLen) (hl:l.length≤140737488351231):
  Calls Tryz.prog 96 #[.slice A n c] w (Z1E w (decO geS (2::l))):=by
 have d0:((n:Int)==0)=false:=beq_eq_false_iff_ne.2 (by omega);have hn0:(0:Int)<(n:Int):=by omega
 obtain ⟨m,A',c',em,jm,jm',⟨rm,km,km'⟩,_,_,_,sm⟩:=Z0V (k:=1) (l:=2::l) (c:=c) 1 rfl (by rw [List.length_cons,←hn];exact hr) (by simp) (by simp;omega) hcm;rw [List.length_cons,←hn] at sm jm;obtain ⟨g,off,rfl,hg,hcell⟩:=hr.at_ (by omega);have hml:m=l:=by rw [em.out];rfl
 have hb1:Below w.heap.size w (w.alloc (.cells #[.int .i64 0,.slice none 0 0,.slice none 0 0,.string ⟨#[]⟩,.slice none 0 0,.string ⟨#[]⟩,.string ⟨#[]⟩,.string ⟨#[]⟩,.int .i64 0,.string ⟨#[]⟩] 40)):=(bR _ _).alloc (lR _) _;have hb2:=hb1.alloc hb1.size (.cells #[.slice A' m.length c',.int .i64 0] 224);have hB1:=Blk.new w 40 zcells;have hB2:=hB1.alloc (.cells #[.slice A' m.length c',.int .i64 0] 224);have hR2:=Blk.new (w.alloc (.cells #[.int .i64 0,.slice none 0 0,.slice none 0 0,.string ⟨#[]⟩,.slice none 0 0,.string ⟨#[]⟩,.string ⟨#[]⟩,.string ⟨#[]⟩,.int .i64 0,.string ⟨#[]⟩] 40)) 224 [.slice A' m.length c',.int .i64 0];have s1:(w.alloc (.cells #[.int .i64 0,.slice none 0 0,.slice none 0 0,.string ⟨#[]⟩,.slice none 0 0,.string ⟨#[]⟩,.string ⟨#[]⟩,.string ⟨#[]⟩,.int .i64 0,.string ⟨#[]⟩] 40)).heap.size=w.heap.size+1:=by simp
 have s2:((w.alloc (.cells #[.int .i64 0,.slice none 0 0,.slice none 0 0,.string ⟨#[]⟩,.slice none 0 0,.string ⟨#[]⟩,.string ⟨#[]⟩,.string ⟨#[]⟩,.int .i64 0,.string ⟨#[]⟩] 40)).alloc (.cells #[.slice A' m.length c',.int .i64 0] 224)).heap.size=w.heap.size+2:=by simp
 rw [s1] at hR2;have hRs:Rs ((w.alloc (.cells #[.int .i64 0,.slice none 0 0,.slice none 0 0,.string ⟨#[]⟩,.slice none 0 0,.string ⟨#[]⟩,.string ⟨#[]⟩,.string ⟨#[]⟩,.int .i64 0,.string ⟨#[]⟩] 40)).alloc (.cells #[.slice A' m.length c',.int .i64 0] 224)) (w.heap.size+1) (w.heap.size+1) m false:=⟨A',c',hR2,Far.of_rd ((rm.below hb2).more (by omega)) (by omega),km,km',by omega,lR _⟩;have hx0:((w.alloc (.cells #[.int .i64 0,.slice none 0 0,.slice none 0 0,.string ⟨#[]⟩,.slice none 0 0,.string ⟨#[]⟩,.string ⟨#[]⟩,.string ⟨#[]⟩,.int .i64 0,.string ⟨#[]⟩] 40)).alloc (.cells #[.slice A' m.length c',.int .i64 0] 224)).cell? ⟨g,off,none⟩=some (.int .u8 2):=by
  have:=hcell 0 (.int .u8 2) rfl;rw [←this];exact hb2.cell (p:=⟨g,off,none⟩) hg
 have hx1:w.cell? ⟨g,off,none⟩=some (.int .u8 2):=hcell 0 (.int .u8 2) rfl;have hwx:IntKind.i64.wrap 2=2:=by rfl
 clear hcell;have HN:=qI hn;have HML:=qI hml;clear hn hml;go_in;go_wp2_with fail;refine (ZaM (w.heap.size+1) (w.heap.size+1) m _ hRs (by omega) (by have:=HML.out;rw [this];omega)).mono ?_;rintro e w3 ⟨⟨ko,d,en,tr,pa,ta,na,wh,st,te⟩,Ad,cd,Ae,ce,Ap,cp,l3,b3,rfl,hdn,hen,hpn,hR3,hP,hb3,hel,hpl,hps⟩;have hsh:=hP.out.2;injection hsh with x1 x2 x3 x4 x5 x6 x7 x8 x9 x10
 simp only [Obj.zero] at x1 x2 x3 x4 x5 x6 x7 x8 x9 x10;subst x1 x2 x4 x5 x6 x7 x8 x9 x10;have hPo:=qI hP.out.1;rw [HML.out] at hPo;clear hP;dsimp only at hel hpl hps hdn hen hpn ⊢;go_wp2_with fail;refine (Z6p none 0 0 Ae en.length ce ⟨#[]⟩ none 0 0 ⟨#[]⟩ ⟨#[]⟩ ⟨#[]⟩ 0 ⟨#[]⟩ w3).mono ?_;rintro e w4 ⟨rfl,hb4⟩;have hs3:=hb3.size;have hb34:=hb3.trans (hb4.mono (by omega));have hR4:=hR3.below hb4;have hd4':=hdn.below hb4;have he4':=hen.below hb4;have hp4':=hpn.below hb4;have hbo:Below w4.heap.size w4 (w4.alloc (.cells #[.int .i64 2,.slice none 0 0,.slice Ae en.length ce,.string ⟨#[]⟩,.slice none 0 0,.string ⟨#[]⟩,.string ⟨#[]⟩,.string ⟨#[]⟩,.int .i64 0,.string ⟨#[]⟩] 40)):=(bR _ _).alloc (lR _) _;have hO:=Blk.new w4 40 [.int .i64 2,.slice none 0 0,.slice Ae en.length ce,.string ⟨#[]⟩,.slice none 0 0,.string ⟨#[]⟩,.string ⟨#[]⟩,.string ⟨#[]⟩,.int .i64 0,.string ⟨#[]⟩];have hd4:=hd4'.1.alive hbo;have he4:=he4'.1.alive hbo;have hp4:=hp4'.1.alive hbo;have hB4:=hB2.below hb34 (by omega);have hE:=Z28 2 none [] 0 Ae en ce ⟨#[]⟩ none [] 0 ⟨#[]⟩ ⟨#[]⟩ ⟨#[]⟩ 0 ⟨#[]⟩ (w4.alloc (.cells #[.int .i64 2,.slice none 0 0,.slice Ae en.length ce,.string ⟨#[]⟩,.slice none 0 0,.string ⟨#[]⟩,.string ⟨#[]⟩,.string ⟨#[]⟩,.int .i64 0,.string ⟨#[]⟩] 40)) Rd.nil he4 Rd.nil (lT hel (by decide)) (zL _) (qI (by simp));obtain ⟨z0,z1,z2,z3,z4,z5,z6,z7,z8,z9⟩:=Z2 hO;clear hRs hx0 hx1 hR2 hB1;go_wp2_with fail;refine hE.mono ?_;rintro e w6 ⟨hb6,hR6⟩;have hb46:=hbo.next hb6;have hR7:=hR4.below hb46;have hB7:=hB4.below hb46 hB4.lt;have hO7:=hO.below hb6 hO.lt;have hs34:=hb34.size;have hbe:Below w.heap.size w w6:=hb2.trans ((hb34.mono (by omega)).trans (hb46.mono (by omega)));obtain ⟨Ar,cr,hRb,_⟩:=id hR7;have e1:w6.cell? ⟨w.heap.size+1,1,none⟩=some (.int .i64 (errB b3)):=by rw [hRb.cell];rfl
 clear z0 z1 z2 z3 z4 z5 z6 z7 z8 z9 hE;rcases hR6 with ⟨hck,lo,Ao,co,el,rfl,ho6⟩ | ⟨hck,rfl⟩
 ·have hDec:=Z1p (ge:=geS) hPo.out
  have HCK:=qI hck
  cases b3 with
  | true=>
   have e2:w6.cell? ⟨w.heap.size+1,1,none⟩=some (.int .i64 2):=e1;have HD:Hid (decO geS (2::l)=none):=by
    unfold Hid;rw [hDec,if_neg (by simp)]
   clear e1 hDec hck;go_wp2_with ((refine Z3 (by rfl) _ (.tmp 2) (.tmp 43) rfl w.heap.size zcells rfl rfl 40 zcells hB7 (by kernel_rfl) rfl (by decide) ?_;intro w8 hB8 hg8));have hl:=Go.run_loadVar_row (P:=Tryz.prog) w8 w.heap.size 40 40 zcells.toArray (0,0) _ hB8 Tryz.underlying40 rfl (by kernel_rfl);rw [show decO geS (2::l)=none from HD.out];refine bodyPost_ret (v:=.tuple #[.agg zcells.toArray,.int .i64 2]) ?_ rfl ⟨rfl,hbe.grown hg8 hbe.size (fun k hk=>by cases hk;exact lR _)⟩;simp [results,Tryz.results96,asAddr,hl]
  | false=>
   have e2:w6.cell? ⟨w.heap.size+1,1,none⟩=some (.int .i64 0):=e1;clear e1;have hr6:=Rd.of_own ho6;have hrb:Rd w6 w6.heap.size 1 (some ⟨g,off,none⟩) (2::l).length (bc (2::l)):=by
    have:=(hr.below hbe).more hbe.size;rwa [HN.out] at this
   have hlo:lo.length≤140737488355328:=by
    by_cases h:lo.length≤140737488355328
    ·exact h
    ·exfalso
     have h1:=el.out;have h2:=Z4q hck;rw [←h1] at h2;omega
   have hnl:n=(2::l).length:=by rw [List.length_cons];exact HN.out
   have hq:=Z24 Ao lo co (some ⟨g,off,none⟩) (2::l) c w6 _ _ hr6 hrb hlo (by simp;omega);rw [←hnl] at hq;have HNL:=qI hnl;clear hck hnl
   by_cases heq:lo=2::l
   ·have HD:Hid (decO geS (2::l)=some ⟨2,[],en,⟨#[]⟩,[],⟨#[]⟩,⟨#[]⟩,⟨#[]⟩,0,⟨#[]⟩⟩):=by
     unfold Hid;rw [hDec,if_pos ⟨rfl,HCK.out,by rw [←el.out];exact heq⟩]
    have HQ:=qI heq;clear hDec heq hr hrb hr6 hlo;obtain ⟨z0,z1,z2,z3,z4,z5,z6,z7,z8,z9⟩:=Z2 hO7
    go_wp2_with ((first
     | (go_at_call 161;refine hq.mono ?_;rintro e w7 ⟨v7,n7,rfl,hv7,rfl⟩;obtain rfl:=hv7.2 HQ.out)
     | (refine Z3 (by rfl) _ (.tmp 2) (.tmp 44) rfl w.heap.size [.int .i64 2,.slice none 0 0,.slice Ae en.length ce,.string ⟨#[]⟩,.slice none 0 0,.string ⟨#[]⟩,.string ⟨#[]⟩,.string ⟨#[]⟩,.int .i64 0,.string ⟨#[]⟩] rfl rfl 40 zcells (hB7.drewN n7) (by kernel_rfl) rfl (Z5u _ _ _ _ _ _ _ _ _ _ rfl rfl rfl) ?_;intro w8 hB8 hg8)))
    have hl:=Go.run_loadVar_row (P:=Tryz.prog) w8 w.heap.size 40 40 #[.int .i64 2,.slice none 0 0,.slice Ae en.length ce,.string ⟨#[]⟩,.slice none 0 0,.string ⟨#[]⟩,.string ⟨#[]⟩,.string ⟨#[]⟩,.int .i64 0,.string ⟨#[]⟩] (0,0) _ hB8 Tryz.underlying40 rfl (by kernel_rfl);rw [HD.out];have hg9:w6.grownBy w8 (some w.heap.size):=⟨hg8.os,hg8.tape,hg8.output,hg8.size,hg8.block⟩;have hb9:Below w.heap.size w w8:=hbe.grown hg9 hbe.size (fun k hk=>by cases hk;exact lR _);refine bodyPost_ret (v:=.tuple #[.agg #[.int .i64 2,.slice none 0 0,.slice Ae en.length ce,.string ⟨#[]⟩,.slice none 0 0,.string ⟨#[]⟩,.string ⟨#[]⟩,.string ⟨#[]⟩,.int .i64 0,.string ⟨#[]⟩],.int .i64 0]) ?_ rfl ⟨2,none,[],0,Ae,en,ce,⟨#[]⟩,none,[],0,⟨#[]⟩,⟨#[]⟩,⟨#[]⟩,0,⟨#[]⟩,rfl,rfl,RdN.nil,((((hen.below hb4).below hb46).apart hg9 (by omega)).lower (by omega)),RdN.nil,hb9,(lT hel (by decide)),(zL _),(qI (by simp))⟩;simp [results,Tryz.results96,asAddr,hl]
   ·have HD:Hid (decO geS (2::l)=none):=by
     unfold Hid;rw [hDec,if_neg (by rintro ⟨_,_,h⟩;exact heq (by rw [el.out,h]))]
    have HQ:=qI heq;clear hDec heq hr hrb hr6 hlo
    go_wp2_with ((first
     | (go_at_call 161;refine hq.mono ?_;rintro e w7 ⟨v7,n7,rfl,hv7,rfl⟩;obtain rfl:v7=false:=Bool.eq_false_iff.2 fun h=>HQ.out (hv7.1 h))
     | (refine Z3 (by rfl) _ (.tmp 2) (.tmp 43) rfl w.heap.size zcells rfl rfl 40 zcells (hB7.drewN n7) (by kernel_rfl) rfl (by decide) ?_;intro w8 hB8 hg8)))
    have hl:=Go.run_loadVar_row (P:=Tryz.prog) w8 w.heap.size 40 40 zcells.toArray (0,0) _ hB8 Tryz.underlying40 rfl (by kernel_rfl);rw [HD.out];have hg9:w6.grownBy w8 (some w.heap.size):=⟨hg8.os,hg8.tape,hg8.output,hg8.size,hg8.block⟩;refine bodyPost_ret (v:=.tuple #[.agg zcells.toArray,.int .i64 2]) ?_ rfl ⟨rfl,hbe.grown hg9 hbe.size (fun k hk=>by cases hk;exact lR _)⟩;simp [results,Tryz.results96,asAddr,hl]
 ·have hDec:=Z1p (ge:=geS) hPo.out
  have HD:Hid (decO geS (2::l)=none):=by
   unfold Hid;rw [hDec,if_neg (by rw [hck];simp)]
  clear hDec
  cases b3 with
  | true=>
   have e2:w6.cell? ⟨w.heap.size+1,1,none⟩=some (.int .i64 2):=e1;clear e1;go_wp2_with ((refine Z3 (by rfl) _ (.tmp 2) (.tmp 43) rfl w.heap.size zcells rfl rfl 40 zcells hB7 (by kernel_rfl) rfl (by decide) ?_;intro w8 hB8 hg8));have hl:=Go.run_loadVar_row (P:=Tryz.prog) w8 w.heap.size 40 40 zcells.toArray (0,0) _ hB8 Tryz.underlying40 rfl (by kernel_rfl);rw [show decO geS (2::l)=none from HD.out];refine bodyPost_ret (v:=.tuple #[.agg zcells.toArray,.int .i64 2]) ?_ rfl ⟨rfl,hbe.grown hg8 hbe.size (fun k hk=>by cases hk;exact lR _)⟩;simp [results,Tryz.results96,asAddr,hl]
  | false=>
   have e2:w6.cell? ⟨w.heap.size+1,1,none⟩=some (.int .i64 0):=e1;clear e1;go_wp2_with ((refine Z3 (by rfl) _ (.tmp 2) (.tmp 43) rfl w.heap.size zcells rfl rfl 40 zcells hB7 (by kernel_rfl) rfl (by decide) ?_;intro w8 hB8 hg8));have hl:=Go.run_loadVar_row (P:=Tryz.prog) w8 w.heap.size 40 40 zcells.toArray (0,0) _ hB8 Tryz.underlying40 rfl (by kernel_rfl);rw [show decO geS (2::l)=none from HD.out];refine bodyPost_ret (v:=.tuple #[.agg zcells.toArray,.int .i64 2]) ?_ rfl ⟨rfl,hbe.grown hg8 hbe.size (fun k hk=>by cases hk;exact lR _)⟩;simp [results,Tryz.results96,asAddr,hl]
theorem Z8i (A:OA) (l:LU) (n c:Nat) (w:World) (hn:n=l.length+1) (hr:Rd w w.heap.size 1 A n (bc (3::l))) (hc:n≤c) (hcm:c≤maxLen) (hl:l.length≤140737488351231):
  Calls Tryz.prog 96 #[.slice A n c] w (Z1E w (decO geS (3::l))):=by
 have d0:((n:Int)==0)=false:=beq_eq_false_iff_ne.2 (by omega);have hn0:(0:Int)<(n:Int):=by omega
 obtain ⟨m,A',c',em,jm,jm',⟨rm,km,km'⟩,_,_,_,sm⟩:=Z0V (k:=1) (l:=3::l) (c:=c) 1 rfl (by rw [List.length_cons,←hn];exact hr) (by simp) (by simp;omega) hcm;rw [List.length_cons,←hn] at sm jm;obtain ⟨g,off,rfl,hg,hcell⟩:=hr.at_ (by omega);have hml:m=l:=by rw [em.out];rfl
 have hb1:Below w.heap.size w (w.alloc (.cells #[.int .i64 0,.slice none 0 0,.slice none 0 0,.string ⟨#[]⟩,.slice none 0 0,.string ⟨#[]⟩,.string ⟨#[]⟩,.string ⟨#[]⟩,.int .i64 0,.string ⟨#[]⟩] 40)):=(bR _ _).alloc (lR _) _;have hb2:=hb1.alloc hb1.size (.cells #[.slice A' m.length c',.int .i64 0] 224);have hB1:=Blk.new w 40 zcells;have hB2:=hB1.alloc (.cells #[.slice A' m.length c',.int .i64 0] 224);have hR2:=Blk.new (w.alloc (.cells #[.int .i64 0,.slice none 0 0,.slice none 0 0,.string ⟨#[]⟩,.slice none 0 0,.string ⟨#[]⟩,.string ⟨#[]⟩,.string ⟨#[]⟩,.int .i64 0,.string ⟨#[]⟩] 40)) 224 [.slice A' m.length c',.int .i64 0];have s1:(w.alloc (.cells #[.int .i64 0,.slice none 0 0,.slice none 0 0,.string ⟨#[]⟩,.slice none 0 0,.string ⟨#[]⟩,.string ⟨#[]⟩,.string ⟨#[]⟩,.int .i64 0,.string ⟨#[]⟩] 40)).heap.size=w.heap.size+1:=by simp
 have s2:((w.alloc (.cells #[.int .i64 0,.slice none 0 0,.slice none 0 0,.string ⟨#[]⟩,.slice none 0 0,.string ⟨#[]⟩,.string ⟨#[]⟩,.string ⟨#[]⟩,.int .i64 0,.string ⟨#[]⟩] 40)).alloc (.cells #[.slice A' m.length c',.int .i64 0] 224)).heap.size=w.heap.size+2:=by simp
 rw [s1] at hR2;have hRs:Rs ((w.alloc (.cells #[.int .i64 0,.slice none 0 0,.slice none 0 0,.string ⟨#[]⟩,.slice none 0 0,.string ⟨#[]⟩,.string ⟨#[]⟩,.string ⟨#[]⟩,.int .i64 0,.string ⟨#[]⟩] 40)).alloc (.cells #[.slice A' m.length c',.int .i64 0] 224)) (w.heap.size+1) (w.heap.size+1) m false:=⟨A',c',hR2,Far.of_rd ((rm.below hb2).more (by omega)) (by omega),km,km',by omega,lR _⟩;have hx0:((w.alloc (.cells #[.int .i64 0,.slice none 0 0,.slice none 0 0,.string ⟨#[]⟩,.slice none 0 0,.string ⟨#[]⟩,.string ⟨#[]⟩,.string ⟨#[]⟩,.int .i64 0,.string ⟨#[]⟩] 40)).alloc (.cells #[.slice A' m.length c',.int .i64 0] 224)).cell? ⟨g,off,none⟩=some (.int .u8 3):=by
  have:=hcell 0 (.int .u8 3) rfl;rw [←this];exact hb2.cell (p:=⟨g,off,none⟩) hg
 have hx1:w.cell? ⟨g,off,none⟩=some (.int .u8 3):=hcell 0 (.int .u8 3) rfl;have hwx:IntKind.i64.wrap 3=3:=by rfl
 clear hcell;have HN:=qI hn;have HML:=qI hml;clear hn hml;go_in;go_wp2_with fail;refine (ZaN (w.heap.size+1) (w.heap.size+1) m _ hRs (by omega) (by have:=HML.out;rw [this];omega)).mono ?_;rintro e w3 ⟨⟨ko,d,en,tr,pa,ta,na,wh,st,te⟩,Ad,cd,Ae,ce,Ap,cp,l3,b3,rfl,hdn,hen,hpn,hR3,hP,hb3,hel,hpl,hps⟩;have hsh:=hP.out.2;injection hsh with x1 x2 x3 x4 x5 x6 x7 x8 x9 x10
 simp only [Obj.zero] at x1 x2 x3 x4 x5 x6 x7 x8 x9 x10;subst x1 x2 x3 x6 x7;have hPo:=qI hP.out.1;rw [HML.out] at hPo;clear hP;dsimp only at hel hpl hps hdn hen hpn ⊢;go_wp2_with fail;refine (Z6q none 0 0 none 0 0 tr Ap pa.length cp ⟨#[]⟩ ⟨#[]⟩ wh st te w3).mono ?_;rintro e w4 ⟨rfl,hb4⟩;have hs3:=hb3.size;have hb34:=hb3.trans (hb4.mono (by omega));have hR4:=hR3.below hb4;have hd4':=hdn.below hb4;have he4':=hen.below hb4;have hp4':=hpn.below hb4;have hbo:Below w4.heap.size w4 (w4.alloc (.cells #[.int .i64 3,.slice none 0 0,.slice none 0 0,.string tr,.slice Ap pa.length cp,.string ⟨#[]⟩,.string ⟨#[]⟩,.string wh,.int .i64 st,.string te] 40)):=(bR _ _).alloc (lR _) _;have hO:=Blk.new w4 40 [.int .i64 3,.slice none 0 0,.slice none 0 0,.string tr,.slice Ap pa.length cp,.string ⟨#[]⟩,.string ⟨#[]⟩,.string wh,.int .i64 st,.string te];have hd4:=hd4'.1.alive hbo;have he4:=he4'.1.alive hbo;have hp4:=hp4'.1.alive hbo;have hB4:=hB2.below hb34 (by omega);have hE:=Z28 3 none [] 0 none [] 0 tr Ap pa cp ⟨#[]⟩ ⟨#[]⟩ wh st te (w4.alloc (.cells #[.int .i64 3,.slice none 0 0,.slice none 0 0,.string tr,.slice Ap pa.length cp,.string ⟨#[]⟩,.string ⟨#[]⟩,.string wh,.int .i64 st,.string te] 40)) Rd.nil Rd.nil hp4 (zL _) (lT hpl (by decide)) hps;obtain ⟨z0,z1,z2,z3,z4,z5,z6,z7,z8,z9⟩:=Z2 hO;clear hRs hx0 hx1 hR2 hB1;go_wp2_with fail;refine hE.mono ?_;rintro e w6 ⟨hb6,hR6⟩;have hb46:=hbo.next hb6;have hR7:=hR4.below hb46;have hB7:=hB4.below hb46 hB4.lt;have hO7:=hO.below hb6 hO.lt;have hs34:=hb34.size;have hbe:Below w.heap.size w w6:=hb2.trans ((hb34.mono (by omega)).trans (hb46.mono (by omega)));obtain ⟨Ar,cr,hRb,_⟩:=id hR7;have e1:w6.cell? ⟨w.heap.size+1,1,none⟩=some (.int .i64 (errB b3)):=by rw [hRb.cell];rfl
 clear z0 z1 z2 z3 z4 z5 z6 z7 z8 z9 hE;rcases hR6 with ⟨hck,lo,Ao,co,el,rfl,ho6⟩ | ⟨hck,rfl⟩
 ·have hDec:=Z1p (ge:=geS) hPo.out
  have HCK:=qI hck
  cases b3 with
  | true=>
   have e2:w6.cell? ⟨w.heap.size+1,1,none⟩=some (.int .i64 2):=e1;have HD:Hid (decO geS (3::l)=none):=by
    unfold Hid;rw [hDec,if_neg (by simp)]
   clear e1 hDec hck;go_wp2_with ((refine Z3 (by rfl) _ (.tmp 2) (.tmp 43) rfl w.heap.size zcells rfl rfl 40 zcells hB7 (by kernel_rfl) rfl (by decide) ?_;intro w8 hB8 hg8));have hl:=Go.run_loadVar_row (P:=Tryz.prog) w8 w.heap.size 40 40 zcells.toArray (0,0) _ hB8 Tryz.underlying40 rfl (by kernel_rfl);rw [show decO geS (3::l)=none from HD.out];refine bodyPost_ret (v:=.tuple #[.agg zcells.toArray,.int .i64 2]) ?_ rfl ⟨rfl,hbe.grown hg8 hbe.size (fun k hk=>by cases hk;exact lR _)⟩;simp [results,Tryz.results96,asAddr,hl]
  | false=>
   have e2:w6.cell? ⟨w.heap.size+1,1,none⟩=some (.int .i64 0):=e1;clear e1;have hr6:=Rd.of_own ho6;have hrb:Rd w6 w6.heap.size 1 (some ⟨g,off,none⟩) (3::l).length (bc (3::l)):=by
    have:=(hr.below hbe).more hbe.size;rwa [HN.out] at this
   have hlo:lo.length≤140737488355328:=by
    by_cases h:lo.length≤140737488355328
    ·exact h
    ·exfalso
     have h1:=el.out;have h2:=Z4q hck;rw [←h1] at h2;omega
   have hnl:n=(3::l).length:=by rw [List.length_cons];exact HN.out
   have hq:=Z24 Ao lo co (some ⟨g,off,none⟩) (3::l) c w6 _ _ hr6 hrb hlo (by simp;omega);rw [←hnl] at hq;have HNL:=qI hnl;clear hck hnl
   by_cases heq:lo=3::l
   ·have HD:Hid (decO geS (3::l)=some ⟨3,[],[],tr,pa,⟨#[]⟩,⟨#[]⟩,wh,st,te⟩):=by
     unfold Hid;rw [hDec,if_pos ⟨rfl,HCK.out,by rw [←el.out];exact heq⟩]
    have HQ:=qI heq;clear hDec heq hr hrb hr6 hlo;obtain ⟨z0,z1,z2,z3,z4,z5,z6,z7,z8,z9⟩:=Z2 hO7
    go_wp2_with ((first
     | (go_at_call 161;refine hq.mono ?_;rintro e w7 ⟨v7,n7,rfl,hv7,rfl⟩;obtain rfl:=hv7.2 HQ.out)
     | (refine Z3 (by rfl) _ (.tmp 2) (.tmp 44) rfl w.heap.size [.int .i64 3,.slice none 0 0,.slice none 0 0,.string tr,.slice Ap pa.length cp,.string ⟨#[]⟩,.string ⟨#[]⟩,.string wh,.int .i64 st,.string te] rfl rfl 40 zcells (hB7.drewN n7) (by kernel_rfl) rfl (Z5u _ _ _ _ _ _ _ _ _ _ rfl rfl rfl) ?_;intro w8 hB8 hg8)))
    have hl:=Go.run_loadVar_row (P:=Tryz.prog) w8 w.heap.size 40 40 #[.int .i64 3,.slice none 0 0,.slice none 0 0,.string tr,.slice Ap pa.length cp,.string ⟨#[]⟩,.string ⟨#[]⟩,.string wh,.int .i64 st,.string te] (0,0) _ hB8 Tryz.underlying40 rfl (by kernel_rfl);rw [HD.out];have hg9:w6.grownBy w8 (some w.heap.size):=⟨hg8.os,hg8.tape,hg8.output,hg8.size,hg8.block⟩;have hb9:Below w.heap.size w w8:=hbe.grown hg9 hbe.size (fun k hk=>by cases hk;exact lR _);refine bodyPost_ret (v:=.tuple #[.agg #[.int .i64 3,.slice none 0 0,.slice none 0 0,.string tr,.slice Ap pa.length cp,.string ⟨#[]⟩,.string ⟨#[]⟩,.string wh,.int .i64 st,.string te],.int .i64 0]) ?_ rfl ⟨3,none,[],0,none,[],0,tr,Ap,pa,cp,⟨#[]⟩,⟨#[]⟩,wh,st,te,rfl,rfl,RdN.nil,RdN.nil,((((hpn.below hb4).below hb46).apart hg9 (by omega)).lower (by omega)),hb9,(zL _),(lT hpl (by decide)),hps⟩;simp [results,Tryz.results96,asAddr,hl]
   ·have HD:Hid (decO geS (3::l)=none):=by
     unfold Hid;rw [hDec,if_neg (by rintro ⟨_,_,h⟩;exact heq (by rw [el.out,h]))]
    have HQ:=qI heq;clear hDec heq hr hrb hr6 hlo
    go_wp2_with ((first
     | (go_at_call 161;refine hq.mono ?_;rintro e w7 ⟨v7,n7,rfl,hv7,rfl⟩;obtain rfl:v7=false:=Bool.eq_false_iff.2 fun h=>HQ.out (hv7.1 h))
     | (refine Z3 (by rfl) _ (.tmp 2) (.tmp 43) rfl w.heap.size zcells rfl rfl 40 zcells (hB7.drewN n7) (by kernel_rfl) rfl (by decide) ?_;intro w8 hB8 hg8)))
    have hl:=Go.run_loadVar_row (P:=Tryz.prog) w8 w.heap.size 40 40 zcells.toArray (0,0) _ hB8 Tryz.underlying40 rfl (by kernel_rfl);rw [HD.out];have hg9:w6.grownBy w8 (some w.heap.size):=⟨hg8.os,hg8.tape,hg8.output,hg8.size,hg8.block⟩;refine bodyPost_ret (v:=.tuple #[.agg zcells.toArray,.int .i64 2]) ?_ rfl ⟨rfl,hbe.grown hg9 hbe.size (fun k hk=>by cases hk;exact lR _)⟩;simp [results,Tryz.results96,asAddr,hl]
 ·have hDec:=Z1p (ge:=geS) hPo.out
  have HD:Hid (decO geS (3::l)=none):=by
   unfold Hid;rw [hDec,if_neg (by rw [hck];simp)]
  clear hDec
  cases b3 with
  | true=>
   have e2:w6.cell? ⟨w.heap.size+1,1,none⟩=some (.int .i64 2):=e1;clear e1;go_wp2_with ((refine Z3 (by rfl) _ (.tmp 2) (.tmp 43) rfl w.heap.size zcells rfl rfl 40 zcells hB7 (by kernel_rfl) rfl (by decide) ?_;intro w8 hB8 hg8));have hl:=Go.run_loadVar_row (P:=Tryz.prog) w8 w.heap.size 40 40 zcells.toArray (0,0) _ hB8 Tryz.underlying40 rfl (by kernel_rfl);rw [show decO geS (3::l)=none from HD.out];refine bodyPost_ret (v:=.tuple #[.agg zcells.toArray,.int .i64 2]) ?_ rfl ⟨rfl,hbe.grown hg8 hbe.size (fun k hk=>by cases hk;exact lR _)⟩;simp [results,Tryz.results96,asAddr,hl]
  | false=>
   have e2:w6.cell? ⟨w.heap.size+1,1,none⟩=some (.int .i64 0):=e1;clear e1;go_wp2_with ((refine Z3 (by rfl) _ (.tmp 2) (.tmp 43) rfl w.heap.size zcells rfl rfl 40 zcells hB7 (by kernel_rfl) rfl (by decide) ?_;intro w8 hB8 hg8));have hl:=Go.run_loadVar_row (P:=Tryz.prog) w8 w.heap.size 40 40 zcells.toArray (0,0) _ hB8 Tryz.underlying40 rfl (by kernel_rfl);rw [show decO geS (3::l)=none from HD.out];refine bodyPost_ret (v:=.tuple #[.agg zcells.toArray,.int .i64 2]) ?_ rfl ⟨rfl,hbe.grown hg8 hbe.size (fun k hk=>by cases hk;exact lR _)⟩;simp [results,Tryz.results96,asAddr,hl]
theorem Z8j (A:OA) (l:LU) (n c:Nat) (w:World) (hn:n=l.length+1) (hr:Rd w w.heap.size 1 A n (bc (4::l))) (hc:n≤c) (hcm:c≤maxLen) (hl:l.length≤140737488351231):
  Calls Tryz.prog 96 #[.slice A n c] w (Z1E w (decO geS (4::l))):=by
 have d0:((n:Int)==0)=false:=beq_eq_false_iff_ne.2 (by omega);have hn0:(0:Int)<(n:Int):=by omega
 obtain ⟨m,A',c',em,jm,jm',⟨rm,km,km'⟩,_,_,_,sm⟩:=Z0V (k:=1) (l:=4::l) (c:=c) 1 rfl (by rw [List.length_cons,←hn];exact hr) (by simp) (by simp;omega) hcm;rw [List.length_cons,←hn] at sm jm;obtain ⟨g,off,rfl,hg,hcell⟩:=hr.at_ (by omega);have hml:m=l:=by rw [em.out];rfl
 have hb1:Below w.heap.size w (w.alloc (.cells #[.int .i64 0,.slice none 0 0,.slice none 0 0,.string ⟨#[]⟩,.slice none 0 0,.string ⟨#[]⟩,.string ⟨#[]⟩,.string ⟨#[]⟩,.int .i64 0,.string ⟨#[]⟩] 40)):=(bR _ _).alloc (lR _) _;have hb2:=hb1.alloc hb1.size (.cells #[.slice A' m.length c',.int .i64 0] 224);have hB1:=Blk.new w 40 zcells;have hB2:=hB1.alloc (.cells #[.slice A' m.length c',.int .i64 0] 224);have hR2:=Blk.new (w.alloc (.cells #[.int .i64 0,.slice none 0 0,.slice none 0 0,.string ⟨#[]⟩,.slice none 0 0,.string ⟨#[]⟩,.string ⟨#[]⟩,.string ⟨#[]⟩,.int .i64 0,.string ⟨#[]⟩] 40)) 224 [.slice A' m.length c',.int .i64 0];have s1:(w.alloc (.cells #[.int .i64 0,.slice none 0 0,.slice none 0 0,.string ⟨#[]⟩,.slice none 0 0,.string ⟨#[]⟩,.string ⟨#[]⟩,.string ⟨#[]⟩,.int .i64 0,.string ⟨#[]⟩] 40)).heap.size=w.heap.size+1:=by simp
 have s2:((w.alloc (.cells #[.int .i64 0,.slice none 0 0,.slice none 0 0,.string ⟨#[]⟩,.slice none 0 0,.string ⟨#[]⟩,.string ⟨#[]⟩,.string ⟨#[]⟩,.int .i64 0,.string ⟨#[]⟩] 40)).alloc (.cells #[.slice A' m.length c',.int .i64 0] 224)).heap.size=w.heap.size+2:=by simp
 rw [s1] at hR2;have hRs:Rs ((w.alloc (.cells #[.int .i64 0,.slice none 0 0,.slice none 0 0,.string ⟨#[]⟩,.slice none 0 0,.string ⟨#[]⟩,.string ⟨#[]⟩,.string ⟨#[]⟩,.int .i64 0,.string ⟨#[]⟩] 40)).alloc (.cells #[.slice A' m.length c',.int .i64 0] 224)) (w.heap.size+1) (w.heap.size+1) m false:=⟨A',c',hR2,Far.of_rd ((rm.below hb2).more (by omega)) (by omega),km,km',by omega,lR _⟩;have hx0:((w.alloc (.cells #[.int .i64 0,.slice none 0 0,.slice none 0 0,.string ⟨#[]⟩,.slice none 0 0,.string ⟨#[]⟩,.string ⟨#[]⟩,.string ⟨#[]⟩,.int .i64 0,.string ⟨#[]⟩] 40)).alloc (.cells #[.slice A' m.length c',.int .i64 0] 224)).cell? ⟨g,off,none⟩=some (.int .u8 4):=by
  have:=hcell 0 (.int .u8 4) rfl;rw [←this];exact hb2.cell (p:=⟨g,off,none⟩) hg
 have hx1:w.cell? ⟨g,off,none⟩=some (.int .u8 4):=hcell 0 (.int .u8 4) rfl;have hwx:IntKind.i64.wrap 4=4:=by rfl
 clear hcell;have HN:=qI hn;have HML:=qI hml;clear hn hml;go_in;go_wp2_with fail;refine (ZaO (w.heap.size+1) (w.heap.size+1) m _ hRs (by omega) (by have:=HML.out;rw [this];omega)).mono ?_;rintro e w3 ⟨⟨ko,d,en,tr,pa,ta,na,wh,st,te⟩,Ad,cd,Ae,ce,Ap,cp,l3,b3,rfl,hdn,hen,hpn,hR3,hP,hb3,hel,hpl,hps⟩;have hsh:=hP.out.2;injection hsh with x1 x2 x3 x4 x5 x6 x7 x8 x9 x10
 simp only [Obj.zero] at x1 x2 x3 x4 x5 x6 x7 x8 x9 x10;subst x1 x2 x3 x4 x5;have hPo:=qI hP.out.1;rw [HML.out] at hPo;clear hP;dsimp only at hel hpl hps hdn hen hpn ⊢;go_wp2_with fail;refine (Z6r none 0 0 none 0 0 ⟨#[]⟩ none 0 0 ta na wh st te w3).mono ?_;rintro e w4 ⟨rfl,hb4⟩;have hs3:=hb3.size;have hb34:=hb3.trans (hb4.mono (by omega));have hR4:=hR3.below hb4;have hd4':=hdn.below hb4;have he4':=hen.below hb4;have hp4':=hpn.below hb4;have hbo:Below w4.heap.size w4 (w4.alloc (.cells #[.int .i64 4,.slice none 0 0,.slice none 0 0,.string ⟨#[]⟩,.slice none 0 0,.string ta,.string na,.string wh,.int .i64 st,.string te] 40)):=(bR _ _).alloc (lR _) _;have hO:=Blk.new w4 40 [.int .i64 4,.slice none 0 0,.slice none 0 0,.string ⟨#[]⟩,.slice none 0 0,.string ta,.string na,.string wh,.int .i64 st,.string te];have hd4:=hd4'.1.alive hbo;have he4:=he4'.1.alive hbo;have hp4:=hp4'.1.alive hbo;have hB4:=hB2.below hb34 (by omega);have hE:=Z28 4 none [] 0 none [] 0 ⟨#[]⟩ none [] 0 ta na wh st te (w4.alloc (.cells #[.int .i64 4,.slice none 0 0,.slice none 0 0,.string ⟨#[]⟩,.slice none 0 0,.string ta,.string na,.string wh,.int .i64 st,.string te] 40)) Rd.nil Rd.nil Rd.nil (zL _) (zL _) (qI (by simp));obtain ⟨z0,z1,z2,z3,z4,z5,z6,z7,z8,z9⟩:=Z2 hO;clear hRs hx0 hx1 hR2 hB1;go_wp2_with fail;refine hE.mono ?_;rintro e w6 ⟨hb6,hR6⟩;have hb46:=hbo.next hb6;have hR7:=hR4.below hb46;have hB7:=hB4.below hb46 hB4.lt;have hO7:=hO.below hb6 hO.lt;have hs34:=hb34.size;have hbe:Below w.heap.size w w6:=hb2.trans ((hb34.mono (by omega)).trans (hb46.mono (by omega)));obtain ⟨Ar,cr,hRb,_⟩:=id hR7;have e1:w6.cell? ⟨w.heap.size+1,1,none⟩=some (.int .i64 (errB b3)):=by rw [hRb.cell];rfl
 clear z0 z1 z2 z3 z4 z5 z6 z7 z8 z9 hE;rcases hR6 with ⟨hck,lo,Ao,co,el,rfl,ho6⟩ | ⟨hck,rfl⟩
 ·have hDec:=Z1p (ge:=geS) hPo.out
  have HCK:=qI hck
  cases b3 with
  | true=>
   have e2:w6.cell? ⟨w.heap.size+1,1,none⟩=some (.int .i64 2):=e1;have HD:Hid (decO geS (4::l)=none):=by
    unfold Hid;rw [hDec,if_neg (by simp)]
   clear e1 hDec hck;go_wp2_with ((refine Z3 (by rfl) _ (.tmp 2) (.tmp 43) rfl w.heap.size zcells rfl rfl 40 zcells hB7 (by kernel_rfl) rfl (by decide) ?_;intro w8 hB8 hg8));have hl:=Go.run_loadVar_row (P:=Tryz.prog) w8 w.heap.size 40 40 zcells.toArray (0,0) _ hB8 Tryz.underlying40 rfl (by kernel_rfl);rw [show decO geS (4::l)=none from HD.out];refine bodyPost_ret (v:=.tuple #[.agg zcells.toArray,.int .i64 2]) ?_ rfl ⟨rfl,hbe.grown hg8 hbe.size (fun k hk=>by cases hk;exact lR _)⟩;simp [results,Tryz.results96,asAddr,hl]
  | false=>
   have e2:w6.cell? ⟨w.heap.size+1,1,none⟩=some (.int .i64 0):=e1;clear e1;have hr6:=Rd.of_own ho6;have hrb:Rd w6 w6.heap.size 1 (some ⟨g,off,none⟩) (4::l).length (bc (4::l)):=by
    have:=(hr.below hbe).more hbe.size;rwa [HN.out] at this
   have hlo:lo.length≤140737488355328:=by
    by_cases h:lo.length≤140737488355328
    ·exact h
    ·exfalso
     have h1:=el.out;have h2:=Z4q hck;rw [←h1] at h2;omega
   have hnl:n=(4::l).length:=by rw [List.length_cons];exact HN.out
   have hq:=Z24 Ao lo co (some ⟨g,off,none⟩) (4::l) c w6 _ _ hr6 hrb hlo (by simp;omega);rw [←hnl] at hq;have HNL:=qI hnl;clear hck hnl
   by_cases heq:lo=4::l
   ·have HD:Hid (decO geS (4::l)=some ⟨4,[],[],⟨#[]⟩,[],ta,na,wh,st,te⟩):=by
     unfold Hid;rw [hDec,if_pos ⟨rfl,HCK.out,by rw [←el.out];exact heq⟩]
    have HQ:=qI heq;clear hDec heq hr hrb hr6 hlo;obtain ⟨z0,z1,z2,z3,z4,z5,z6,z7,z8,z9⟩:=Z2 hO7
    go_wp2_with ((first
     | (go_at_call 161;refine hq.mono ?_;rintro e w7 ⟨v7,n7,rfl,hv7,rfl⟩;obtain rfl:=hv7.2 HQ.out)
     | (refine Z3 (by rfl) _ (.tmp 2) (.tmp 44) rfl w.heap.size [.int .i64 4,.slice none 0 0,.slice none 0 0,.string ⟨#[]⟩,.slice none 0 0,.string ta,.string na,.string wh,.int .i64 st,.string te] rfl rfl 40 zcells (hB7.drewN n7) (by kernel_rfl) rfl (Z5u _ _ _ _ _ _ _ _ _ _ rfl rfl rfl) ?_;intro w8 hB8 hg8)))
    have hl:=Go.run_loadVar_row (P:=Tryz.prog) w8 w.heap.size 40 40 #[.int .i64 4,.slice none 0 0,.slice none 0 0,.string ⟨#[]⟩,.slice none 0 0,.string ta,.string na,.string wh,.int .i64 st,.string te] (0,0) _ hB8 Tryz.underlying40 rfl (by kernel_rfl);rw [HD.out];have hg9:w6.grownBy w8 (some w.heap.size):=⟨hg8.os,hg8.tape,hg8.output,hg8.size,hg8.block⟩;have hb9:Below w.heap.size w w8:=hbe.grown hg9 hbe.size (fun k hk=>by cases hk;exact lR _);refine bodyPost_ret (v:=.tuple #[.agg #[.int .i64 4,.slice none 0 0,.slice none 0 0,.string ⟨#[]⟩,.slice none 0 0,.string ta,.string na,.string wh,.int .i64 st,.string te],.int .i64 0]) ?_ rfl ⟨4,none,[],0,none,[],0,⟨#[]⟩,none,[],0,ta,na,wh,st,te,rfl,rfl,RdN.nil,RdN.nil,RdN.nil,hb9,(zL _),(zL _),(qI (by simp))⟩;simp [results,Tryz.results96,asAddr,hl]
   ·have HD:Hid (decO geS (4::l)=none):=by
     unfold Hid;rw [hDec,if_neg (by rintro ⟨_,_,h⟩;exact heq (by rw [el.out,h]))]
    have HQ:=qI heq;clear hDec heq hr hrb hr6 hlo
    go_wp2_with ((first
     | (go_at_call 161;refine hq.mono ?_;rintro e w7 ⟨v7,n7,rfl,hv7,rfl⟩;obtain rfl:v7=false:=Bool.eq_false_iff.2 fun h=>HQ.out (hv7.1 h))
     | (refine Z3 (by rfl) _ (.tmp 2) (.tmp 43) rfl w.heap.size zcells rfl rfl 40 zcells (hB7.drewN n7) (by kernel_rfl) rfl (by decide) ?_;intro w8 hB8 hg8)))
    have hl:=Go.run_loadVar_row (P:=Tryz.prog) w8 w.heap.size 40 40 zcells.toArray (0,0) _ hB8 Tryz.underlying40 rfl (by kernel_rfl);rw [HD.out];have hg9:w6.grownBy w8 (some w.heap.size):=⟨hg8.os,hg8.tape,hg8.output,hg8.size,hg8.block⟩;refine bodyPost_ret (v:=.tuple #[.agg zcells.toArray,.int .i64 2]) ?_ rfl ⟨rfl,hbe.grown hg9 hbe.size (fun k hk=>by cases hk;exact lR _)⟩;simp [results,Tryz.results96,asAddr,hl]
 ·have hDec:=Z1p (ge:=geS) hPo.out
  have HD:Hid (decO geS (4::l)=none):=by
   unfold Hid;rw [hDec,if_neg (by rw [hck];simp)]
  clear hDec
  cases b3 with
  | true=>
   have e2:w6.cell? ⟨w.heap.size+1,1,none⟩=some (.int .i64 2):=e1;clear e1;go_wp2_with ((refine Z3 (by rfl) _ (.tmp 2) (.tmp 43) rfl w.heap.size zcells rfl rfl 40 zcells hB7 (by kernel_rfl) rfl (by decide) ?_;intro w8 hB8 hg8));have hl:=Go.run_loadVar_row (P:=Tryz.prog) w8 w.heap.size 40 40 zcells.toArray (0,0) _ hB8 Tryz.underlying40 rfl (by kernel_rfl);rw [show decO geS (4::l)=none from HD.out];refine bodyPost_ret (v:=.tuple #[.agg zcells.toArray,.int .i64 2]) ?_ rfl ⟨rfl,hbe.grown hg8 hbe.size (fun k hk=>by cases hk;exact lR _)⟩;simp [results,Tryz.results96,asAddr,hl]
  | false=>
   have e2:w6.cell? ⟨w.heap.size+1,1,none⟩=some (.int .i64 0):=e1;clear e1;go_wp2_with ((refine Z3 (by rfl) _ (.tmp 2) (.tmp 43) rfl w.heap.size zcells rfl rfl 40 zcells hB7 (by kernel_rfl) rfl (by decide) ?_;intro w8 hB8 hg8));have hl:=Go.run_loadVar_row (P:=Tryz.prog) w8 w.heap.size 40 40 zcells.toArray (0,0) _ hB8 Tryz.underlying40 rfl (by kernel_rfl);rw [show decO geS (4::l)=none from HD.out];refine bodyPost_ret (v:=.tuple #[.agg zcells.toArray,.int .i64 2]) ?_ rfl ⟨rfl,hbe.grown hg8 hbe.size (fun k hk=>by cases hk;exact lR _)⟩;simp [results,Tryz.results96,asAddr,hl]
theorem Z3m (A:OA) (b:LU) (c:Nat) (w:World) (hr:Rd w w.heap.size 1 A b.length (bc b)) (hc:b.length≤c) (hcm:c≤maxLen) (hl:b.length≤140737488351232):
  Calls Tryz.prog 96 #[.slice A b.length c] w (Z1E w (decO geS b)):=by
 cases b with
 | nil=>exact Z8f A c w
 | cons x l=>
  have hll:l.length≤140737488351231:=by rw [List.length_cons] at hl;omega
  by_cases h1:x=1
  ·subst h1
   exact Z8g A l _ c w rfl hr hc hcm hll
  by_cases h2:x=2
  ·subst h2
   exact Z8h A l _ c w rfl hr hc hcm hll
  by_cases h3:x=3
  ·subst h3
   exact Z8i A l _ c w rfl hr hc hcm hll
  by_cases h4:x=4
  ·subst h4
   exact Z8j A l _ c w rfl hr hc hcm hll
  have hd:decO geS (x::l)=none:=by
   have hp:Z7n (x::l)=none:=by
    show ZN x l=none
    unfold ZN;rw [if_neg h1,if_neg h2,if_neg h3,if_neg h4]
   unfold decO;rw [hp]
  rw [hd];exact Z8d A x l _ c w rfl hr hc hcm h1 h2 h3 h4
end Go.Proofs.YtecpbcmpncgokaaGreat
