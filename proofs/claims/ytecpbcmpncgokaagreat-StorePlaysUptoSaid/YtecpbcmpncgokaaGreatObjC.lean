/- Walks and laws. Conditions: as stated. -/
import Derived.Test.YtecpbcmpncgokaaGreatRefT
set_option maxRecDepth 99999
set_option maxHeartbeats 25600000
set_option linter.all false
open Go.Value renaming slice->it
open Go.Proofs.Tryz renaming prog->an
open Go.RowKit Go.Dol
namespace Go.Dol
def Took {a:Type} (c:Option (a×LU)) (b:Bool) (v:a) (e:LU) (d:Bool):Prop:=(d=true/\(b=true\/c=none))\/(d=false/\b=false/\c=some (v,e))
theorem Took.good {c:Type} {t b b'} {v:c} {l'} (a:Took t b v l' b') (d:b'=false):b=false/\t=some (v,l'):=by
 rcases a with a | a
 ·rw [d] at a;cases a.1
 exact a.2
theorem Took.stay {c:Type} {t b b'} {v:c} {l'} (a:Took t b v l' b') (d:b=true):b'=true:=by
 rcases a with a | a
 ·exact a.1
 rw [d] at a;cases a.2.1
theorem gV {a:Type} {t} {v:a} {l'} (b) (c:t=some (v,l')):Took t b v l' b:=by
 cases b
 ·exact .inr ⟨rfl,rfl,c⟩
 exact .inl ⟨rfl,.inl rfl⟩
theorem iE {a:Type} {t} (b) (v:a) (l') (c:t=none):Took t b v l' true:=.inl ⟨rfl,.inr c⟩
def dH {a b c:Type} (d:Option (a×LU)) (s:LU->Option (b×LU)) (f:a->b->c):Option (c×LU):=
 match d with | none=>none | some (e,g)=>match s g with | none=>none | some (h,i)=>some (f e h,i)
theorem uA {a b d:Type} {v:a} {c:LU} {s:LU->Option (b×LU)} {f:a->b->d}:dH (some (v,c)) s f=match s c with | none=>none | some (u,e)=>some (f v u,e):=rfl
theorem Took.then {g h j:Type} {t b b1 b2} {v:g} {u:h} {l1 l2 s} (a:Took t b v l1 b1) (c:Took (s l1) b1 u l2 b2)
  {r} {f:g->h->j} (k:r=dH t s f):Took r b (f v u) l2 b2:=by
 subst k;rcases c with ⟨e,c⟩ | ⟨e,d,c⟩
 ·refine .inl ⟨e,?_⟩;rcases a with ⟨d,a⟩ | ⟨d,i,a⟩
  ·rcases a with a | a
   ·exact .inl a
   exact .inr (by rw [a];rfl)
  rcases c with c | c
  ·rw [d] at c;cases c
  exact .inr (by rw [a,uA,c])
 obtain ⟨i,a⟩:=a.good d;exact .inr ⟨e,i,by rw [a,uA,c]⟩
def lL {a:Type} (b:Option (a×LU)):Option (a×LU):=match b with | none=>none | some (c,_)=>some (c,[])
theorem Took.last {d:Type} {t b b'} {v:d} {l'} (a:Took t b v l' b'):Took (lL t) b v [] b':=by
 rcases a with ⟨c,a⟩ | ⟨c,e,a⟩
 ·refine .inl ⟨c,?_⟩;rcases a with a | a
  ·exact .inl a
  exact .inr (by rw [a];rfl)
 exact .inr ⟨c,e,by rw [a];rfl⟩
def oS (a:LU):Option ((LU×LU)×LU):=dH (bf 1 a) (bf 32) fun b c=>(b,c)
theorem EH (r):ds r=dH (bM r) oS fun nm u=>(⟨⟨nm.toArray⟩,decide (u.1=[1]),⟨u.2.toArray⟩⟩:Ent):=by
 unfold ds dH oS dH;cases bM r with
 | none=>rfl
 | some a=>
 obtain ⟨nm,b⟩:=a;simp only;cases bf 1 b with
 | none=>rfl
 | some a=>
 obtain ⟨d,c⟩:=a;simp only;cases bf 32 c with
 | none=>rfl
 | some a=>rfl
theorem uB {l l1 l2 l3 b b1 b2 b3 nm d i} (c:Took (bM l) b nm l1 b1) (e:Took (bf 1 l1) b1 d l2 b2) (g:Took (bf 32 l2) b2 i l3 b3):Took (ds l) b (⟨⟨nm.toArray⟩,decide (d=[1]),⟨i.toArray⟩⟩:Ent) l3 b3:=
 c.then (s:=oS) (u:=(d,i)) (f:=fun nm a=>(⟨⟨nm.toArray⟩,decide (a.1=[1]),⟨a.2.toArray⟩⟩:Ent)) (e.then (s:=bf 32) g (f:=fun d i=>(d,i)) rfl) (EH l)
def ei (r:LU):Option ((BA×Int×BA)×LU):=match gl r with | none=>none | some a=>some (a,[])
def oT (a:LU):Option ((Nat×LU)×LU):=dH (ad a) (fun b=>lL (bM b)) fun c d=>(c,d)
theorem EJ (r):ei r=dH (bM r) oT fun b u=>((⟨b.toArray⟩,(u.1:Int),⟨u.2.toArray⟩):BA×Int×BA):=by
 unfold ei gl dH oT dH lL;cases bM r with
 | none=>rfl
 | some a=>
 obtain ⟨e,c⟩:=a;simp only;cases ad c with
 | none=>rfl
 | some a=>
 obtain ⟨f,d⟩:=a;simp only;cases bM d with
 | none=>rfl
 | some a=>rfl
theorem oU {l l1 l2 l3 b b1 b2 b3 a text n} (d:Took (bM l) b a l1 b1) (e:Took (ad l1) b1 n l2 b2) (g:Took (bM l2) b2 text l3 b3):Took (ei l) b ((⟨a.toArray⟩,(n:Int),⟨text.toArray⟩):BA×Int×BA) [] b3:=
 d.then (s:=oT) (u:=(n,text)) (f:=fun a c=>((⟨a.toArray⟩,(c.1:Int),⟨c.2.toArray⟩):BA×Int×BA)) (e.then (s:=fun h=>lL (bM h)) g.last (f:=fun n i=>(n,i)) rfl) (EJ l)
def cW {a:Type} (f:LU->Option (a×LU)):Nat->LU->Option (List a×LU)
 | 0,r=>some ([],r)
 | n+1,r=>match f r with
  | none=>none
  | some (b,c)=>match cW f n c with
   | none=>none
   | some (l,d)=>some (b::l,d)
theorem uC: ∀(n:Nat) (r:LU),iw n r=cW ds n r
 | 0,_=>rfl
 | n+1,r=>by
  unfold iw cW;cases ds r with
  | none=>rfl
  | some p=>
  obtain ⟨b,a⟩:=p;simp only;rw [uC n a];cases cW ds n a with
  | none=>rfl
  | some p=>rfl
def dQ (r:LU):Option (BA×LU):=match bf 32 r with | none=>none | some (a,b)=>some (⟨a.toArray⟩,b)
theorem uD: ∀(n:Nat) (r:LU),ix n r=cW dQ n r
 | 0,_=>rfl
 | n+1,r=>by
  have b:dQ r=match bf 32 r with | none=>none | some (p,a)=>some (⟨p.toArray⟩,a):=rfl;unfold ix cW;rw [b];cases bf 32 r with
  | none=>rfl
  | some p=>
  obtain ⟨c,a⟩:=p;simp only;rw [uD n a];cases cW dQ n a with
  | none=>rfl
  | some p=>rfl
def Sofar {a:Type} (f:LU->Option (a×LU)) (c:Nat) (d:LU) (e:Bool) (acc:List a) (n:Nat) (r:LU) (b:Bool):Prop:=
 (b=true/\(e=true\/cW f c d=none))\/(b=false/\e=false/\cW f c d=match cW f n r with | none=>none | some (g,h)=>some (acc++g,h))
theorem Sofar.start {a:Type} (f:LU->Option (a×LU)) (N l0 b):Sofar f N l0 b [] N l0 b:=by
 cases b
 ·refine .inr ⟨rfl,rfl,?_⟩;split<;>simp_all
 exact .inl ⟨rfl,.inl rfl⟩
def Pz:=@Sofar.start
theorem Sofar.step {h:Type} {f N n l0 r r' b0 b b' acc} {v:h} (c:Sofar f N l0 b0 acc (n+1) r b) (g:Took (f r) b v r' b'):Sofar f N l0 b0 (acc++[v]) n r' b':=by
 rcases c with ⟨d,c⟩ | ⟨d,i,c⟩
 ·exact .inl ⟨g.stay d,c⟩
 rcases g with ⟨e,a⟩ | ⟨e,_,a⟩
 ·refine .inl ⟨e,.inr ?_⟩;rcases a with a | a
  ·rw [d] at a;cases a
  rw [c];unfold cW;simp only [a]
 refine .inr ⟨e,i,?_⟩;rw [c]
 conv=>lhs;unfold cW
 simp only [a];cases cW f n r' with
 | none=>rfl
 | some j=>simp [g9]
theorem Sofar.done {e:Type} {f:LU->Option (e×LU)} {N n} {g r:LU} {b0 b} {acc:List e} (c:Sofar f N g b0 acc n r b) (a:n=0\/b=true):Took (cW f N g) b0 acc r b:=by
 rcases c with ⟨d,c⟩ | ⟨d,h,c⟩
 ·exact .inl ⟨d,c⟩
 rcases a with a | a
 ·subst a;refine .inr ⟨d,h,?_⟩;rw [c];simp [cW]
 rw [d] at a;cases a
theorem uE {p t rest} (a:ad p=some (t,rest)):rest.length<p.length:=by
 obtain ⟨rfl,_⟩:=ch a;have:=kC t;rw [b7];omega
theorem oV {n l a r} (b:bf n l=some (a,r)):a.length=n/\r.length+n=l.length:=by
 unfold bf at b;split at b
 ·cases b
 injection b with b;injection b with c d;subst c;subst d;simp only [b9,b8];omega
def eT {a:Type} (f:LU->Option (a×LU)) (l:LU):Option (List a×LU):=match ad l with | none=>none | some (b,c)=>cW f b c
theorem jL {g:Type} {f:LU->Option (g×LU)} {l l1 l2 b b1 b2 n} {v:List g} (a:Took (ad l) b n l1 b1) (c:Took (cW f n l1) b1 v l2 b2):Took (eT f l) b v l2 b2:=by
 rcases c with ⟨e,c⟩ | ⟨e,d,c⟩
 ·refine .inl ⟨e,?_⟩;rcases a with ⟨d,a⟩ | ⟨d,h,a⟩
  ·rcases a with a | a
   ·exact .inl a
   exact .inr (by unfold eT;rw [a])
  rcases c with c | c
  ·rw [d] at c;cases c
  exact .inr (by unfold eT;rw [a];exact c)
 obtain ⟨h,a⟩:=a.good d;exact .inr ⟨e,h,by unfold eT;rw [a];exact c⟩
def fl (p:Option Obj) (a:Obj) (b:Bool):Prop:=(b=true/\p=none)\/(b=false/\p=some a)
def lM {a:Type} (b:Option (a×LU)) (f:a->Obj):Option Obj:=match b with | none=>none | some (v,_)=>some (f v)
theorem oW {d:Type} {t p} {f:d->Obj} {v:d} {l' b} (a:Took t false v l' b) (e:p=lM t f):fl p (f v) b:=by
 subst e;rcases a with ⟨c,a⟩ | ⟨c,_,a⟩
 ·refine .inl ⟨c,?_⟩;rcases a with a | a
  ·cases a
  rw [a];rfl
 exact .inr ⟨c,by rw [a];rfl⟩
theorem oX {l l' a b} (d:Took (eT ds l) false a l' b):fl (jB l) { Obj.zero with kind:=2,ents:=a } b:=
 oW (f:=fun a=>{ Obj.zero with kind:=2,ents:=a }) d (by
  unfold jB lM eT;cases ad l with
  | none=>rfl
  | some c=>
   obtain ⟨e,g⟩:=c;simp only;rw [uC];cases cW ds e g with
   | none=>rfl
   | some c=>rfl)
def uF (a:LU):Option ((List BA×(BA×Int×BA))×LU):=dH (eT dQ a) ei fun b c=>(b,c)
theorem uG {l l1 l2 l3 b pa v b1 b2 b3} (d:Took (bf 32 l) false b l1 b1) (e:Took (eT dQ l1) b1 pa l2 b2) (g:Took (ei l2) b2 v l3 b3):
  fl (jC l) { Obj.zero with kind:=3,tree:=⟨b.toArray⟩,pars:=pa,who:=v.1,stamp:=v.2.1,text:=v.2.2 } b3:=
 oW (f:=fun c:LU×(List BA×(BA×Int×BA))=>{ Obj.zero with kind:=3,tree:=⟨c.1.toArray⟩,pars:=c.2.1,who:=c.2.2.1,stamp:=c.2.2.2.1,text:=c.2.2.2.2 })
  (d.then (s:=uF) (u:=(pa,v)) (f:=fun b h=>(b,h)) (e.then (s:=ei) g (f:=fun l v=>(l,v)) rfl) rfl) (by
   unfold jC lM dH uF dH eT ei;cases bf 32 l with
   | none=>rfl
   | some a=>
    obtain ⟨b,i⟩:=a;simp only;cases ad i with
    | none=>rfl
    | some a=>
     obtain ⟨j,k⟩:=a;simp only;rw [uD];cases cW dQ j k with
     | none=>rfl
     | some a=>
      obtain ⟨l,m⟩:=a;simp only;cases gl m with
      | none=>rfl
      | some a=>rfl)
def uH (a:LU):Option ((LU×(BA×Int×BA))×LU):=dH (bM a) ei fun b c=>(b,c)
theorem uI {l l1 l2 l3 a nm v b1 b2 b3} (d:Took (bf 32 l) false a l1 b1) (e:Took (bM l1) b1 nm l2 b2) (g:Took (ei l2) b2 v l3 b3):
  fl (jD l) { Obj.zero with kind:=4,target:=⟨a.toArray⟩,name:=⟨nm.toArray⟩,who:=v.1,stamp:=v.2.1,text:=v.2.2 } b3:=
 oW (f:=fun b:LU×(LU×(BA×Int×BA))=>{ Obj.zero with kind:=4,target:=⟨b.1.toArray⟩,name:=⟨b.2.1.toArray⟩,who:=b.2.2.1,stamp:=b.2.2.2.1,text:=b.2.2.2.2 })
  (d.then (s:=uH) (u:=(nm,v)) (f:=fun a h=>(a,h)) (e.then (s:=ei) g (f:=fun l v=>(l,v)) rfl) rfl) (by
   unfold jD lM dH uH dH ei;cases bf 32 l with
   | none=>rfl
   | some c=>
    obtain ⟨a,i⟩:=c;simp only;cases bM i with
    | none=>rfl
    | some c=>
     obtain ⟨nm,j⟩:=c;simp only;cases gl j with
     | none=>rfl
     | some c=>rfl)
theorem fJ {ge k l o b} (a:fl (cu k l) o b):aZ ge (k::l)=if b=false/\ay ge o=true/\ct o=k::l then some o else none:=by
 have d:jE (k::l)=cu k l:=rfl;unfold aZ;rw [d];rcases a with ⟨c,a⟩ | ⟨c,a⟩
 ·rw [a,c];simp
 rw [a,c];simp
theorem Rd.new3 (w:World) (T u v x):Rd (w.alloc (.cells #[u,v,x] T)) (w+1) 3 (some ⟨w,0,none⟩) 1 [u,v,x]:=by
 refine ⟨by simp,fun _=>⟨w,0,rfl,qO,fun a d b=> ?_⟩⟩;have c:=o9 w T [u,v,x];rw [x9];exact (c.cell a).trans b
end Go.Dol
namespace Go.Proofs.YtecpbcmpncgokaaGreat
def EK (b:Bool):Int:=if b then 2 else 0
def Rs (w:World) (B g:Nat) (l:LU) (b:Bool):Prop:=
 ∃(c:OA) (a:Nat),Blk w g 224 [.slice c l a,.int .i64 (EK b)]/\Far w B c l/\l<=a/\a<=maxLen/\l.length<=kaa/\B<=g
theorem Rs.lt {w B g l b} (a:Rs w B g l b):g<w/\B<=g:=by
 obtain ⟨e,f,c,_,_,_,_,d⟩:=a;exact ⟨c.lt,d⟩
theorem Rs.keep {w w' B g l b} (c:Rs w B g l b) {row} (a:w.grownBy w' row) (d:some g≠row) (e:Other w B row):Rs w' B g l b:=by
 obtain ⟨f,h,i,j,k⟩:=c;exact ⟨f,h,i.grown a d,j.keep a e,k⟩
theorem Rs.below {w w' B g l b} (d:Rs w B g l b) (a:Below w.heap.size w w'):Rs w' B g l b:=by
 obtain ⟨e,f,c,h,i⟩:=d;exact ⟨e,f,c.below a c.lt,h.below a,i⟩
theorem Rs.drew {w B g l b} (a:Rs w B g l b):Rs w.drew B g l b:=by
 obtain ⟨c,d,e,f,h⟩:=a;exact ⟨c,d,e.drew,f.drew,h⟩
def oY {a:Type} (mk:a->Value) (P:a->Prop) (B g:Nat) (e:Option (a×LU)) (l:LU) (b:Bool) (w:World) (f:Ending) (w':World):Prop:=
 ∃(v:a) (c:LU) (d:Bool),f= .returned (mk v)/\Rs w' B g c d/\Hid (Took e b v c d)/\w.grownBy w' (some g)/\c.length<=l/\P v
def mkS (v:LU):Value:=.string ⟨v.toArray⟩
def mkN (n:Nat):Value:=.int .i64 (n:Nat)
theorem iF (B g n:Nat) (nI:Int) (hnI:nI=(n:Nat)) (l b w) (h:Rs w B g l b):
  Calls an 229 #[.pointer (some g),nI] w (oY mkS (fun v=>v.length<=n) B g (bf n l) l b w):=by
 obtain ⟨a,c,hB,hF,hc,hcm,d,hBg⟩:=h;have hO:=v8 hB (by decide) hBg;have e:=hB.c 0;have f:=hB.c 1;have i:=hB.free 0;have j:=hB.free 1;by_cases hn:l<n
 ·have d1:=dtX ((l:Int)<nI);have HT:Hid (bf n l=none):=by unfold Hid bf;rw [if_pos hn]
  clear hnI;go_in;go_wp2_with fail;go_ret;have hg:w.grownBy (w.setCell ⟨g,1,none⟩ (.int .i64 2)) (some g):=ae (gR w _) 1 _;exact ⟨[],l,true,rfl,⟨a,c,hB.set 1 (.int .i64 2),hF.keep hg hO,hc,hcm,d,hBg⟩,qI (iE b _ _ HT.out),hg,lR _,zL⟩
 exact z232
theorem oZ (B g l b w) (h:Rs w B g l b):
  Calls an 269 #[.pointer (some g)] w (oY mkN (fun n=>n<=4611686018427387903) B g (ad l) l b w):=by
 obtain ⟨v,x,e,y,z,H,A,hBg⟩:=h;have k:=e.c 0;have m:=e.lt;go_in;go_wp2_with fail;refine (fu v l x w y.1 A z).mono ?_;intro I w1 f;rcases ht:ad l with _ | ⟨n,J⟩
 ·rw [ht] at f;obtain ⟨rfl,hb1⟩:=f;have hB1:=e.below hb1 m;have k1:=hB1.c 1;have C:=hB1.free 0;have D:=hB1.free 1;have E:=hB1.c 0;have HT:=qI ht;clear ht k;cases b with
  | false=>
   have j:w1.cell? ⟨g,1,none⟩=some (.int .i64 0):=k1;exact z237
  | true=>
  have j:w1.cell? ⟨g,1,none⟩=some (.int .i64 2):=k1;exact z237
 rw [ht] at f;obtain ⟨a,c,d,i,rfl,F,hb1,o,q⟩:=f;have hB1:=e.below hb1 m;have r:=v8 hB1 (by decide) hBg;have k1:=hB1.c 1;have C:=hB1.free 0;have D:=hB1.free 1;have E:=hB1.c 0;have HT:=qI ht;have s:=qI (uE ht);have t:=qI ((ch ht).2);have u:Far w1 B c a:=J7 (s7 F);clear ht k;cases b with
 | false=>
  have j:w1.cell? ⟨g,1,none⟩=some (.int .i64 0):=k1;clear k1;go_wp2_with fail;go_ret;have hg:w1.grownBy ((w1.setCell g (.slice c a d)).setCell ⟨g,1,none⟩ (.int .i64 0)) (some g):=ae (ae (gR w1 _) 0 _) 1 _;have G:a.length<l:=by rw [i];exact s.out
  rw [HT];exact ⟨n,a,false,rfl,⟨c,d,(hB1.set 0 (.slice c a d)).set 1 (.int .i64 0),u.keep hg r,o,q,qO,hBg⟩,qI (gV _ (by rw [i])),aq (ax hb1 _) hg,qO,t.out⟩
 | true=>
 have j:w1.cell? ⟨g,1,none⟩=some (.int .i64 2):=k1;clear k1;go_wp2_with fail;go_ret;have hg:w1.grownBy ((w1.setCell g (.slice c a d)).setCell ⟨g,1,none⟩ (.int .i64 2)) (some g):=ae (ae (gR w1 _) 0 _) 1 _;have G:a.length<l:=by rw [i];exact s.out
 rw [HT];exact ⟨n,a,true,rfl,⟨c,d,(hB1.set 0 (.slice c a d)).set 1 (.int .i64 2),u.keep hg r,o,q,qO,hBg⟩,qI (gV _ (by rw [i])),aq (ax hb1 _) hg,qO,t.out⟩
theorem pb {l s q} (a:bM l=some (s,q)):q.length<=l.length/\s.length<=1048576:=by
 unfold bM at a;obtain ⟨b,c,d⟩:=fT a;have:=congrArg List.length b;simp only [b7] at this;omega
theorem lO (B g l b w) (h:Rs w B g l b):
  Calls an 232 #[.pointer (some g)] w (oY mkS (fun v=>v.length<=1048576) B g (bM l) l b w):=by
 obtain ⟨x,y,f,z,A,I,C,hBg⟩:=h;have n:=f.c 0;have o:=f.lt;go_in;go_wp2_with fail;refine (rv x l y 1048576 w z.1 C A).mono ?_;intro D w1 e;change kF w (bM l) D w1 at e;rcases ht:bM l with _ | ⟨q,J⟩
 ·rw [ht] at e;obtain ⟨rfl,hb1⟩:=e;have hB1:=f.below hb1 o;have k1:=hB1.c 1;have E:=hB1.free 0;have F:=hB1.free 1;have G:=hB1.c 0;have HT:=qI ht;clear ht n;cases b with
  | false=>
   have m:w1.cell? ⟨g,1,none⟩=some (.int .i64 0):=k1;exact z236
  | true=>
  have m:w1.cell? ⟨g,1,none⟩=some (.int .i64 2):=k1;exact z236
 rw [ht] at e;obtain ⟨a,c,d,i,rfl,j,hb1⟩:=e;have hB1:=f.below hb1 o;have r:=v8 hB1 (by decide) hBg;have k1:=hB1.c 1;have E:=hB1.free 0;have F:=hB1.free 1;have G:=hB1.c 0;have HT:=qI ht;have k:=qI (pb ht);have s:Far w1 B c a:=J7 j;have t:=j.2.1;have u:=j.2.2.1;clear ht n j;cases b with
 | false=>
  have m:w1.cell? ⟨g,1,none⟩=some (.int .i64 0):=k1;clear k1;go_wp2_with fail;go_ret;have hg:w1.grownBy ((w1.setCell g (.slice c a d)).setCell ⟨g,1,none⟩ (.int .i64 0)) (some g):=ae (ae (gR w1 _) 0 _) 1 _;have H:a.length<=l:=by rw [i];exact k.1
  rw [HT];exact ⟨q,a,false,rfl,⟨c,d,(hB1.set 0 (.slice c a d)).set 1 (.int .i64 0),s.keep hg r,t,u,qO,hBg⟩,qI (gV _ (by rw [i])),aq (ax hb1 _) hg,qO,k.2⟩
 | true=>
 have m:w1.cell? ⟨g,1,none⟩=some (.int .i64 2):=k1;clear k1;go_wp2_with fail;go_ret;have hg:w1.grownBy ((w1.setCell g (.slice c a d)).setCell ⟨g,1,none⟩ (.int .i64 2)) (some g):=ae (ae (gR w1 _) 0 _) 1 _;have H:a.length<=l:=by rw [i];exact k.1
 rw [HT];exact ⟨q,a,true,rfl,⟨c,d,(hB1.set 0 (.slice c a d)).set 1 (.int .i64 2),s.keep hg r,t,u,qO,hBg⟩,qI (gV _ (by rw [i])),aq (ax hb1 _) hg,qO,k.2⟩
def mkT (v:BA×Int×BA):Value:=.agg #[.string v.1,.int .i64 v.2.1,.string v.2.2]
theorem uJ (B g l b w) (k:Rs w B g l b):
  Calls an 234 #[.pointer (some g)] w fun a w'=> ∃(v:BA×Int×BA) (C:LU) (m:Bool),a= .returned (mkT v)/\Rs w' B g C m/\Hid (Took (ei l) b v [] m)/\w.grownBy w' (some g):=by
 obtain ⟨W,X⟩:=k.lt;have n:=bAl w (.cells #[eS,i0,eS] 213);have D:=o9 w 213 [eS,i0,eS];have E:=k.below n;have f:some w.heap.size≠some g:=fun a=>by injection a with a;omega
 go_in;go_wp2_with fail;refine (lO B g l b _ E).mono ?_;rintro a Y ⟨h,F,G,rfl,H,o,p,Z,_⟩;have I:=D.grown p f;unfold mkS;go_wp2_with fail;refine (oZ B g F G _ H).mono ?_;rintro a a0 ⟨i,J,K,rfl,L,q,r,b0,_⟩;have M:=I.grown r f;unfold mkN;go_wp2_with fail;refine (lO B g J K _ L).mono ?_;rintro a c0 ⟨tx,N,s,rfl,O,t,u,d0,_⟩;have x:=M.grown u f;unfold mkS;have P:Hid (Took (ei l) b ((⟨h.toArray⟩,(i:Int),⟨tx.toArray⟩):BA×Int×BA) [] s):=oU o.out q.out t.out;clear o q t;go_wp2_with ((refine dy (by rfl) _ (.tmp 2) (.tmp 9) rfl w.heap.size [.string ⟨h.toArray⟩,.int .i64 (i:Nat),.string ⟨tx.toArray⟩] rfl rfl 213 [.string eS,.int .i64 0,.string eS] x qkR rfl (by intro v y;simp only [i8,m9,or_false] at y;rcases y with rfl | rfl | rfl<;>rfl) ?_;intro Q j d));have R:=j.c 0;have S:=j.c 1;have T:=j.c 2;have U:w.grownBy Q (some g):=by
  have e:=aq (aq (ax n (some g)) (aq p r)) u;refine ⟨d.os.trans e.os,d.tape.trans e.tape,d.output.trans e.output,lT e.size d.size,fun z A V=> ?_⟩;rw [d.block z (r9 A e.size) (fun a=>by injection a with a;omega),e.block z A V]
 refine bodyPost_ret (v:=mkT (⟨h.toArray⟩,(i:Int),⟨tx.toArray⟩)) ?_ rfl ⟨_,N,s,rfl,O.keep d (fun a=>by injection a with a;omega) (v8 x (by decide) qO),P,U⟩;unfold mkT;simp [results,Tryz.results234,asAddr,R,S,T,go_sem]
end Go.Proofs.YtecpbcmpncgokaaGreat
namespace Go.Dol
def RdN (w:World) (base size:Nat) (A:OA) (n:Nat) (b:List Value):Prop:=Rd w w size A n b/\(0<n-> ∀a,au A=some a->base<=a)
theorem RdN.own {w base size e A n c xs} (d:w.ownsRow base e size (.slice A n c) n xs):RdN w base size A n xs:=by
 refine ⟨d8 d,fun i f a=> ?_⟩;rcases d.2 with ⟨b,_⟩ | ⟨g,j,k,b,l,_⟩
 ·injection b with _ b;omega
 injection b with h _ _;rw [h] at a;injection a with a;have m:g=f:=a;omega
theorem RdN.nil {w base size A}:RdN w base size A 0 []:=⟨L8,fun a=>absurd a (by decide)⟩
def D9:=@RdN.nil
theorem RdN.below {w w' base size A n xs} (a:RdN w base size A n xs) (b:Below w.heap.size w w'):RdN w' base size A n xs:=⟨(a.1.below b).more b.size,a.2⟩
theorem RdN.lower {w base base' size A n xs} (a:RdN w base size A n xs) (b:base'<=base):RdN w base' size A n xs:=⟨a.1,fun c d e=>lT b (a.2 c d e)⟩
theorem RdN.apart {w w' base size k A n xs} (a:RdN w base size A n xs) (c:w.grownBy w' (some k)) (m:k<base):RdN w' base size A n xs:=by
 refine ⟨⟨a.1.len,fun d=> ?_⟩,a.2⟩;obtain ⟨b,h,e,f,i⟩:=a.1.at_ d;have o:=a.2 d b (by rw [e];rfl);exact ⟨b,h,e,r9 f c.size,fun j u l=>(k7 (c.block b f (fun g=>by injection g with g;omega))).trans (i j u l)⟩
end Go.Dol
namespace Go.Proofs.YtecpbcmpncgokaaGreat
theorem uK:(an.info? 177).map (fun i=>(i.zero,i.size,i.bytes))=some (some (.agg #[eS,false,eS]),3,40):=qkR
theorem uL:(an.info? 9).map (fun i=>(i.zero,i.size,i.bytes))=some (some (.string ⟨#[]⟩),1,16):=qkR
theorem EM (a b):ec (a++b)=ec a++ec b:=by simp [ec]
theorem uM (a b):pc (a++b)=pc a++pc b:=by simp [pc]
theorem bv {w g g' T T' cs cs'} (c:Blk w g T cs) (a:Blk w g' T' cs') (d:T≠T'):some g≠some g':=fun b=>by
 injection b with b;subst b;unfold Blk at c a;rw [c] at a;injection a with a;injection a with _ a;exact d a
def TreeSt (w:World) (B c d g:Nat) (a:List Ent) (l:LU) (b:Bool):Prop:=
 ∃(e:OA) (f:Nat),Blk w c 217 [.slice e a f]/\w.ownsRow B 177 3 (.slice e a f) a (ec a)/\Blk w d 222 [.pointer (some g)]/\Rs w B g l b/\B<=c/\B<=d/\B<=w
theorem TreeSt.calm {w w' B gx gr g en l l' b b'} (f:TreeSt w B gx gr g en l b) (h:Rs w' B g l' b') (a:w.grownBy w' (some g)):TreeSt w' B gx gr g en l' b':=by
 obtain ⟨i,j,d,k,e,m,n,o,p⟩:=f;obtain ⟨s,t,c,_⟩:=m;have q:=bv d c (by decide);have r:=bv e c (by decide);exact ⟨i,j,d.grown a q,aE k c (by decide) a,e.grown a r,h,n,o,lT p a.size⟩
def EN (B e f g:Nat) (h:List Ent) (l:LU) (b:Bool) (w:World) (i:Ending) (w':World):Prop:=
 ∃(c:Ent) (a:LU) (d:Bool),i= .returned (.tuple #[])/\TreeSt w' B e f g (h++[c]) a d/\Hid (Took (ds l) b c a d)/\Below B w w'/\a.length<=l
theorem EO (B gx gr g en l b w) (h:TreeSt w B gx gr g en l b) (Y0:en.length+1<=5000000000000):
  Calls an 231 #[.pointer (some gx),.pointer (some gr)] w (EN B gx gr g en l b w):=by
 obtain ⟨f,i,D,i0,E,F,G,j0,T⟩:=h;obtain ⟨_,H⟩:=F.lt;obtain ⟨Z0,a1,I,_⟩:=id F;have s:=bv D I (by decide);have J:=bv E I (by decide);have k0:=D.c 0;have l0:=E.c 0;go_in;go_wp2_with fail;refine lP (S:=fun U=>U.cell? gx=some (.slice f en i)/\U.cell? gr=some (.pointer (some g))) 13 _ qkR rfl qkR rfl rfl ⟨k0,l0⟩ (fun k=> ?_);simp only [List.setIfInBounds_toArray,List.set_cons_zero,List.set_cons_succ,bU,List.getElem_toArray,List.getElem_cons_succ,List.getElem_cons_zero];refine tl 0 (.pointer (some gx)) ?_;refine tl 1 (.slice f en i) ?_;refine tl 2 (.pointer (some g)) ?_;refine tl 4 (.pointer (some g)) ?_;refine tl 7 (.pointer (some g)) ?_;refine rh 3 fun t d=> ?_;go_simp;refine (lO B g l b w.drew F.drew).mono ?_;rintro e K ⟨a,m0,n0,rfl,V,o0,m,b1,_⟩;have p0:=aE (w:=w.drew) i0 I.drew (by decide) m;obtain ⟨c1,d1,q0,_⟩:=id V;have W:=D.drew.grown m s;have X:=E.drew.grown m J;have r0:=W.c 0;have s0:=X.c 0;unfold mkS;refine hO d (⟨r0,s0⟩) (fun k=> ?_);refine rh 5 fun t d=> ?_;go_simp;refine (iF B g 1 1 rfl m0 n0 K V).mono ?_;rintro e t0 ⟨dd,u0,v0,rfl,Y,w0,n,e1,_⟩;have x0:=aE p0 q0 (by decide) n;obtain ⟨f1,g1,y0,_⟩:=id Y;have Z:=W.grown n s;have a0:=X.grown n J;have z2:=Z.c 0;have z0:=a0.c 0;unfold mkS;refine hO d (⟨z2,z0⟩) (fun k=> ?_);refine tl 6 (.bool (dd==[1])) ?_;refine rh 8 fun t d=> ?_;go_simp;refine (iF B g 32 32 rfl u0 v0 t0 Y).mono ?_;rintro e L ⟨c,A0,B0,rfl,C0,D0,o,h1,_⟩;have E0:=aE x0 y0 (by decide) o;have b0:=Z.grown o s;have c0:=a0.grown o J;have F0:=b0.c 0;have G0:=c0.c 0;unfold mkS;refine hO d (⟨F0,G0⟩) (fun k=> ?_);refine tl 9 (.agg #[.string ⟨a.toArray⟩,.bool (dd==[1]),.string ⟨c.toArray⟩]) ?_;have r:=E0.alloc (.cells #[.string ⟨a.toArray⟩,.bool (dd==[1]),.string ⟨c.toArray⟩] 177);have H0:=Rd.new3 L 177 (.string ⟨a.toArray⟩) (.bool (dd==[1])) (.string ⟨c.toArray⟩);have I0: ∀u∈[Value.string ⟨a.toArray⟩,.bool (dd==[1]),.string ⟨c.toArray⟩],u.oneCell'=true:=by
  exact z176
 have i1:w.heap.size<=K:=m.size;have j1:=n.size;have k1:=o.size;have M:=bAl L (.cells #[.string ⟨a.toArray⟩,.bool (dd==[1]),.string ⟨c.toArray⟩] 177);have d0:B<=(L.alloc (.cells #[.string ⟨a.toArray⟩,.bool (dd==[1]),.string ⟨c.toArray⟩] 177)).heap.size:=lT qO M.size;have e0:=C0.below M;have N:=b0.alloc (.cells #[.string ⟨a.toArray⟩,.bool (dd==[1]),.string ⟨c.toArray⟩] 177);have O:=c0.alloc (.cells #[.string ⟨a.toArray⟩,.bool (dd==[1]),.string ⟨c.toArray⟩] 177);have J0:=N.c 0;have K0:some gx≠(it f en i).ownBlock:=fun e=>own_ne r N (by decide) e.symm;have L0:some gr≠(it f en i).ownBlock:=fun e=>own_ne r O (by decide) e.symm;obtain ⟨l1,m1,M0,_⟩:=id e0;have N0:some g≠(it f en i).ownBlock:=fun e=>own_ne r M0 (by decide) e.symm;have O0:Other _ B (it f en i).ownBlock:=K9 r (by decide) (lR _);have P0:=O.c 0;refine rh 10 fun t d=> ?_;go_simp;refine hO d (⟨J0,P0⟩) (fun k=> ?_);refine rh 11 fun t d=> ?_;refine ft rfl (.tmp 3) (.tmp 12) 37 177 _ 3 40 rfl Tryz.underlying37 uK rfl (by decide) B _ en (ec en) rfl r _ _ 1 1 _ rfl H0 I0 (by unfold maxLen;omega) qO d0 ?_;intro v x y Q0 R0 z _ _;have j:=N.grown z K0;have P:=O.grown z L0;have z5:=j.c 0;have S0:=P.c 0;refine hO d (⟨z5,S0⟩) (fun k=> ?_);refine tl 12 (.pointer (some gx)) ?_;refine tl 13 undef ?_;refine dn ?_;have n1:=j.free 0;simp only [dt];go_simp;have T0:=e0.keep z N0 O0;have Q:=j.set 0 (.slice v (en.length+1) x);have A:y.grownBy (y.setCell gx (.slice v (en.length+1) x)) (some gx):=ae (gR y _) 0 _;have f0:=T0.keep A s.symm (v8 j (by decide) G);have C:=aE Q0 j (by decide) A;have g0:=P.grown A (bv P j (by decide));have R:=((bR B w).drew).trans
  ((((ak m H T:Below B w.drew K).trans (ak n H qO)).trans (ak o H qO)).trans (((M.mono qO).trans R0).trans (ak A G (lT d0 z.size))))
 have h0:=R.size;have U0:en+1=(en++[(⟨⟨a.toArray⟩,decide (dd=[1]),⟨c.toArray⟩⟩:Ent)]).length:=by simp
 have V0:=qI (uB o0.out w0.out D0.out);have W0:ec en++[Value.string ⟨a.toArray⟩,.bool (dd==[1]),.string ⟨c.toArray⟩]=ec (en++[(⟨⟨a.toArray⟩,decide (dd=[1]),⟨c.toArray⟩⟩:Ent)]):=by
  exact z283
 rw [W0] at C;obtain ⟨o1,X0⟩:=gX (y.setCell gx (.slice v (en.length+1) x));rw [<-X0] at Q C g0 f0 R h0 ⊢;rw [U0] at Q C;go_end0;exact ⟨_,A0,B0,rfl,⟨v,x,Q,C,g0,f0,G,j0,lT T h0⟩,V0,R,qO⟩
def ComSt (w:World) (B c d g:Nat) (h i:BA) (j:Int) (k:BA) (a:List BA) (l:LU) (b:Bool):Prop:=
 ∃(e:OA) (f:Nat),Blk w c 219 [h,.slice e a f,i,j,k]/\w.ownsRow B 9 1 (.slice e a f) a (pc a)/\Blk w d 222 [.pointer (some g)]/\Rs w B g l b/\B<=c/\B<=d/\B<=w
theorem ComSt.calm {w w' B gx gr g tr wh st te pa l l' b b'} (f:ComSt w B gx gr g tr wh st te pa l b) (h:Rs w' B g l' b') (a:w.grownBy w' (some g)):ComSt w' B gx gr g tr wh st te pa l' b':=by
 obtain ⟨i,j,d,k,e,m,n,o,p⟩:=f;obtain ⟨q,r,c,_⟩:=m;exact ⟨i,j,d.grown a (bv d c (by decide)),aE k c (by decide) a,e.grown a (bv e c (by decide)),h,n,o,lT p a.size⟩
def EP (B e f g:Nat) (h i:BA) (j:Int) (k:BA) (m:List BA) (l:LU) (b:Bool) (w:World) (n:Ending) (w':World):Prop:=
 ∃(a:BA) (c:LU) (d:Bool),n= .returned (.tuple #[])/\ComSt w' B e f g h i j k (m++[a]) c d/\Hid (Took (dQ l) b a c d)/\Below B w w'/\c.length<=l/\a.size<=32
theorem uN {l l' b b' v} (a:Took (bf 32 l) b v l' b'):Took (dQ l) b (⟨v.toArray⟩:BA) l' b':=by
 rcases a with ⟨c,a⟩ | ⟨c,d,a⟩
 ·refine .inl ⟨c,?_⟩;rcases a with a | a
  ·exact .inl a
  exact .inr (by unfold dQ;rw [a])
 exact .inr ⟨c,d,by unfold dQ;rw [a]⟩
theorem EQ (B gx gr g tr wh st te pa l b w) (h:ComSt w B gx gr g tr wh st te pa l b) (D0:pa.length+1<=8000000000000):
  Calls an 233 #[.pointer (some gx),.pointer (some gr)] w (EP B gx gr g tr wh st te pa l b w):=by
 obtain ⟨c,d,v,W,x,y,z,X,J⟩:=h;obtain ⟨_,Y⟩:=y.lt;obtain ⟨E0,F0,A,_⟩:=id y;have K:=bv v A (by decide);have Z:=bv x A (by decide);have a0:=v.c 1;have b0:=x.c 0;go_in;go_wp2_with fail;refine lP (S:=fun L=>L.cell? ⟨gx,1,none⟩=some (.slice c pa d)/\L.cell? gr=some (.pointer (some g))) 7 _ qkR rfl qkR rfl rfl ⟨a0,b0⟩ (fun C=> ?_);simp only [List.setIfInBounds_toArray,List.set_cons_zero,List.set_cons_succ,bU,List.getElem_toArray,List.getElem_cons_succ,List.getElem_cons_zero];refine tl 0 (.pointer (some ⟨gx,1,none⟩)) ?_;refine tl 1 (.slice c pa d) ?_;refine tl 2 (.pointer (some g)) ?_;refine rh 3 fun M i=> ?_;go_simp;refine (iF B g 32 32 rfl l b w.drew y.drew).mono ?_;rintro e j ⟨a,c0,d0,rfl,e0,f0,k,g0,h0⟩;have i0:=aE (w:=w.drew) W A.drew (by decide) k;have N:=v.drew.grown k K;have O:=x.drew.grown k Z;have j0:=N.c 1;have k0:=O.c 0;unfold mkS;refine hO i (⟨j0,k0⟩) (fun C=> ?_);have m:=i0.alloc (.cells #[.string ⟨a.toArray⟩] 9);have l0:=NX j 9 (.string ⟨a.toArray⟩);have m0: ∀P∈[Value.string ⟨a.toArray⟩],P.oneCell'=true:=by
  intro P n0;obtain rfl:=i7.1 n0;rfl
 have G0:w.heap.size<=j:=k.size;have D:=bAl j (.cells #[.string ⟨a.toArray⟩] 9);have Q:B<=(j.alloc (.cells #[.string ⟨a.toArray⟩] 9)).heap.size:=lT qO D.size;have R:=e0.below D;have E:=N.alloc (.cells #[.string ⟨a.toArray⟩] 9);have F:=O.alloc (.cells #[.string ⟨a.toArray⟩] 9);have o0:=E.c 1;have p0:some gx≠(it c pa d).ownBlock:=fun e=>own_ne m E (by decide) e.symm;have q0:some gr≠(it c pa d).ownBlock:=fun e=>own_ne m F (by decide) e.symm;obtain ⟨H0,I0,r0,_⟩:=id R;have s0:some g≠(it c pa d).ownBlock:=fun e=>own_ne m r0 (by decide) e.symm;have t0:Other _ B (it c pa d).ownBlock:=K9 m (by decide) (lR _);have u0:=F.c 0;refine rh 4 fun M i=> ?_;go_simp;refine hO i (⟨o0,u0⟩) (fun C=> ?_);refine rh 5 fun M i=> ?_;refine ft rfl (.tmp 3) (.tmp 6) 38 9 _ 1 16 rfl q9 uL rfl (by decide) B _ pa (pc pa) rfl m _ _ 1 1 _ rfl l0 m0 (by unfold maxLen;omega) qO Q ?_;intro n o r v0 w0 s _ _;have f:=E.grown s p0;have G:=F.grown s q0;have z5:=f.c 1;have x0:=G.c 0;refine hO i (⟨z5,x0⟩) (fun C=> ?_);refine tl 6 (.pointer (some ⟨gx,1,none⟩)) ?_;refine tl 7 undef ?_;refine dn ?_;have J0:=f.free 1;simp only [dt];go_simp;have y0:=R.keep s s0 t0;have H:=f.set 1 (.slice n (pa.length+1) o);have t:r.grownBy (r.setCell ⟨gx,1,none⟩ (.slice n (pa.length+1) o)) (some gx):=ae (gR r _) 1 _;have T:=y0.keep t K.symm (v8 f (by decide) z);have u:=aE v0 f (by decide) t;have U:=G.grown t (bv G f (by decide));have I:=((bR B w).drew).trans
  ((ak k Y J:Below B w.drew j).trans (((D.mono qO).trans w0).trans (ak t z (lT Q s.size))))
 have V:=I.size;have z0:pa+1=(pa++[(⟨a.toArray⟩:BA)]).length:=by simp
 have A0:=qI (uN f0.out);have B0:pc pa++[Value.string ⟨a.toArray⟩]=pc (pa++[(⟨a.toArray⟩:BA)]):=by
  rw [uM];rfl
 rw [B0] at u;obtain ⟨K0,C0⟩:=gX (r.setCell ⟨gx,1,none⟩ (.slice n (pa.length+1) o));rw [<-C0] at H u U T I V ⊢;rw [z0] at H u;go_end0;exact ⟨_,c0,d0,rfl,⟨n,o,H,u,U,T,z,X,lT J V⟩,A0,I,g0,h0⟩
theorem uO {l r e} (a:ds l=some (e,r)):r.length+33<=l.length:=by
 unfold ds at a;split at a
 ·cases a
 rename_i f g b;split at a
 ·cases a
 rename_i h i c;split at a
 ·cases a
 rename_i j k d;injection a with a;injection a with _ a;subst a;have m:=(pb b).1;have n:=(oV c).2;have o:=(oV d).2;omega
theorem uP {l r e} (a:dQ l=some (e,r)):r.length+32<=l.length:=by
 unfold dQ at a;split at a
 ·cases a
 rename_i c d b;injection a with a;injection a with _ a;subst a;have f:=(oV b).2;omega
def ER (B c d g e:Nat) (f:LU) (h:Bool) (a:Nat) (w:World) (i:Value) (wr:World):Prop:=
 ∃(n:Nat) (v:List Ent) (l:LU) (b:Bool),i= .int .i64 n/\TreeSt wr B c d g v l b/\Hid (Sofar ds e f h v n l b)/\Below B w wr/\n<=kag/\v<=a+1/\(b=false->v.length*32+l<=a)/\Hid (∀j∈v,True)
def ET (B c d g:Nat) (e f:BA) (h:Int) (j:BA) (k:Nat) (m:LU) (o:Bool) (a:Nat) (w:World) (i:Value) (wr:World):Prop:=
 ∃(n:Nat) (v:List BA) (l:LU) (b:Bool),i= .int .i64 n/\ComSt wr B c d g e f h j v l b/\Hid (Sofar dQ k m o v n l b)/\Below B w wr/\n<=kag/\v<=a+1/\(b=false->v.length*32+l<=a)/\Hid (∀p∈v,p.size<=32)
theorem EU (B gx gr g l b w) (h:TreeSt w B gx gr g [] l b) (R:l.length<=kab):
  Calls an 230 #[.pointer (some g),.func (.func 231) #[] #[.pointer (some gx),.pointer (some gr)]] w fun d w'=>
   ∃(v:List Ent) (j:LU) (k:Bool),d= .returned (.tuple #[])/\TreeSt w' B gx gr g v j k/\Hid (Took (eT ds l) b v j k)/\Below B w w'/\v.length<=l+1/\Hid (∀p∈v,True):=by
 obtain ⟨S,T,z,A,C,e,U,V,D⟩:=id h;obtain ⟨_,E⟩:=e.lt;go_in;go_wp2_with fail;refine (oZ B g l b w e).mono ?_;rintro d W ⟨m,n,o,rfl,q,t1,f,X,F⟩;unfold mkN;have r:=h.calm q f;have s:=ak f E D;clear h z A C e q f;go_wp2_with fail;go_loopw [4] (fun i wr=>ER B gx gr g m n o l w i wr) (fun i _=>(intOf i).toNat)
 case atStart=>exact ⟨m,[],n,o,rfl,r,qI (Pz _ _ _ _),s,F,by simp,fun _=>by simp;omega,qI (by simp)⟩
 case round=>
  clear r s;obtain ⟨a,v,l2,b2,rfl,hs,hT,hb,Y,hv1,G,hv3⟩:=hrel;obtain ⟨Z,a0,H,I,J,t,_,_,b0⟩:=id hs;obtain ⟨c0,d0,u,_⟩:=id t;have z1:=u.c 1;clear H I J t u;by_cases e0:0<a
  ·cases b2 with
   | true=>
    exact z257
   | false=>
    have z2:wr.cell? ⟨g,1,none⟩=some (.int .i64 0):=z1;clear z1;have f0:=qiJ (a-1);have g0:=G rfl;go_wp2_with ((go_at_call 231;refine (EO B gx gr g v l2 false _ hs qO).mono ?_;rintro d h0 ⟨K,L,M,rfl,N,x,O,i0⟩));have P:a=(a-1)+1:=qO;have y:=hT.out;rw [P] at y;refine ⟨⟨a-1,v++[K],L,M,by go_num,N,qI (y.step x.out),hb.trans O,qO,by simp;omega,fun Q=> ?_,qI ?_⟩,by simp [intOf];omega⟩
    ·have j0:=uO (x.out.good Q).2;exact z85
    intro p c;rcases l7.1 c with c | c
    ·exact hv3.out p c
    obtain rfl:=i7.1 c;trivial
  exact z274
theorem EV (B gx gr g tr wh st te l b w) (h:ComSt w B gx gr g tr wh st te [] l b) (S:l.length<=kab):
  Calls an 230 #[.pointer (some g),.func (.func 233) #[] #[.pointer (some gx),.pointer (some gr)]] w fun d w'=>
   ∃(v:List BA) (j:LU) (k:Bool),d= .returned (.tuple #[])/\ComSt w' B gx gr g tr wh st te v j k/\Hid (Took (eT dQ l) b v j k)/\Below B w w'/\v.length<=l+1/\Hid (∀p∈v,p.size<=32):=by
 obtain ⟨T,U,z,A,C,e,V,W,D⟩:=id h;obtain ⟨_,E⟩:=e.lt;go_in;go_wp2_with fail;refine (oZ B g l b w e).mono ?_;rintro d X ⟨m,n,o,rfl,q,t1,f,Y,F⟩;unfold mkN;have r:=h.calm q f;have s:=ak f E D;clear h z A C e q f;go_wp2_with fail;go_loopw [4] (fun i wr=>ET B gx gr g tr wh st te m n o l w i wr) (fun i _=>(intOf i).toNat)
 case atStart=>exact ⟨m,[],n,o,rfl,r,qI (Pz _ _ _ _),s,F,by simp,fun _=>by simp;omega,qI (by simp)⟩
 case round=>
  clear r s;obtain ⟨a,v,l2,b2,rfl,hs,hT,hb,Z,hv1,G,hv3⟩:=hrel;obtain ⟨a0,b0,H,I,J,t,_,_,c0⟩:=id hs;obtain ⟨d0,e0,u,_⟩:=id t;have z1:=u.c 1;clear H I J t u;by_cases f0:0<a
  ·cases b2 with
   | true=>
    exact z257
   | false=>
    have z2:wr.cell? ⟨g,1,none⟩=some (.int .i64 0):=z1;clear z1;have g0:=qiJ (a-1);have h0:=G rfl;go_wp2_with ((go_at_call 233;refine (EQ B gx gr g tr wh st te v l2 false _ hs qO).mono ?_;rintro d i0 ⟨K,L,M,rfl,N,x,O,j0,P⟩));have Q:a=(a-1)+1:=qO;have y:=hT.out;rw [Q] at y;refine ⟨⟨a-1,v++[K],L,M,by go_num,N,qI (y.step x.out),hb.trans O,qO,by simp;omega,fun R=> ?_,qI ?_⟩,by simp [intOf];omega⟩
    ·have k0:=uP (x.out.good R).2;exact z85
    intro p c;rcases l7.1 c with c | c
    ·exact hv3.out p c
    obtain rfl:=i7.1 c;exact P
  exact z274
theorem mkf (fn first cap w):(Instr.makeFunc fn first cap).run an w= .ok (.func fn first cap) w:=rfl
theorem uQ (v w) (h:v.length<=140737488355328): ∃A c w',(convert 9 36 (.string ⟨v.toArray⟩)).run an w= .ok (.slice A v.length c) w'/\RdN w' w.heap.size 1 A v.length (bc v)/\Below w.heap.size w w'/\v.length<=c/\c<=maxLen:=by
 have e:(⟨v.toArray⟩:BA).size=v:=by simp [ByteArray.size]
 obtain ⟨A,c,w',d,f,i,g,j⟩:=uR (P:=an) w 9 36 5 ⟨v.toArray⟩ l9 q7 z8 (by rw [e];exact h);rw [e] at d f g;refine ⟨A,c,w',d,⟨f,fun l k b=> ?_⟩,i,g,j⟩;have a:=run_bytes_of_string (P:=an) w 9 36 5 ⟨v.toArray⟩ l9 q7 z8;rw [d] at a;injection a with a _;injection a with a _ _;rw [a] at b;injection b with b;have m:w=k:=b;omega
def lQ (p:Option Go.Dol.Obj) (B g:Nat) (w:World) (mk:Go.Dol.Obj->Value->Value->Value->Value) (nm:Go.Dol.Obj->Go.Dol.Obj) (f:Ending) (w':World):Prop:=
 ∃(a:Go.Dol.Obj) (b:OA) (h:Nat) (c:OA) (i:Nat) (d:OA) (j:Nat) (k:LU) (e:Bool),f= .returned (mk a (.slice b a.data h) (.slice c a.ents i) (.slice d a.pars j))/\
  RdN w' B 1 b a.data.length (bc a.data)/\RdN w' B 3 c a.ents.length (ec a.ents)/\RdN w' B 1 d a.pars.length (pc a.pars)/\Rs w' B g k e/\Hid (fl p a e/\a=nm a)/\Below B w w'/\a.ents.length<=140737488351233/\a.pars.length<=140737488351233/\Hid (∀l∈a.pars,l.size<=maxLen)
theorem EW (B g l w) (a:Rs w B g l false) (s:B<=w) (P:l.length<=kab):
  Calls an 160 #[.pointer (some g),.int .i64 1] w (lQ (cu 1 l) B g w (fun t C Q R=> .iface 215 (.agg #[C])) fun t=>{ Obj.zero with kind:=1,data:=t.data }):=by
 obtain ⟨T,D⟩:=a.lt;have e:=bAl w (.cells #[.pointer (some g)] 222);have E:=a.below e;obtain ⟨U,V,i,W,X,Y,_⟩:=id a;have j:=o9 w 222 [.pointer (some g)];have F:=bv j (i.below e i.lt) (by decide);have u:=j.c 0;have Z:=i.c 0;go_in;go_wp2_with fail;refine wp_region_held_drew (S:=fun G=>G.cell? w=some (.pointer (some g))) qkR u (fun k=> ?_);refine tl 0 (.pointer (some g)) ?_;refine tl 1 (.pointer (some g)) ?_;refine tl 2 (.pointer (some g)) ?_;refine tl 3 (.pointer (some g)) ?_;refine rh 4 fun v c=> ?_;go_simp;refine hO c u (fun k=> ?_);refine tl 5 (.int .i64 l) ?_;refine rh 6 fun v c=> ?_;go_simp;refine (iF B g l _ rfl l false (w.alloc (.cells #[.pointer (some g)] 222)).drew E.drew).mono ?_;rintro a0 m ⟨b,H,x,rfl,n,I,o,b0,c0⟩;have y:=j.drew.grown o F;have z:=y.c 0;unfold mkS;refine hO c z (fun k=> ?_);obtain ⟨f,h,d0,J,K,q,_,_⟩:=uQ b m qO;have L:=(q.cell (p:=⟨w,0,none⟩) y.lt).trans z;refine rh 7 fun v c=> ?_;go_simp;refine hO c L (fun k=> ?_);refine tl 8 (.agg #[.slice f b h]) ?_;refine tl 9 (.iface 215 (.agg #[.slice f b h])) ?_;refine tl 10 (.iface 215 (.agg #[.slice f b h])) ?_;refine dn ?_;have r:=I.out;have A:bf l l=some (l,[]):=by
  unfold bf;rw [if_neg qO,y7,List.drop_length]
 rw [A] at r;have M:Hid (fl (cu 1 l) { Obj.zero with kind:=1,data:=b } x):=by
  rcases r with ⟨_,a | a⟩ | ⟨n,_,d⟩
  ·cases a
  ·cases a
  injection d with d;injection d with d _;exact .inr ⟨n,by rw [tP,d]⟩
 have e0:(w.alloc (.cells #[.pointer (some g)] 222)).heap.size<=m:=o.size;have N:=e.size;have O:=(e.mono s).trans ((((bR B (w.alloc (.cells #[.pointer (some g)] 222))).drew).trans (ak o D (lT s N):Below B (w.alloc (.cells #[.pointer (some g)] 222)).drew m)).trans (q.mono qO));clear J r A;go_wp2_with fail;go_ret;exact ⟨{ Obj.zero with kind:=1,data:=b },f,h,none,0,none,0,H,x,rfl,K.lower qO,D9,D9,n.below q,qI ⟨M.out,rfl⟩,O,by simp [Obj.zero],by simp [Obj.zero],qI (by simp [Obj.zero])⟩
theorem EX (B g l w) (a:Rs w B g l false) (b:B<=w) (j:l.length<=kab):
  Calls an 160 #[.pointer (some g),.int .i64 2] w (lQ (cu 2 l) B g w (fun e E k F=> .iface 217 (.agg #[k])) fun e=>{ Obj.zero with kind:=2,ents:=e.ents }):=by
 obtain ⟨G,H⟩:=a.lt;have f:=bAl w (.cells #[.pointer (some g)] 222);obtain ⟨I,J,K,L,M,N,_⟩:=id a;have m:=o9 w 222 [.pointer (some g)];have n:(w.alloc (.cells #[.pointer (some g)] 222)).heap.size=w+1:=by simp
 have c:Below w w ((w.alloc (.cells #[.pointer (some g)] 222)).alloc (.cells #[eL] 217)):=f.alloc f.size _;have o:=a.below c;have p:=m.alloc (.cells #[eL] 217);have h:=o9 (w.alloc (.cells #[.pointer (some g)] 222)) 217 [.slice none 0 0];rw [n] at h;have q:TreeSt ((w.alloc (.cells #[.pointer (some g)] 222)).alloc (.cells #[eL] 217)) B (w+1) w g [] l false:=⟨none,0,h,j9 _ _ _ _,p,o,qO,b,lT b c.size⟩;go_in;go_wp2_with fail;refine (EU B (w+1) w g l false _ q j).mono ?_;rintro O P ⟨d,r,i,rfl,s,t,u,Q,_⟩;obtain ⟨v,x,y,z,R,A,_,_,_⟩:=id s;have S:=y.c 0;have C:=(c.mono b).trans u;have D:Hid (fl (cu 2 l) { Obj.zero with kind:=2,ents:=d } i):=qI (by rw [lu];exact oX t.out);go_wp2_with fail;go_ret;exact ⟨{ Obj.zero with kind:=2,ents:=d },none,0,v,x,none,0,r,i,rfl,D9,RdN.own z,D9,A,qI ⟨D.out,rfl⟩,C,by show d.length<=_;omega,by simp [Obj.zero],qI (by simp [Obj.zero])⟩
theorem EY (B g l w) (h:Rs w B g l false) (p:B<=w) (j0:l.length<=kab):
  Calls an 160 #[.pointer (some g),.int .i64 3] w (lQ (cu 3 l) B g w (fun b k0 l0 F=> .iface 219 (.agg #[.string b.tree,F,.string b.who,.int .i64 b.stamp,.string b.text])) fun b=>{ Obj.zero with kind:=3,tree:=b.tree,pars:=b.pars,who:=b.who,stamp:=b.stamp,text:=b.text }):=by
 obtain ⟨m0,q⟩:=h.lt;have i:=bAl w (.cells #[.pointer (some g)] 222);have G:=h.below i;obtain ⟨n0,o0,r,p0,q0,r0,_⟩:=id h;have s:=o9 w 222 [.pointer (some g)];have H:=bv s (r.below i r.lt) (by decide);have s0:(w.alloc (.cells #[.pointer (some g)] 222)).heap.size=w+1:=by simp
 go_in;go_wp2_with fail;refine (iF B g 32 32 rfl l false _ G).mono ?_;rintro t a ⟨d,u,v,rfl,I,J,j,t0,_⟩;have x:=s.grown j H;have u0:w.heap.size+1<=a:=by have:=j.size;omega
 have v0:=x.c 0;have w0:w.heap.size<a:=qO;unfold mkS;have k:=bAl a (.cells #[.string ⟨d.toArray⟩,eL,eS,i0,eS] 219);have K:=x.alloc (.cells #[.string ⟨d.toArray⟩,eL,eS,i0,eS] 219);have L:=o9 a 219 [.string ⟨d.toArray⟩,eL,eS,i0,eS];have M:ComSt (a.alloc (.cells #[.string ⟨d.toArray⟩,eL,eS,i0,eS] 219)) B a w g ⟨d.toArray⟩ eS 0 eS [] u v:=⟨none,0,L,j9 _ _ _ _,K,I.below k,qO,p,lT qO k.size⟩;go_wp2_with fail;refine (EV B a w g ⟨d.toArray⟩ eS 0 eS u v _ M qO).mono ?_;rintro t N ⟨m,O,P,rfl,Q,R,S,x0,T⟩;obtain ⟨U,V,y,W,X,z,_,_,A⟩:=id Q;obtain ⟨y0,z0,C,_⟩:=id z;have A0:=X.c 0;go_wp2_with fail;refine (uJ B g O P N z).mono ?_;rintro t n ⟨c,Y,D,rfl,Z,a0,f⟩;have E:=bv y C (by decide);have e:=y.grown f E;have b0:=aE W C (by decide) f;obtain ⟨B0,C0,D0,E0,F0⟩:=iC e;have G0:=e.free 2;have H0:=e.free 3;have I0:=e.free 4;unfold mkT;go_wp2_with fail;have o:n.grownBy (((n.setCell ⟨a,2,none⟩ (.string c.1)).setCell ⟨a,3,none⟩ (.int .i64 c.2.1)).setCell ⟨a,4,none⟩ (.string c.2.2)) (some a.heap.size):=ae (ae (ae (gR n _) 2 _) 3 _) 4 _;have c0:=aE b0 e (by decide) o;have d0:=Z.keep o E.symm (v8 e (by decide) qO);have e0:Below B w _:=(((i.mono p).trans (ak j q qO)).trans ((k.mono qO).trans S)).trans ((ak f q A).trans (ak o qO (lT A f.size)));have f0:Hid (fl (cu 3 l) { Obj.zero with kind:=3,tree:=⟨d.toArray⟩,pars:=m,who:=c.1,stamp:=c.2.1,text:=c.2.2 } D):=qI (by rw [oH];exact uG J.out R.out a0.out);go_ret;exact ⟨{ Obj.zero with kind:=3,tree:=⟨d.toArray⟩,pars:=m,who:=c.1,stamp:=c.2.1,text:=c.2.2 },none,0,none,0,U,V,Y,D,rfl,D9,D9,RdN.own c0,d0,qI ⟨f0.out,rfl⟩,e0,by simp [Obj.zero],by show m.length<=_;omega,qI (fun g0 h0=>by have:=T.out g0 h0;unfold maxLen;omega)⟩
theorem EZ (B g l w) (h:Rs w B g l false) (q:B<=w) (W:l.length<=kab):
  Calls an 160 #[.pointer (some g),.int .i64 4] w (lQ (cu 4 l) B g w (fun b X Y Z=> .iface 221 (.agg #[.string b.target,.string b.name,.string b.who,.int .i64 b.stamp,.string b.text])) fun b=>{ Obj.zero with kind:=4,target:=b.target,name:=b.name,who:=b.who,stamp:=b.stamp,text:=b.text }):=by
 obtain ⟨a0,i⟩:=h.lt;have f:=bAl w (.cells #[.pointer (some g)] 222);have z:=h.below f;obtain ⟨b0,c0,r,d0,e0,f0,_⟩:=id h;have j:=o9 w 222 [.pointer (some g)];have k:=bv j (r.below f r.lt) (by decide);have g0:(w.alloc (.cells #[.pointer (some g)] 222)).heap.size=w+1:=by simp
 have A:=j.c 0;go_in;go_wp2_with fail;refine wp_region_held_drew (S:=fun C=>C.cell? w=some (.pointer (some g))) qkR A (fun m=> ?_);refine tl 0 (.pointer (some g)) ?_;refine tl 2 (.pointer (some g)) ?_;refine tl 4 (.pointer (some g)) ?_;refine rh 1 fun s c=> ?_;go_simp;refine (iF B g 32 32 rfl l false _ z.drew).mono ?_;rintro t n ⟨d,D,E,rfl,F,G,o,h0,_⟩;have u:=j.drew.grown o k;have H:=u.c 0;unfold mkS;refine hO c H (fun m=> ?_);refine rh 3 fun s c=> ?_;go_simp;refine (lO B g D E n F).mono ?_;rintro t I ⟨e,J,K,rfl,L,M,p,i0,_⟩;have v:=u.grown p k;have N:=v.c 0;unfold mkS;refine hO c N (fun m=> ?_);refine rh 5 fun s c=> ?_;go_simp;refine (uJ B g J K I L).mono ?_;rintro t j0 ⟨a,O,x,rfl,P,Q,y⟩;have R:=v.grown y k;have T:=R.c 0;unfold mkT;refine hO c T (fun m=> ?_);refine tl 6 (.agg #[.string ⟨d.toArray⟩,.string ⟨e.toArray⟩,.string a.1,.int .i64 a.2.1,.string a.2.2]) ?_;refine tl 7 (.iface 221 (.agg #[.string ⟨d.toArray⟩,.string ⟨e.toArray⟩,.string a.1,.int .i64 a.2.1,.string a.2.2])) ?_;refine tl 8 (.iface 221 (.agg #[.string ⟨d.toArray⟩,.string ⟨e.toArray⟩,.string a.1,.int .i64 a.2.1,.string a.2.2])) ?_;refine dn ?_;have k0:(w.alloc (.cells #[.pointer (some g)] 222)).heap.size<=n:=o.size;have l0:=p.size;have U:=(f.mono q).trans ((((bR B _).drew).trans (ak o i (lT q f.size):Below B _ n)).trans ((ak p i qO).trans (ak y i qO)));have V:Hid (fl (cu 4 l) { Obj.zero with kind:=4,target:=⟨d.toArray⟩,name:=⟨e.toArray⟩,who:=a.1,stamp:=a.2.1,text:=a.2.2 } x):=qI (by rw [oI];exact uI G.out M.out Q.out);go_wp2_with fail;go_ret;exact ⟨{ Obj.zero with kind:=4,target:=⟨d.toArray⟩,name:=⟨e.toArray⟩,who:=a.1,stamp:=a.2.1,text:=a.2.2 },none,0,none,0,none,0,O,x,rfl,D9,D9,D9,P,qI ⟨V.out,rfl⟩,U,by simp [Obj.zero],by simp [Obj.zero],qI (by simp [Obj.zero])⟩
def gW (w:World) (r:Option Go.Dol.Obj) (c:Ending) (w':World):Prop:=
 match r with
 | none=>c= .returned (.tuple #[.agg #[i0,eL,eL,eS,eL,eS,eS,eS,i0,eS],.int .i64 2])/\Below w w w'
 | some o=> ∃(e:Int) (f:OA) (d:LU) (p:Nat) (g:OA) (b:List Ent) (q:Nat) (h:BA) (i:OA) (a:List BA) (s:Nat) (j k l:BA) (m:Int) (n:BA),
   Hid (o=⟨e,d,b,h,a,j,k,l,m,n⟩)/\c= .returned (.tuple #[.agg #[e,.slice f d p,.slice g b q,h,.slice i a s,j,k,l,m,n],i0])/\
   RdN w' w 1 f d (bc d)/\RdN w' w 3 g b (ec b)/\RdN w' w 1 i a.length (pc a)/\Below w w w'/\b.length<=kaa/\a.length<=kaa/\Hid (∀t∈a,t.size<=maxLen)
theorem gn (k vd ve tr vp ta na wh st te) (b:vd.oneCell'=true) (c:ve.oneCell'=true) (d:vp.oneCell'=true): ∀v∈[Value.int .i64 k,vd,ve,.string tr,vp,.string ta,.string na,.string wh,.int .i64 st,.string te],v.oneCell'=true:=by
 intro v a;simp only [i8,m9,or_false] at a;rcases a with rfl | rfl | rfl | rfl | rfl | rfl | rfl | rfl | rfl | rfl<;>first | rfl | assumption
theorem Fa (A c w):Calls an 96 #[.slice A 0 c] w (gW w none):=by
 have a:=bAl w (.cells #[i0,eL,eL,eS,eL,eS,eS,eS,i0,eS] 40);have b:=o9 w 40 zcells;go_in;go_wp2_with ((refine dy (by rfl) _ (.tmp 2) (.tmp 11) rfl w.heap.size zcells rfl rfl 40 zcells b qkR rfl (by decide) ?_;intro d e f));have g:=Go.run_loadVar_row (P:=an) d w 40 40 zcells.toArray (0,0) _ e Go.Proofs.Tryz.underlying40 rfl qkR;refine bodyPost_ret (v:=.tuple #[.agg zcells.toArray,.int .i64 2]) ?_ rfl ⟨rfl,a.grown f a.size (fun i h=>by cases h;exact lR _)⟩;simp [results,Tryz.results96,asAddr,g]
theorem RetEnc.any {w w' o e} (a:RetEnc w o e w'):Below w.heap.size w w'/\ ∃(l:LU) (A:OA) (c:Nat) (d:Int),e= .returned (.tuple #[.slice A l.length c,d])/\Rd w' w'.heap.size 1 A l.length (bc l)/\(d !=0)= !ay geS o/\(ay geS o=true->l=ct o)/\(ay geS o=false->l=[]):=by
 obtain ⟨f,⟨b,l,A,c,g,rfl,h⟩ | ⟨b,rfl⟩⟩:=a
 ·exact ⟨f,l,A,c,0,rfl,d8 h,by rw [b];rfl,fun _=>g,fun a=>(by rw [b] at a;cases a)⟩
 exact ⟨f,[],none,0,1,rfl,L8,by rw [b];rfl,fun a=>(by rw [b] at a;cases a),fun _=>rfl⟩
def Fb (x:UInt8) (l:LU) (B g:Nat) (w:World) (m:Ending) (w':World):Prop:=
 ∃(o:Value) (c:Int) (p:OA) (d:LU) (t:Nat) (q:OA) (b:List Ent) (u:Nat) (e:BA) (r:OA) (a:List BA) (v:Nat) (f h i:BA) (j:Int) (k:BA) (y:LU) (s:Bool),m= .returned o/\
  (∀n,Calls an 159 #[o] n fun m w'=>m= .returned (.agg #[c,.slice p d t,.slice q b u,e,.slice r a v,f,h,i,j,k])/\Below n.heap.size n w')/\
  RdN w' B 1 p d (bc d)/\RdN w' B 3 q b (ec b)/\RdN w' B 1 r a.length (pc a)/\Rs w' B g y s/\Below B w w'/\b.length<=kaa/\a.length<=kaa/\Hid (∀z∈a,z.size<=maxLen)/\
  Hid (aZ geS (x::l)=if s=false/\ay geS ⟨c,d,b,e,a,f,h,i,j,k⟩=true/\ct ⟨c,d,b,e,a,f,h,i,j,k⟩=x::l then some ⟨c,d,b,e,a,f,h,i,j,k⟩ else none)
theorem Fc (B g x l w) (j:Rs w B g l false) (z:B<=w) (O:l.length<=kab):
  Calls an 160 #[.pointer (some g),.int .i64 x.toNat] w (Fb x l B g w):=by
 by_cases X:x=1
 ·subst X;refine (EW B g l w j z O).mono ?_;rintro A P ⟨⟨Y,C,D,E,F,G,H,p,q,r⟩,I,J,K,L,M,N,s,t,rfl,Q,R,S,u,⟨v,y⟩,b,T,U,V⟩;injection y with a c d e f h i k m n;simp only [Obj.zero] at a c d e f h i k m n;subst a d e f h i k m n;exact ⟨_,1,I,C,J,none,[],0,_,none,[],0,_,_,_,_,_,s,t,rfl,fun o=>ur I C J none 0 0 eS none 0 0 eS eS eS 0 eS o,Q,D9,D9,u,b,zL,zL,qI (by simp),fJ v⟩
 by_cases Z:x=2
 ·subst Z;refine (EX B g l w j z O).mono ?_;rintro A P ⟨⟨Y,C,D,E,F,G,H,p,q,r⟩,I,J,K,L,M,N,s,t,rfl,Q,R,S,u,⟨v,y⟩,b,T,U,V⟩;injection y with a c d e f h i k m n;simp only [Obj.zero] at a c d e f h i k m n;subst a c e f h i k m n;exact ⟨_,2,none,[],0,K,D,L,_,none,[],0,_,_,_,_,_,s,t,rfl,fun o=>us none 0 0 K D L eS none 0 0 eS eS eS 0 eS o,D9,R,D9,u,b,lT T (by decide),zL,qI (by simp),fJ v⟩
 by_cases a0:x=3
 ·subst a0;refine (EY B g l w j z O).mono ?_;rintro A P ⟨⟨Y,C,D,E,F,G,H,p,q,r⟩,I,J,K,L,M,N,s,t,rfl,Q,R,S,u,⟨v,y⟩,b,T,U,V⟩;injection y with a c d e f h i k m n;simp only [Obj.zero] at a c d e f h i k m n;subst a c d h i;exact ⟨_,3,none,[],0,none,[],0,E,M,F,N,_,_,p,q,r,s,t,rfl,fun o=>ut none 0 0 none 0 0 E M F N eS eS p q r o,D9,D9,S,u,b,zL,lT U (by decide),V,fJ v⟩
 by_cases b0:x=4
 ·subst b0;refine (EZ B g l w j z O).mono ?_;rintro A P ⟨⟨Y,C,D,E,F,G,H,p,q,r⟩,I,J,K,L,M,N,s,t,rfl,Q,R,S,u,⟨v,y⟩,b,T,U,V⟩;injection y with a c d e f h i k m n;simp only [Obj.zero] at a c d e f h i k m n;subst a c d e f;exact ⟨_,4,none,[],0,none,[],0,_,none,[],0,G,H,p,q,r,s,t,rfl,fun o=>uu none 0 0 none 0 0 eS none 0 0 G H p q r o,D9,D9,D9,u,b,zL,zL,qI (by simp),fJ v⟩
 have W: ∀c0:UInt8,x≠c0->((x.toNat:Nat):Int)≠c0.toNat:=fun c0 j A=>j (C9.1 qO);refine (EG ⟨g,0,none⟩ x.toNat w (W 1 X) (W 2 Z) (W 3 a0) (W 4 b0)).mono ?_;rintro A P ⟨rfl,b⟩;refine ⟨_,0,none,[],0,none,[],0,_,none,[],0,_,_,_,_,_,l,false,rfl,fun o=>Eb o,D9,D9,D9,j.below b,b.mono z,zL,zL,qI (by simp),?_⟩;unfold Hid;rw [if_neg (fun j=>by cases j.2.1)];unfold aZ;rw [show jE (x::l)=none from by show cu x l=none;unfold cu;rw [if_neg X,if_neg Z,if_neg a0,if_neg b0]]
theorem Fe (A x l n c w) (M:n=l.length+1) (N:Rd w w.heap.size 1 A n (bc (x::l))) (B1:n<=c) (Z0:c<=maxLen) (O:l.length<=140737488351231):
  Calls an 96 #[.slice A n c] w (gW w (aZ geS (x::l))):=by
 have C1:((n:Int)==0)=false:=beq_eq_false_iff_ne.2 qO;have D1:=ltI 0 n;obtain ⟨H,V,W,a1,b1,E1,⟨c1,d1,e1⟩,_,_,_,f1⟩:=cm (k:=1) (l:=x::l) (c:=c) 1 rfl (by rw [List.length_cons,<-M];exact N) (by simp) (by simp;omega) Z0;rw [List.length_cons,<-M] at f1 b1;obtain ⟨X,Y,rfl,g1,p0⟩:=N.at_ qO;have Q:H=l:=by rw [a1];rfl
 obtain ⟨Z,I⟩:=gX (w.alloc (.cells #[i0,eL,eL,eS,eL,eS,eS,eS,i0,eS] 40));obtain ⟨B,C⟩:=gX (Z.alloc (.cells #[.slice V H W,i0] 224));have a0:Z.heap.size=w+1:=by rw [I];simp
 have F1:B.heap.size=w+2:=by rw [C];simp [a0]
 have b0:Below w w B:=by rw [C,I];exact ((bR _ _).alloc (lR _) _).alloc (by simp) _
 have i1:Blk B w 40 zcells:=by rw [C,I];exact (o9 w 40 zcells).alloc _
 have q0:Blk B (w+1) 224 [.slice V H W,.int .i64 0]:=by rw [C,<-a0];exact o9 Z _ _
 have r0:Rs B (w+1) (w+1) H false:=⟨V,W,q0,Far.of_rd ((c1.below b0).more qO) qO,d1,e1,qO,lR _⟩;have j1:=(b0.cell (p:=⟨X,Y,none⟩) g1).trans (p0 0 (.int .u8 x.toNat) rfl);have G1:x.toNat<256:=x.toNat_lt;have k1:IntKind.i64.wrap x.toNat=(x.toNat:Int):=qJ qO;have c0:=qI (Fc (w+1) (w+1) x H B r0 qO (by rw [Q];omega));rw [Q] at c0;have s0:=qI M;have H1:=qI Q;clear M Q p0 r0 q0;go_in;go_upto_region 4 with (fail);rw [<-I,<-C];clear I C a0;go_wp2_with fail;refine c0.mono ?_;rintro d0 t0 ⟨u0,a,s,d,t,u,e,v,f,y,g,z,i,j,k,m,o,I1,v0,rfl,w0,x0,y0,z0,l1,A0,B0,C0,D0,e0⟩;go_wp2_with fail;refine (w0 _).mono ?_;rintro d0 f0 ⟨rfl,E0⟩;clear w0 c0 j1 k1;obtain ⟨g0,R⟩:=gX (f0.alloc (.cells #[a,.slice s d t,.slice u e v,f,.slice y g z,i,j,k,m,o] 40));have hO:Blk g0 f0 40 (dP a (.slice s d t) (.slice u e v) f (.slice y g z) i j k m o):=by rw [R];exact o9 f0 _ _
 have m1:=A0.size;have D:Below t0 t0 g0:=E0.next (by rw [R];exact (bR _ _).alloc (lR _) _);have h0:=A0.trans (D.mono qO);have F0:=i1.below h0 qO;have n1:=l1.below D;have J1:=h0.size;have K1:=hO.lt;have L1:=lT m1 E0.size;have G0:=qI (oR a s d t u e v f y g z i j k m o g0 (x0.below D).1 (y0.below D).1 (z0.below D).1 B0 C0 D0);go_upto_region 5 with (fail);rw [<-R];clear R;obtain ⟨H0,I0,z2,J0,K0,z5,L0,M0,N0,O0⟩:=bg hO;go_wp2_with fail;refine G0.mono ?_;intro d0 r P0;obtain ⟨E,j0,o1,p1,Q0,rfl,R0,J,K⟩:=P0.any;clear P0 G0 H0 I0 z2 J0 K0 z5 L0 M0 N0 O0;have q1:=n1.below E;have r1:=F0.below E F0.lt;have s1:=hO.below E hO.lt;have F:=b0.trans ((h0.mono qO).trans (E.mono qO));have M1:=E.size;obtain ⟨N1,O1,t1,_⟩:=id q1;have S:=t1.c 1;have S0:Rd r r 1 (some ⟨X,Y,none⟩) (x::l).length (bc (x::l)):=by
  have:=(N.below F).more F.size;rwa [s0] at this
 have T0:n=(x::l).length:=by rw [List.length_cons];exact s0.out
 obtain ⟨k0,T⟩:=gX (ay geS ⟨a,d,e,f,g,i,j,k,m,o⟩);rw [<-T] at J K e0;have P1:=qI T;have HEL:=qI K;have U0:j0.length<=kaa:=by
  cases k0 with
  | false=>rw [(K.2 rfl)];decide
  | true=>
  have h2:=EF T.symm;rw [<-K.1 rfl] at h2;omega
 have V0:=qI (Dr o1 j0 p1 (some ⟨X,Y,none⟩) (x::l) c r _ _ R0 S0 U0 (by simp;omega));rw [<-T0] at V0;have HDec:=qI e0.out;clear T K e0 T0 S0 R0 U0 N;go_upto_region 6 with (fail);go_cut [42] (fun u0 u1=> ∃(U:Bool) (q:Nat),u0= .bool U/\Hid (U=false↔(v0=false/\k0=true/\j0=x::l))/\u1=r.drewN q)
 case first=>
  cases v0 with
  | true=>
   have v1:r.cell? ⟨w+1,1,none⟩=some (.int .i64 2):=S;clear S;go_wp2_with fail;go_meet;exact ⟨true,0,rfl,(by unfold Hid;simp),rfl⟩
  | false=>
  have v1:r.cell? ⟨w+1,1,none⟩=some (.int .i64 0):=S;clear S;cases k0 with
  | false=>
   have w1:(Q0 !=0)=true:=by rw [J];rfl
   clear J;go_wp2_with fail;go_meet;exact ⟨true,0,rfl,(by unfold Hid;simp),rfl⟩
  | true=>
  have w1:(Q0 !=0)=false:=by rw [J];rfl
  clear J;go_wp2_with fail;refine V0.mono ?_;rintro d0 Q1 ⟨W0,x1,rfl,X0,rfl⟩;have y1:=qI X0;clear X0;go_wp2_with fail;go_meet;exact ⟨!W0,x1,rfl,(by unfold Hid;rw [<-y1.out];cases W0<;>simp),rfl⟩
 case rest=>
 obtain ⟨U,q,rfl,ht,rfl⟩:=hcut;have Y0:=r1.drewN q;have z1:=s1.drewN q;cases U with
 | true=>
  have l0:Hid (aZ geS (x::l)=none):=by
   exact z167
  go_wp2_with ((refine dy (by rfl) _ (.tmp 2) (.tmp 43) rfl w.heap.size zcells rfl rfl 40 zcells Y0 qkR rfl (by decide) ?_;intro L m0 b));have O:=Go.run_loadVar_row (P:=an) L w 40 40 zcells.toArray (0,0) _ m0 Go.Proofs.Tryz.underlying40 rfl qkR;rw [l0];have G:r.grownBy L (some w.heap.size):=⟨b.os,b.tape,b.output,b.size,b.block⟩;refine bodyPost_ret (v:=.tuple #[.agg zcells.toArray,.int .i64 2]) ?_ rfl ⟨rfl,F.grown G F.size (fun a n0=>by cases n0;exact lR _)⟩;simp [results,Tryz.results96,asAddr,O]
 | false=>
 have l0:Hid (aZ geS (x::l)=some ⟨a,d,e,f,g,i,j,k,m,o⟩):=by
  exact z190
 obtain ⟨H0,I0,z2,J0,K0,z5,L0,M0,N0,O0⟩:=bg z1;go_wp2_with ((refine dy (by rfl) _ (.tmp 2) (.tmp 44) rfl w.heap.size [.int .i64 a,.slice s d t,.slice u e v,.string f,.slice y g z,.string i,.string j,.string k,.int .i64 m,.string o] rfl rfl 40 zcells Y0 qkR rfl (gn _ _ _ _ _ _ _ _ _ _ rfl rfl rfl) ?_;intro L m0 b));have O:=Go.run_loadVar_row (P:=an) L w 40 40 #[.int .i64 a,.slice s d t,.slice u e v,.string f,.slice y g z,.string i,.string j,.string k,.int .i64 m,.string o] (0,0) _ m0 Go.Proofs.Tryz.underlying40 rfl qkR;rw [l0];have G:r.grownBy L (some w.heap.size):=⟨b.os,b.tape,b.output,b.size,b.block⟩;have A1:=F.grown G F.size (fun a n0=>by cases n0;exact lR _);have o0:=D.next E;refine bodyPost_ret (v:=.tuple #[.agg #[.int .i64 a,.slice s d t,.slice u e v,f,.slice y g z,i,j,k,m,o],i0]) ?_ rfl ⟨a,s,d,t,u,e,v,f,y,g,z,i,j,k,m,o,rfl,rfl,(((x0.below o0).apart G qO).lower qO),(((y0.below o0).apart G qO).lower qO),(((z0.below o0).apart G qO).lower qO),A1,B0,C0,D0⟩;simp [results,Tryz.results96,asAddr,O]
theorem js (A b c w) (d:Rd w w.heap.size 1 A b.length (bc b)) (e:b.length<=c) (f:c<=maxLen) (g:b.length<=kab):
  Calls an 96 #[.slice A b c] w (gW w (aZ geS b)):=by
 cases b with
 | nil=>exact Fa A c w
 | cons h a=>
 have i:a.length<=140737488351231:=by rw [List.length_cons] at g;omega
 exact Fe A h a _ c w rfl d e f i
