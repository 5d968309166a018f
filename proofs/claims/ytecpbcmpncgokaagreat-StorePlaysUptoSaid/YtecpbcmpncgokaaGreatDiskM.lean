/- Walks and laws. Conditions: as stated. -/
import Derived.Test.YtecpbcmpncgokaaGreatTheirs10
set_option maxRecDepth 99999
set_option maxHeartbeats 25600000
set_option linter.all false
open Go.Instr renaming lookup->No
open Go.IntKind renaming i64->be
open Go.World renaming drew->pp
open Go.Proofs.Tryz renaming prog->an
open Go.RowKit Go.Dol
namespace Go.Dol
theorem BW (n:Nat):be.wrap (be.wrap n+1)=be.wrap ((n+1:Nat):Int):=z209
theorem sI (D n):thD D [] n=bK D n:=by
 unfold thD bK rdD;cases a:ab n<;>cases b:D.dark<;>simp [a]
theorem Ch (D a b):thD D [b] a=if ab a=false\/ab b=false then 1 else bK D a:=by
 unfold thD bK rdD;cases c:ab a<;>cases d:ab b<;>cases e:D.dark<;>simp [c,d]
theorem eM {a b:BA} (c:a=b):(a.toList==b.toList)=true:=by rw [c];exact beq_self_eq_true _
theorem eN {a b:BA} (h:a≠b):(a.toList==b.toList)=false:=z279
end Go.Dol
namespace Go.Proofs.YtecpbcmpncgokaaGreat
section
variable {w w':World} {g m:Nat} {D:Dk}
theorem BX (g i n w) (a:w.cell? ⟨g,i,none⟩=some (.int .i64 (bo n))) (b:w.frozen? ⟨g,i,none⟩=false):
  Calls an 173 #[.pointer (some ⟨g,i,none⟩),.int .i64 1] w fun c w'=>c= .returned (.int .i64 (bo (n+1)))/\w'=w.setCell ⟨g,i,none⟩ (.int .i64 (bo (n+1))):=by
 have d:=run_call_add (P:=an) Tryz.func244 qkR qkR qkR .i64 qkR (y:=1) (s:=bo (n+1)) a b (by
  have:=BW n;unfold bo;simp only [go_sem];rw [<-this];simp [IntKind.wrap_i64])
 go_in;go_wp2_with fail;go_ret;exact ⟨rfl,rfl⟩
theorem BY (c:Dsk w g m D) (more fv) (a:0<more) (b:frD D<more):
  Calls an 104 #[.pointer (some g),.int .i64 more,fv] w fun d w'=>d= .returned (.int .i64 4)/\w'=w:=by
 obtain ⟨e,f,h,i,j,k⟩:=c.cells;have l:decide (more>0)=true:=dT a;have n:decide (more>frD D)=true:=dT b;clear a b;go_in;go_wp2_with fail;go_ret;exact ⟨rfl,rfl⟩
theorem kY (h:Dsk w g m D) (more fv) (d: ¬(0<more/\frD D<more)) (a:D.left=0):
  Calls an 104 #[.pointer (some g),.int .i64 more,fv] w (da w g m (5,{ D with dark:=true,left:=-1 })):=by
 obtain ⟨k,l,n,o,i,r⟩:=h.cells;have s:=h.free 4;have z5:=h.free 5;rw [a] at i;have b:w.grownBy ((w.setCell ⟨g,5,none⟩ (.bool true)).setCell ⟨g,4,none⟩ (.int .i64 (-1))) (some g):=ae (ae (gR w _) 5 _) 4 _;have e:Dsk ((w.setCell ⟨g,5,none⟩ (.bool true)).setCell ⟨g,4,none⟩ (.int .i64 (-1))) g m { D with dark:=true,left:=-1 }:=by
  obtain ⟨t,f,_⟩:=id h;rw [a] at f;exact h.turn (D':={ D with dark:=true,left:=-1 }) rfl ((f.set 5 _).set 4 _) b
 clear a;by_cases c:0<more
 ·have j:decide (more>0)=true:=dT c;have u:=dfX (more>frD D);clear d c;go_in;go_wp2_with fail;go_ret;exact ⟨rfl,e,OP b⟩
 have j:=dfX (more>0);clear d c;go_in;go_wp2_with fail;go_ret;exact ⟨rfl,e,OP b⟩
def dC (k:Int):Int:=if 0<k then k-1 else k
theorem kZ (h:Dsk w g m D) (a:Int) (k:Nat) (caps) (l: ∀b,(callFunc k caps).run an b= .ok (.enter k caps) b) (h1: ¬(0<a/\frD D<a)) (h2:D.left≠0) (h3: -1<=D.left) (h4:D.left<=kal) (f:World->Prop)
  (c: ∀d,Blk d g 145 (io D.cap m (be.wrap (frD D-a)) (D.done+1) (dC D.left) D.dark)->w.grownBy d (some g)->Calls an k caps d (fun e w'=>e= .returned (.tuple #[])/\f w')):
  Calls an 104 #[.pointer (some g),a,.func (.func k) #[] caps] w fun e w'=>e= .returned (.int .i64 0)/\f w':=by
 obtain ⟨n,o,q,r,s,t⟩:=h.cells;obtain ⟨u,hB,_⟩:=id h;have z2:=h.free 2;have v:=h.free 4;have x:=beq_eq_false_iff_ne.2 h2;obtain ⟨fr,i⟩:=gY (be.wrap (frD D-a));rw [i] at c;have hC: ∀b:World,b.cell? ⟨g,3,none⟩=some (.int .i64 (bo D.done))->b.frozen? ⟨g,3,none⟩=false->Calls an 173 #[.pointer (some ⟨g,3,none⟩),.int .i64 1] b fun e w'=>e= .returned (.int .i64 (bo (D.done+1)))/\w'=b.setCell ⟨g,3,none⟩ (.int .i64 (bo (D.done+1))):=fun b=>BX g 3 D.done b;have HD:=qI c;clear c;by_cases hm:0<a
 ·have j:decide (a>0)=true:=dT hm;have y:=dfX (a>frD D);exact z221
 have j:decide (a>0)=false:=qF hm;exact z221
end
section
variable {w w':World} {g m:Nat} {D:Dk}
theorem Tw.toOp {w0 w1} (b:Below w0.heap.size w0 w1) {r e} (a:da w1 g m r e w'):da w0 g m r e w':=⟨a.1,a.2.1,(B7 b).step a.2.2⟩
theorem BZ (w):Calls an 236 #[] w fun a w'=>a= .returned (.tuple #[])/\w'=w:=by
 go_in;go_wp2_with fail;go_end0;exact ⟨rfl,rfl⟩
theorem Ca (h:Dsk w g m D) (c:OkW D):Calls an 104 #[.pointer (some g),i0,.func (.func 236) #[] #[]] w (da w g m (aW D D.l)):=by
 by_cases a:D.left=0
 ·have b:aW D D.l=(5,{ D with dark:=true,left:=-1 }):=if_pos a;rw [b];exact kY h 0 _ qO a
 have b:aW D D.l=(0,{ D with left:=dC D.left,done:=D.done+1,l:=D.l }):=if_neg a;rw [b];refine (kZ h 0 _ #[] (enters_of Tryz.func236 qkR rfl _) qO a c.left0 c.left1 (fun w1=>Dsk w1 g m { D with left:=dC D.left,done:=D.done+1,l:=D.l }/\Tw w w1 g m) (fun w1 f d=> ?_)).mono ?_
 ·refine (BZ w1).mono ?_;rintro e j ⟨rfl,rfl⟩;refine ⟨rfl,h.turn (D':={ D with left:=dC D.left,done:=D.done+1,l:=D.l }) rfl ?_ d,OP d⟩;have i:frD { D with left:=dC D.left,done:=D.done+1,l:=D.l }=be.wrap (frD D-0):=jg rfl (by simp);rw [i];exact f
 exact z109
theorem Cb (o:Dsk w g m D) (h:OkW D) (n) (p:n.size<=maxLen):Calls an 165 #[.pointer (some g),.string n] w (da w g m (bd D n)):=by
 obtain ⟨i,a⟩:=gX (bK D n);have c:=oc o h.ord w none [] 0 0 rfl (by simp) n (j9 _ _ _ _) (lR _) p;rw [sI,<-a] at c;by_cases b:i=0
 ·have d:Hid (bd D n=aW D D.l):=by unfold Hid bd;rw [if_neg (by rw [<-a,b];simp)]
  rw [b] at c;clear a b;have q:=qI c;clear c;go_in;go_wp2_with ((go_at_call 103;refine q.mono ?_;rintro j r ⟨rfl,e,f⟩));refine (Ca f h).mono ?_;intro j t k;have s:=Tw.toOp e k;obtain ⟨rfl,_,_⟩:=id k;go_wp2_with fail;go_ret;rw [d];exact s
 have d:Hid (bd D n=(i,D)):=by unfold Hid bd;rw [if_pos (by rw [<-a];exact b),<-a]
 have u:=beq_eq_false_iff_ne.2 b;clear a b;go_in;go_wp2_with ((go_at_call 103;refine c.mono ?_;rintro j r ⟨rfl,e,f⟩));go_ret;rw [d];exact ⟨rfl,f,B7 e⟩
end
section
variable {w w':World} {g m:Nat} {D:Dk}
theorem Cc (x y n) (c:n.size<=maxLen) (al w) (d:MapL an 9 w m al) (l:w.cell? ⟨g,1,none⟩=some (.map (some m)))
  (o:w.cell? ⟨x,0,none⟩=some (.pointer (some g))) (p:w.cell? ⟨y,0,none⟩=some (.string n)):
  Calls an 106 #[.pointer (some ⟨x,0,none⟩),.pointer (some ⟨y,0,none⟩)] w fun e w'=>e= .returned (.tuple #[])/\ ∃al',MapL an 9 w' m al'/\kR al (.string n) al'/\w.grownBy w' (some m):=by
 obtain ⟨q,f⟩:=im n c;obtain ⟨al',h,b,i,j,a⟩:=(d.drewN 1).drop il D7 f 0;change (Builtin.delete_ #[140,9] 0 #[.map (some m),.string n]).run an w.drew= .ok (.tuple #[]) h at b;go_in;go_wp2_with fail;go_still_tail 5,qkR;change wpList _ _ _ _ _ w.drew;generalize k:w.drew=W at b;go_wp2_with fail;go_end0;refine ⟨rfl,al',i,j,?_⟩;subst k;exact ⟨a.os,a.tape,a.output,a.size,a.block⟩
theorem Cd (h:Dsk w g m D) (d:OkW D) (n b) (i:aa D.l n=some b) (more) (L:more= -dM D n) (x y) (s:x≠g) (t:y≠g) (u:x<w.heap.size) (v:y<w.heap.size)
  (z:w.cell? ⟨x,0,none⟩=some (.pointer (some g))) (A:w.cell? ⟨y,0,none⟩=some (.string n)):
  Calls an 104 #[.pointer (some g),.int .i64 more,.func (.func 106) #[] #[.pointer (some ⟨x,0,none⟩),.pointer (some ⟨y,0,none⟩)]] w (da w g m (aW D (am D.l n))):=by
 have M:dM D n=16+n.size+b:=by unfold dM;rw [i]
 have N:=dN (d.named i);have k: ¬(0<more/\frD D<more):=qO;by_cases f:D.left=0
 ·have j:aW D (am D.l n)=(5,{ D with dark:=true,left:=-1 }):=if_pos f;rw [j];exact kY h more _ k f
 have j:aW D (am D.l n)=(0,{ D with left:=dC D.left,done:=D.done+1,l:=am D.l n }):=if_neg f;rw [j];refine (kZ h more _ #[.pointer (some x),.pointer (some y)] (enters_of Tryz.func106 qkR rfl _) k f d.left0 d.left1 (fun w1=>Dsk w1 g m { D with left:=dC D.left,done:=D.done+1,l:=am D.l n }/\Tw w w1 g m) (fun w1 hB a=> ?_)).mono ?_
 ·obtain ⟨B,o,q,C⟩:=id h;have hgm:=q.blk_ne o;have r:=q.grown a (fun e=>by injection e with e;exact hgm e.symm);have E:=C.keep a (v8 o (by decide) (zL));have F:=hB.c 1;have G:=(k7 (a.block x u (fun e=>by injection e with e;exact s e))).trans z;have H:=(k7 (a.block y v (fun e=>by injection e with e;exact t e))).trans A;refine (Cc x y n (by unfold maxLen;omega) B w1 r F G H).mono ?_;rintro e O ⟨rfl,I,J,K,hg2⟩;refine ⟨rfl,⟨I,?_,J,?_⟩,(OP a).step (Tw.grownM hg2)⟩
  ·have e1:frD { D with left:=dC D.left,done:=D.done+1,l:=am D.l n }=be.wrap (frD D-more):=jg rfl (by
    have:=oh i;simp only;omega)
   exact z122
  exact (E.drop d.ord K).keep hg2 (Ow r)
 exact z109
theorem oj (E:Dsk w g m D) (c:OkW D) (n) (L:n.size<=maxLen):Calls an 42 #[.pointer (some g),.string n] w (da w g m (aB D n)):=by
 obtain ⟨F,a⟩:=gX (bK D n);have ha:=(bR w w).alloc (lR _) (.cells #[.pointer (some g)] 25);have G:=o9 w 25 [.pointer (some g)];have H:=ha.alloc ha.size (.cells #[n] 9);have t:=o9 (w.alloc (.cells #[.pointer (some g)] 25)) 9 [.string n];have u:=G.alloc (.cells #[n] 9);rw [u7] at t;obtain ⟨j,d⟩:=gX ((w.alloc (.cells #[.pointer (some g)] 25)).alloc (.cells #[n] 9));change Blk _ _ _ _ at u;have k:Blk j w 25 [.pointer (some g)]:=by rw [d];exact u
 have o:Blk j (w+1) 9 [.string n]:=by rw [d];exact t
 have e:Below w w j:=by rw [d];exact H
 have M:=E.below e;have f:=oc M c.ord j none [] 0 0 rfl (by simp) n (j9 _ _ _ _) (lR _) L;obtain ⟨Z,a0⟩:=E.lt;rw [sI,<-a] at f;clear G u t H ha;by_cases b:F=0
 ·obtain ⟨N,_,v,h⟩:=iq (a.symm.trans b);have x:Hid (aB D n=aW D (am D.l n)):=by unfold Hid aB;rw [if_neg (by rw [<-a,b];simp)]
  rw [b] at f;clear a b;have I:=qI f;clear f;have b0:=c.small h;have c0:=dN N;obtain ⟨p,y⟩:=gX (dM D n);have O:p=16+n.size+v:=by rw [y];unfold dM;rw [h]
  have d0:be.wrap (-p)= -p:=qJ qO;have J:=qI y;clear O y;go_in;go_wp2_with fail;rw [<-d];refine I.mono ?_;rintro z P ⟨rfl,i,q⟩;have r:=k.below i k.lt;have s:=o.below i o.lt;have A:=r.c 0;have B:=s.c 0;have K:=sx q.drew c.ord n qO (fun v h=>c.small' h);rw [<-J] at K;have Q:=Cd q.drew c n v h (-p) (by rw [J]) w (w+1) qO qO r.lt s.lt A B;have R:=e.trans (i.mono e.size);have S:=r.lt;have T:=s.lt;clear r s k o I;go_wp2_with fail;go_region_held3 (fun w'=>w'.cell? w=some (.pointer (some g))/\w'.cell? ⟨w.heap.size+1,0,none⟩=some (.string n)) (first | exact ⟨U,V⟩ | go_keep) ((first
   | (go_at_call 105;(with_reducible refine K.mono ?_);rintro z W ⟨rfl,X⟩;obtain rfl:=X.symm)
   | (go_at_call 104;(with_reducible refine Q.mono ?_);rintro z W ⟨rfl,Y,C⟩;
          have U:=(k7 (C.block w S qO qO)).trans A;
          have V:=(k7 (C.block (w.heap.size+1) T qO qO)).trans B)))
  all_goals go_wp2_with fail
  all_goals go_ret
  all_goals rw [x]
  all_goals exact ⟨rfl,Y,((B7 R).drew).step C⟩
 have x:Hid (aB D n=(F,D)):=by unfold Hid aB;rw [if_pos (by rw [<-a];exact b),<-a]
 have e0:=beq_eq_false_iff_ne.2 b;clear a b;have A:=k.c 0;have B:=o.c 0;go_in;go_wp2_with fail;rw [<-d];refine f.mono ?_;rintro z P ⟨rfl,i,q⟩;go_wp2_with fail;go_ret;rw [x];exact ⟨rfl,q,B7 (e.trans (i.mono e.size))⟩
end
theorem Rd.new2v (w:World) (T u v):Rd (w.alloc (.cells #[u,v] T)) (w+1) 1 (some ⟨w,0,none⟩) 2 [u,v]:=by
 have a:=o9 w T [u,v];refine ⟨rfl,fun _=>⟨w,0,rfl,qO,fun c d b=> ?_⟩⟩;rw [x9];rw [show ([u,v]:List Value).toArray= #[u,v] from rfl] at a;rw [a.cell];exact b
section
variable {w w':World} {g m:Nat} {D:Dk}
theorem Ce (xo xb xd xn n) (J:n.size<=maxLen) (al o b Ao Ab co cb w) (K:MapL an 9 w m al) (t:w.cell? ⟨g,1,none⟩=some (.map (some m)))
  (u:w.cell? ⟨xo,0,none⟩=some (.slice Ao o.length co)) (x:w.cell? ⟨xb,0,none⟩=some (.slice Ab b.length cb)) (y:w.cell? ⟨xd,0,none⟩=some (.pointer (some g))) (hN:w.cell? ⟨xn,0,none⟩=some (.string n))
  (z:Rd w w 1 Ao o.length (bc o)) (A:Rd w w 1 Ab b.length (bc b)) (L:o.length+b<=kaa) (M:xo≠m/\xb≠m/\xd≠m/\xn≠m/\g≠m):
  Calls an 108 #[.pointer (some ⟨xo,0,none⟩),.pointer (some ⟨xb,0,none⟩),.pointer (some ⟨xd,0,none⟩),.pointer (some ⟨xn,0,none⟩)] w fun a w'=>
   a= .returned (.tuple #[])/\ ∃al' v,MapL an 9 w' m al'/\MPut al (.string n) v al'/\Byt w' v (o++b)/\w.grownBy w' (some m):=by
 obtain ⟨l0,N⟩:=im n J;have O:=o7 w _ t;have P:=o7 w _ u;have Q:=o7 w _ x;have R:=o7 w _ y;have S:=o7 w _ hN;have f:Below w w (pp (w.alloc (.cells #[.slice Ao o co,.slice Ab b cb] 36))):=((bR w w).alloc (lR _) _).drew;have B:=z.belowW f (lR _);have C:=A.belowW f (lR _);have E:(pp (w.alloc (.cells #[.slice Ao o co,.slice Ab b cb] 36))).heap.size=w+1:=u7 ..;have F:=(Rd.new2v w 36 (.slice Ao o co) (.slice Ab b cb)).drew;have h:dA [(o,Ao,co),(b,Ab,cb)]=o++b:=by simp [dA]
 have i:=BR (some ⟨w,0,none⟩) [(o,Ao,co),(b,Ab,cb)] 2 2 rfl (pp (w.alloc (.cells #[.slice Ao o co,.slice Ab b cb] 36))) (by rw [E];exact F) (by rw [h,b7];exact L) qO
  (qI (by
   intro m0 j;rw [E];rcases i8.1 j with rfl | j
   ·exact B.more qO
   ·obtain rfl:=i7.1 j;exact C.more qO))
 rw [h] at i;have T:=qI i;clear i h F B C z A;obtain ⟨U,V,W,X,Y⟩:=M;go_in;go_wp2_with fail;go_region_held3 (fun w'=>w'.cell? ⟨g,1,none⟩=some (.map (some m))/\w'.cell? xo=some (.slice Ao o co)/\w'.cell? xb=some (.slice Ab b cb)/\w'.cell? xd=some (.pointer (some g))/\w'.cell? xn=some (.string n))
  (first | exact ⟨Z,a0,b0,c0,d0⟩ | exact ⟨k,l,q,r,s⟩ | go_keep) ((first
   | (go_at_call 109;(with_reducible refine T.out.mono ?_);rintro a e ⟨e0,f0,g0,G,rfl,h0,i0,_,_⟩;
          have c:=f.trans (i0.mono (by simp));have k:=(c.cell (p:=⟨g,1,none⟩) O).trans t;have l:=(c.cell (p:=⟨xo,0,none⟩) P).trans u;have q:=(c.cell (p:=⟨xb,0,none⟩) Q).trans x;have r:=(c.cell (p:=⟨xd,0,none⟩) R).trans y;have s:=(c.cell (p:=⟨xn,0,none⟩) S).trans hN;have H:=K.belowW c;obtain ⟨al',n0,o0,j0,k0,d⟩:=H.update il D7 N (.slice f0 e0 g0);have Z:=(k7 (d.block g (o7 e _ k) (fun a=>by injection a with a;exact Y a))).trans k;have a0:=(k7 (d.block xo (o7 e _ l) (fun a=>by injection a with a;exact U a))).trans l;have b0:=(k7 (d.block xb (o7 e _ q) (fun a=>by injection a with a;exact V a))).trans q;have c0:=(k7 (d.block xd (o7 e _ r) (fun a=>by injection a with a;exact W a))).trans r;
          have d0:=(k7 (d.block xn (o7 e _ s) (fun a=>by injection a with a;exact X a))).trans s)))
 all_goals go_wp2_with fail
 all_goals go_end0
 refine ⟨rfl,al',_,j0,k0,?_,?_⟩
 ·have I:=Byt.own h0;rw [G] at I;rw [G];exact I.keep d (Ow H)
 exact aq (ax c _) d
theorem Cf (h:Dsk w g m D) (d:OkW D) (n) (z:ab n=true) (B o b Ao Ab co cb) (q:(aa D.l n).getD []=o) (a0:b.length<=64) (more) (A:more=cJ D n b) (r: ¬(0<more/\frD D<more)) (xo xb xd xn)
  (f:xo≠m/\xb≠m/\xd≠m/\xn≠m) (i:xo≠g/\xb≠g/\xd≠g/\xn≠g) (C:Far w 0 Ao o) (E:Far w B Ab b) (F:B<=g)
  (h2:w.cell? ⟨xo,0,none⟩=some (.slice Ao o co)) (s:w.cell? ⟨xb,0,none⟩=some (.slice Ab b cb)) (t:w.cell? ⟨xd,0,none⟩=some (.pointer (some g))) (u:w.cell? ⟨xn,0,none⟩=some (.string n)):
  Calls an 104 #[.pointer (some g),.int .i64 more,.func (.func 108) #[] #[.pointer (some ⟨xo,0,none⟩),.pointer (some ⟨xb,0,none⟩),.pointer (some ⟨xd,0,none⟩),.pointer (some ⟨xn,0,none⟩)]] w (da w g m (aW D (ag D.l n (o++b)))):=by
 have b0:=dN z;have c0:o.length<=kam:=by
  rw [<-q];cases c:aa D.l n with
  | none=>simp
  | some G=>
  exact d.small c
 have H:=o7 w _ h2;have I:=o7 w _ s;have J:=o7 w _ t;have K:=o7 w _ u;have L:ar (ag D.l n (o++b))=ar D.l+more:=by
  rw [ip d.ord,A,<-q];unfold cJ;cases aa D.l n with
  | none=>simp;omega
  | some G=>simp;omega
 by_cases c:D.left=0
 ·have j:aW D (ag D.l n (o++b))=(5,{ D with dark:=true,left:=-1 }):=if_pos c;rw [j];exact kY h more _ r c
 have j:aW D (ag D.l n (o++b))=(0,{ D with left:=dC D.left,done:=D.done+1,l:=ag D.l n (o++b) }):=if_neg c;rw [j];refine (kZ h more _ #[.pointer (some xo),.pointer (some xb),.pointer (some xd),.pointer (some xn)] (enters_of Tryz.func108 qkR rfl _) r c d.left0 d.left1 (fun w1=>Dsk w1 g m { D with left:=dC D.left,done:=D.done+1,l:=ag D.l n (o++b) }/\Tw w w1 g m) (fun w1 hB a=> ?_)).mono ?_
 ·obtain ⟨M,k,v,N⟩:=id h;have hgm:=v.blk_ne k;have x:=v.grown a (fun e=>by injection e with e;exact hgm e.symm);have y:=v8 (B:=0) k (by decide) (zL);have O:=N.keep a y;have P:=hB.c 1;have Q:=C.keep a y;have R:=E.keep a (v8 k (by decide) F);have S:=(k7 (a.block xo H (fun e=>by injection e with e;exact i.1 e))).trans h2;have T:=(k7 (a.block xb I (fun e=>by injection e with e;exact i.2.1 e))).trans s;have U:=(k7 (a.block xd J (fun e=>by injection e with e;exact i.2.2.1 e))).trans t;have V:=(k7 (a.block xn K (fun e=>by injection e with e;exact i.2.2.2 e))).trans u;refine (Ce xo xb xd xn n (by unfold maxLen;omega) M o b Ao Ab co cb w1 x P S T U V Q.1 R.1 qO ⟨f.1,f.2.1,f.2.2.1,f.2.2.2,hgm⟩).mono ?_;rintro e d0 ⟨rfl,W,e0,X,Y,Z,hg2⟩;refine ⟨rfl,⟨W,?_,X,?_⟩,(OP a).step (Tw.grownM hg2)⟩
  ·have e1:frD { D with left:=dC D.left,done:=D.done+1,l:=ag D.l n (o++b) }=be.wrap (frD D-more):=jg rfl L;exact z122
  exact (O.keep hg2 (Ow x)).put d.ord Y Z
 exact z109
end
section
variable {w w':World} {g m:Nat} {D:Dk}
theorem Dsk.find1 (h:Dsk w g m D) (i:InOrder D.l) (n) (j:n.size<=maxLen):
  ∃d A c,Hid ((aa D.l n).getD []=d)/\Far w 0 A d/\ ∀a:World,a.heap[m]?=w.heap[m]?->(No 140 (.map (some m)) (.string n) true).run an a= .ok (.tuple #[.slice A d.length c,.bool (aa D.l n).isSome]) a:=by
 rcases h.find i n j with ⟨b,e,_⟩ | ⟨k,A,c,b,o,p,q,e,_⟩
 ·refine ⟨[],none,0,qI (by rw [b];rfl),Far.nil,fun a f=> ?_⟩;rw [e a f,b];rfl
 refine ⟨k,A,c,qI (by rw [b];rfl),o,fun a f=> ?_⟩;rw [e a f,b];rfl
theorem sJ (h:Dsk w g m D) (a:OkW D) (n) (c:ab n=true) (B o b Ao Ab co cb) (d:(aa D.l n).getD []=o) (f:b.length<=64) (more) (i:more=cJ D n b) (xo xb xd xn)
  (j:xo≠m/\xb≠m/\xd≠m/\xn≠m) (k:xo≠g/\xb≠g/\xd≠g/\xn≠g) (q:Far w 0 Ao o) (r:Far w B Ab b) (s:B<=g)
  (t:w.cell? ⟨xo,0,none⟩=some (.slice Ao o co)) (u:w.cell? ⟨xb,0,none⟩=some (.slice Ab b cb)) (v:w.cell? ⟨xd,0,none⟩=some (.pointer (some g))) (x:w.cell? ⟨xn,0,none⟩=some (.string n)):
  Calls an 104 #[.pointer (some g),.int .i64 more,.func (.func 108) #[] #[.pointer (some ⟨xo,0,none⟩),.pointer (some ⟨xb,0,none⟩),.pointer (some ⟨xd,0,none⟩),.pointer (some ⟨xn,0,none⟩)]] w (da w g m (cy D more (ag D.l n (o++b)))):=by
 unfold cy;by_cases hr:0<more/\frD D<more
 ·rw [if_pos hr];exact z281
 rw [if_neg hr];exact Cf h a n c B o b Ao Ab co cb d f more i hr xo xb xd xn j k q r s t u v x
theorem Cg (S:Dsk w g m D) (T:OkW D) (n) (A0:n.size<=maxLen) (B A b c) (B0:Far w B A b) (k0:B<=g):
  Calls an 43 #[.pointer (some g),.string n,.slice A b c] w (da w g m (aF D n b)):=by
 have U:=(bR w w).alloc (lR _) (.cells #[.pointer (some g)] 25);have V:=U.alloc U.size (.cells #[n] 9);have l0:=V.alloc V.size (.cells #[.slice A b c] 36);have m0:=((o9 w 25 [.pointer (some g)]).alloc (.cells #[n] 9)).alloc (.cells #[.slice A b c] 36);have W:=(o9 (w.alloc (.cells #[.pointer (some g)] 25)) 9 [.string n]).alloc (.cells #[.slice A b c] 36);have X:=o9 ((w.alloc (.cells #[.pointer (some g)] 25)).alloc (.cells #[n] 9)) 36 [.slice A b c];rw [u7] at W;rw [u7,u7] at X;obtain ⟨r,k⟩:=gX (((w.alloc (.cells #[.pointer (some g)] 25)).alloc (.cells #[n] 9)).alloc (.cells #[.slice A b c] 36));have n0:Blk r w 25 [.pointer (some g)]:=by rw [k];exact m0
 have o0:Blk r (w+1) 9 [.string n]:=by rw [k];exact W
 have p0:Blk r (w+1+1) 36 [.slice A b c]:=by rw [k];exact X
 have u:Below w w r:=by rw [k];exact l0
 have Y:r.heap.size=w+1+1+1:=by rw [k];simp
 obtain ⟨G0,H0⟩:=S.lt;clear m0 W X U V l0;by_cases M:64<b.length
 ·have v:Hid (aF D n b=(1,D)):=if_pos (.inl M);have C0:=dtX ((b:Int)>64);have q0:=S.below u;clear M;rw [k] at q0 u;go_in;go_wp2_with fail;go_ret;rw [v];exact ⟨rfl,q0,B7 u⟩
 have C0:=dfX ((b:Int)>64);have r0:b.length<=64:=qO;have o:=u.alloc u.size (.cells #[n] 9);have N:=NX r 9 (.string n);obtain ⟨a,h⟩:=gX (r.alloc (.cells #[n] 9));have Z:Blk a w 25 [.pointer (some g)]:=by rw [h];exact n0.alloc _
 have a0:Blk a (w+1) 9 [.string n]:=by rw [h];exact o0.alloc _
 have b0:Blk a (w+1+1) 36 [.slice A b c]:=by rw [h];exact p0.alloc _
 rw [<-h] at o N;have s0:a.heap.size=w+1+1+1+1:=by rw [h,u7,Y]
 rw [Y] at N;rw [k] at h;have x:=S.below o;have t0:=B0.below o;have y:=oa x _ _ [n] 1 1 rfl N (by simp);obtain ⟨u0,d⟩:=gX (rdD D [n]);rw [<-d] at y;clear n0 o0 p0 N u Y k;by_cases z:u0=0
 ·have D0:ab n=true/\D.dark=false:=by
   unfold rdD at d;rw [z] at d;cases E:ab n with
   | false=>rw [if_pos (by simp [E])] at d;cases d
   | true=>
   rw [if_neg (by simp [E])] at d;cases O:D.dark with
   | true=>rw [if_pos O] at d;cases d
   | false=>exact ⟨rfl,rfl⟩
  obtain ⟨P,E0⟩:=D0;have I0:=dN P;obtain ⟨f,i,j,c0,v0,C⟩:=x.find1 T.ord n A0;have v:Hid (aF D n b=cy D (cJ D n b) (ag D.l n (f++b))):=by
   unfold Hid aF;rw [if_neg (by rw [P];simp;omega),if_neg (by rw [E0];decide),c0]
  rw [z] at y;have Q:=qI y;have w0:=Z.c 0;have x0:=a0.c 0;have y0:=b0.c 0;obtain ⟨_,J0,_⟩:=x.cells;have K0:=qiJ (16+n.size);have L0:be.wrap (b+(16+n.size))=(b:Int)+(16+n.size):=qJ qO;clear y d z M;cases q:(aa D.l n).isSome with
  | true=>
   have F:Hid ((b:Int)=cJ D n b):=by
    unfold Hid cJ;cases d0:aa D.l n with
    | none=>rw [d0] at q;cases q
    | some c=>simp
   rw [q] at C;have s:=qI C;have G:m<a:=qO;have e0:m≠a:=qO;have e:Below a a (pp (a.alloc (.cells #[.slice i f j] 36))):=((bR a a).alloc (lR _) _).drew;have t:=(o9 a 36 [.slice i f j]).drew;rw [s0] at t;have H:(pp (a.alloc (.cells #[.slice i f j] 36))).cell? ⟨w+1+1+1+1,0,none⟩=some (.slice i f j):=by
    have:=t.cell 0;exact this
   have I:=(e.cell (p:=⟨w+1+1,0,none⟩) b0.lt).trans y0;have J:=(e.cell (p:=⟨w,0,none⟩) Z.lt).trans w0;have K:=(e.cell (p:=⟨w+1,0,none⟩) a0.lt).trans x0;have f0:=qI (sJ (x.below e) T n P B f b i A j c c0.out r0 (b.length:Int) F.out (w+1+1+1+1) (w+1+1) w (w+1) qO qO (v0.below e) (t0.below e) k0 H I J K);have g0:=o.trans (e.mono o.size);clear H I J K t;clear C q;go_in;go_wp2_with fail;rw [<-h];clear h;refine Q.mono ?_;rintro R z0 ⟨rfl,L⟩;obtain rfl:=L.symm;go_wp2_with fail;go_region_held3 (fun w'=>w'.cell? w=some (.pointer (some g))/\w'.cell? ⟨w+1,0,none⟩=some (.string n)/\w'.cell? ⟨g,1,none⟩=some (.map (some m))/\(No 140 (.map (some m)) (.string n) true).run an w'= .ok (.tuple #[.slice i f j,true]) w')
    ((go_split_ands;refine ⟨by go_keep,by go_keep,by go_keep,?_⟩;first | exact s.out _ rfl | exact s.out _ (C7 a _ m G) | exact s.out _ ((F9 _ _ _ m e0).trans (C7 a _ m G)))) (fail)
   all_goals go_wp2_with fail
   all_goals have h0:=f0.out
   all_goals refine h0.mono ?_
   all_goals rintro R F0 ⟨rfl,i0,j0⟩
   all_goals go_wp2_with fail
   all_goals go_ret
   all_goals rw [v,<-F]
   all_goals exact ⟨rfl,i0,(B7 g0).step j0⟩
  | false=>
  have F:Hid ((b:Int)+(16+n.size)=cJ D n b):=by
   unfold Hid cJ;cases d0:aa D.l n with
   | none=>rfl
   | some c=>rw [d0] at q;cases q
  rw [q] at C;have s:=qI C;have G:m<a:=qO;have e0:m≠a:=qO;have e:Below a a (pp (a.alloc (.cells #[.slice i f j] 36))):=((bR a a).alloc (lR _) _).drew;have t:=(o9 a 36 [.slice i f j]).drew;rw [s0] at t;have H:(pp (a.alloc (.cells #[.slice i f j] 36))).cell? ⟨w+1+1+1+1,0,none⟩=some (.slice i f j):=by
   have:=t.cell 0;exact this
  have I:=(e.cell (p:=⟨w+1+1,0,none⟩) b0.lt).trans y0;have J:=(e.cell (p:=⟨w,0,none⟩) Z.lt).trans w0;have K:=(e.cell (p:=⟨w+1,0,none⟩) a0.lt).trans x0;have f0:=qI (sJ (x.below e) T n P B f b i A j c c0.out r0 ((b:Int)+(16+n.size)) F.out (w+1+1+1+1) (w+1+1) w (w+1) qO qO (v0.below e) (t0.below e) k0 H I J K);have g0:=o.trans (e.mono o.size);clear H I J K t;clear C q;go_in;go_wp2_with fail;rw [<-h];clear h;refine Q.mono ?_;rintro R z0 ⟨rfl,L⟩;obtain rfl:=L.symm;go_wp2_with fail;go_region_held3 (fun w'=>w'.cell? w=some (.pointer (some g))/\w'.cell? ⟨w+1,0,none⟩=some (.string n)/\w'.cell? ⟨g,1,none⟩=some (.map (some m))/\(No 140 (.map (some m)) (.string n) true).run an w'= .ok (.tuple #[.slice i f j,false]) w')
   ((go_split_ands;refine ⟨by go_keep,by go_keep,by go_keep,?_⟩;first | exact s.out _ rfl | exact s.out _ (C7 a _ m G) | exact s.out _ ((F9 _ _ _ m e0).trans (C7 a _ m G)))) (fail)
  all_goals go_wp2_with fail
  all_goals have h0:=f0.out
  all_goals refine h0.mono ?_
  all_goals rintro R F0 ⟨rfl,i0,j0⟩
  all_goals go_wp2_with fail
  all_goals go_ret
  all_goals rw [v,<-F]
  all_goals exact ⟨rfl,i0,(B7 g0).step j0⟩
 have v:Hid (aF D n b=(u0,D)):=by
  unfold Hid aF;unfold rdD at d;cases E:ab n with
  | false=>
   rw [if_pos (by simp [E])] at d;rw [if_pos (.inr rfl),d]
  | true=>
  rw [if_neg (by simp [E])] at d;cases O:D.dark with
  | true=>
   rw [if_pos O] at d;rw [if_neg (by simp;omega),if_pos rfl,d]
  | false=>
  rw [if_neg (by rw [O];decide)] at d;exact absurd d z
 have M0:=beq_eq_false_iff_ne.2 z;clear d z M;have Q:=qI y;clear y;go_in;go_wp2_with fail;rw [<-h];clear h;refine Q.mono ?_;rintro R z0 ⟨rfl,L⟩;obtain rfl:=L.symm;go_wp2_with fail;go_ret;rw [v];exact ⟨rfl,x,B7 o⟩
end
section
variable {w w':World} {g m:Nat} {D:Dk}
theorem Ci (xd xa xb a b) (ha:a.size<=maxLen) (G:b.size<=maxLen) (al v w) (s:MapL an 9 w m al) (t:w.cell? ⟨g,1,none⟩=some (.map (some m)))
  (u:w.cell? ⟨xd,0,none⟩=some (.pointer (some g))) (x:w.cell? ⟨xa,0,none⟩=some (.string a)) (y:w.cell? ⟨xb,0,none⟩=some (.string b)) (H:xd≠m/\xa≠m/\xb≠m/\g≠m)
  (z: ∀k:World,k.heap[m]?=w.heap[m]?->(No 140 (.map (some m)) (.string a) false).run an k= .ok v k):
  Calls an 237 #[.pointer (some ⟨xd,0,none⟩),.pointer (some ⟨xa,0,none⟩),.pointer (some ⟨xb,0,none⟩)] w fun c w'=>
   c= .returned (.tuple #[])/\ ∃l al',MapL an 9 w' m al'/\kR al (.string a) l/\MPut l (.string b) v al'/\w.grownBy w' (some m):=by
 obtain ⟨V,I⟩:=im a ha;obtain ⟨W,J⟩:=im b G;obtain ⟨K,X,L,M⟩:=H;have N: ∀n,(No 140 (.map (some m)) (.string a) false).run an (w.drewN n)= .ok v (w.drewN n):=fun n=>z _ rfl;go_in;go_wp2_with fail;go_quiet (fail);go_wp2_with fail;obtain ⟨d,e⟩:=gX (w.drewN nq);rw [<-e];have A:MapL an 9 d m al:=by rw [e];exact s.drewN nq
 have B:w.grownBy d (some m):=by rw [e];exact ik (gR w _) nq
 have o:d.cell? ⟨g,1,none⟩=some (.map (some m)):=by rw [e];exact t
 have p:d.cell? xd=some (.pointer (some g)):=by rw [e];exact u
 have O:d.cell? xa=some (.string a):=by rw [e];exact x
 have q:d.cell? xb=some (.string b):=by rw [e];exact y
 obtain ⟨l,f,r,C,P,h⟩:=(A.drewN 1).drop il D7 I 0;change (Builtin.delete_ #[140,9] 0 #[.map (some m),.string a]).run an d.drew= .ok (.tuple #[]) f at r;have i:d.grownBy f (some m):=⟨h.os,h.tape,h.output,h.size,h.block⟩;clear e z N t u x y s A;go_still_tail 5,qkR;change wpList _ _ _ _ _ d.drew;generalize Q:d.drew=k at r;go_wp2_with fail;have R:=aq B i;have Y:=(k7 (i.block g (o7 d _ o) (fun c=>by injection c with c;exact M c))).trans o;have Z:=(k7 (i.block xd (o7 d _ p) (fun c=>by injection c with c;exact K c))).trans p;have a0:=(k7 (i.block xb (o7 d _ q) (fun c=>by injection c with c;exact L c))).trans q;obtain ⟨al',E,F,S,T,j⟩:=(C.drewN 1).update il D7 J v;change (Instr.mapUpdate 140 (.map (some m)) (.string b) v).run an f.drew= .ok () E at F;have U:f.grownBy E (some m):=⟨j.os,j.tape,j.output,j.size,j.block⟩;clear r Q h i o p O q C B;go_still_tail 6,qkR;change wpList _ _ _ _ _ f.drew;generalize b0:f.drew=W2 at F;go_wp2_with fail;go_end0;exact ⟨rfl,l,al',S,P,T,aq R U⟩
theorem sK (h:Dsk w g m D) (i:OkW D) (a b) (u:ab a=true) (v:ab b=true) (c) (j:aa D.l a=some c) (more) (x:more=fe D a b) (xd xa xb)
  (k:xd≠m/\xa≠m/\xb≠m) (n:xd≠g/\xa≠g/\xb≠g)
  (h2:w.cell? ⟨xd,0,none⟩=some (.pointer (some g))) (y:w.cell? ⟨xa,0,none⟩=some (.string a)) (z:w.cell? ⟨xb,0,none⟩=some (.string b)):
  Calls an 104 #[.pointer (some g),.int .i64 more,.func (.func 237) #[] #[.pointer (some ⟨xd,0,none⟩),.pointer (some ⟨xa,0,none⟩),.pointer (some ⟨xb,0,none⟩)]] w (da w g m (cy D (fC D a b) (ag (am D.l a) b c))):=by
 have o:=sH (b:=b) j v u;rw [<-x] at o;have W:=dN u;have X:=dN v;unfold cy;by_cases hr:0<more/\frD D<more
 ·rw [if_pos (o.1 hr)];exact z281
 rw [if_neg (fun e=>hr (o.2 e))];have C:ar (ag (am D.l a) b c)=ar D.l+more:=by rw [x];exact sG i.ord j
 have E:=o7 w _ h2;have F:=o7 w _ y;have G:=o7 w _ z;by_cases d:D.left=0
 ·have q:aW D (ag (am D.l a) b c)=(5,{ D with dark:=true,left:=-1 }):=if_pos d;rw [q];exact kY h more _ hr d
 have q:aW D (ag (am D.l a) b c)=(0,{ D with left:=dC D.left,done:=D.done+1,l:=ag (am D.l a) b c }):=if_neg d;rw [q];refine (kZ h more _ #[.pointer (some xd),.pointer (some xa),.pointer (some xb)] (enters_of Tryz.func237 qkR rfl _) hr d i.left0 i.left1 (fun w1=>Dsk w1 g m { D with left:=dC D.left,done:=D.done+1,l:=ag (am D.l a) b c }/\Tw w w1 g m) (fun w1 hB f=> ?_)).mono ?_
 ·obtain ⟨H,r,s,I⟩:=id h;have hgm:=s.blk_ne r;have B:some m≠some g:=fun e=>by injection e with e;exact hgm e.symm
  have t:=s.grown f B;have J:=I.keep f (v8 r (by decide) (zL));have K:=hB.c 1;have L:=(k7 (f.block xd E (fun e=>by injection e with e;exact n.1 e))).trans h2;have M:=(k7 (f.block xa F (fun e=>by injection e with e;exact n.2.1 e))).trans y;have N:=(k7 (f.block xb G (fun e=>by injection e with e;exact n.2.2 e))).trans z;rcases h.find i.ord a (by unfold maxLen;omega) with ⟨d,_⟩ | ⟨c',A,cc,d,hfc,hcl,hcm,_,hlk⟩
  ·rw [d] at j;cases j
  have ec:c'=c:=by
   have:=d.out;rw [j] at this;exact z146
  subst ec;have O:=f.block m s.lt B;refine (Ci xd xa xb a b (by unfold maxLen;omega) (by unfold maxLen;omega) H _ w1 t K L M N ⟨k.1,k.2.1,k.2.2,hgm⟩ (fun P Q=>hlk P (Q.trans O))).mono ?_;rintro e Y ⟨rfl,Z,R,S,T,U,hg2⟩;refine ⟨rfl,⟨R,?_,S,?_⟩,(OP f).step (Tw.grownM hg2)⟩
  ·have e1:frD { D with left:=dC D.left,done:=D.done+1,l:=ag (am D.l a) b c' }=be.wrap (frD D-more):=jg rfl C;exact z122
  have V:Byt w1 (.slice A c' cc) c':=⟨A,cc,rfl,hfc.keep f (v8 r (by decide) (zL)),hcl,hcm⟩;exact ((J.drop i.ord T).keep hg2 (Ow t)).put (dj i.ord) U (V.keep hg2 (Ow t))
 exact z109
theorem Cj (h:Dsk w g m D) (k:OkW D) (a b) (ha:a.size<=maxLen) (J:b.size<=maxLen):
  Calls an 166 #[.pointer (some g),.string a,.string b] w (da w g m (bx D a b)):=by
 have x:=(bR w w).alloc (lR _) (.cells #[.pointer (some g)] 25);have y:=x.alloc x.size (.cells #[a] 9);have z:=y.alloc y.size (.cells #[b] 9);have K:=z.alloc z.size (.cells #[b] 9);have L:=(((o9 w 25 [.pointer (some g)]).alloc (.cells #[a] 9)).alloc (.cells #[b] 9)).alloc (.cells #[b] 9);have A:=((o9 (w.alloc (.cells #[.pointer (some g)] 25)) 9 [.string a]).alloc (.cells #[b] 9)).alloc (.cells #[b] 9);have B:=(o9 ((w.alloc (.cells #[.pointer (some g)] 25)).alloc (.cells #[a] 9)) 9 [.string b]).alloc (.cells #[b] 9);have hO:=sL (((w.alloc (.cells #[.pointer (some g)] 25)).alloc (.cells #[a] 9)).alloc (.cells #[b] 9)) 9 (w+1+1+1) 1 [.string b] rfl (by simp) (by decide);rw [u7] at A;rw [u7,u7] at B;rw [u7,u7,u7] at hO;obtain ⟨i,f⟩:=gX ((((w.alloc (.cells #[.pointer (some g)] 25)).alloc (.cells #[a] 9)).alloc (.cells #[b] 9)).alloc (.cells #[b] 9));have X:Blk i w 25 [.pointer (some g)]:=by rw [f];exact L
 have Y:Blk i (w+1) 9 [.string a]:=by rw [f];exact A
 have Z:Blk i (w+1+1) 9 [.string b]:=by rw [f];exact B
 have C:Below w w i:=by rw [f];exact K
 have a0:i.ownsRow (w+1+1+1) 9 1 (.slice (some ⟨w+1+1+1,0,none⟩) 1 1) 1 (sc [b]):=by rw [f];exact hO
 have j0:i.heap.size=w+1+1+1+1:=by rw [f];simp
 obtain ⟨k0,l0⟩:=h.lt;clear L A B hO x y z K;have b0:=h.below C;have E:=qI (oc b0 k.ord (w+1+1+1) (some ⟨w+1+1+1,0,none⟩) [b] 1 1 rfl (by simp) a a0 qO ha);obtain ⟨F,c⟩:=gX (thD D [b] a);rw [<-c] at E;rw [Ch] at c;by_cases n:F=0
 ·have c0:ab a=true/\ab b=true/\bK D a=0:=by
   rw [n] at c;cases M:ab a with
   | false=>rw [M,if_pos (.inl rfl)] at c;cases c
   | true=>
   cases N:ab b with
   | false=>rw [N,if_pos (.inr rfl)] at c;cases c
   | true=>rw [M,N,if_neg (by simp)] at c;exact ⟨rfl,rfl,c.symm⟩
  obtain ⟨t,u,O⟩:=c0;obtain ⟨_,_,G,o⟩:=iq O;have HF:Hid (bx D a b=cy D (fC D a b) (ag (am D.l a) b G)):=by
   unfold Hid bx;rw [if_neg (by rw [t,u];simp),if_neg (by rw [O];simp),o];rfl
  have m0:=dN t;have n0:=dN u;have d0:Hid (F=0):=n;clear c n;have e0:0<=dM D b/\dM D b<=140737488355500:=by
   unfold dM;cases f0:aa D.l b with
   | none=>simp
   | some o0=>have:=k.small f0;simp only;omega
  obtain ⟨v,H⟩:=gX (dM D b);rw [<-H] at e0;have p0:=qiJ (b.size-a.size);have q0:=qiJ (b.size-a.size-v);have P:=qI H;clear H;have Q: ∀d,Below (w+1+1+1) i d->d.cell? w=some (.pointer (some g)):=fun d r=>(r.cell (p:=⟨w,0,none⟩) (by simp;omega)).trans (by rw [X.cell];rfl);have R: ∀d,Below (w+1+1+1) i d->d.cell? ⟨w+1,0,none⟩=some (.string a):=fun d r=>(r.cell (p:=⟨w+1,0,none⟩) (by simp)).trans (by rw [Y.cell];rfl);have S: ∀d,Below (w+1+1+1) i d->d.cell? ⟨w+1+1,0,none⟩=some (.string b):=fun d r=>(r.cell (p:=⟨w+1+1,0,none⟩) (by simp)).trans (by rw [Z.cell];rfl);go_in;go_wp2_with fail;rw [<-f];clear f;refine E.mono ?_;rintro e g0 ⟨rfl,q,s⟩;rw [d0];have T:=Q _ q;have z2:=R _ q;have U:=S _ q;have hB5:=C.trans (q.mono qO);clear Q R S;by_cases j:a=b
  ·have h0:=eM j;have I:Hid ((b.size:Int)-a.size=fe D a b):=by unfold Hid fe;rw [if_pos j,j];omega
   have HSp:=qI (sK s k a b t u G o ((b.size:Int)-a.size) I.out w (w+1) (w+1+1) qO qO T z2 U);clear j;go_wp2_with fail;exact z147
  have h0:=eN j;have I:Hid ((b.size:Int)-a.size-v=fe D a b):=by
   unfold Hid fe;rw [if_neg j,P];unfold dM;cases aa D.l b<;>simp only
  have V:=sK s k a b t u G o ((b.size:Int)-(a.size:Int)-v) I.out w (w+1) (w+1+1) qO qO T z2 U;have HSp:=qI V;have W:=qI (sx s k.ord b qO (fun b J=>k.small' J));rw [<-P] at W;clear V j;go_wp2_with ((go_at_call 105;refine W.mono ?_;rintro e w6 ⟨rfl,i0⟩;obtain rfl:=i0.symm));exact z147
 have HF:Hid (bx D a b=(F,D)):=by
  unfold Hid bx;by_cases o:ab a=false\/ab b=false
  ·rw [if_pos o] at c ⊢;rw [c]
  rw [if_neg o] at c ⊢;rw [if_pos (by rw [<-c];exact n),c]
 have r0:=beq_eq_false_iff_ne.2 n;clear c n;go_in;go_wp2_with fail;rw [<-f];clear f;refine E.mono ?_;rintro e g0 ⟨rfl,q,s⟩;go_wp2_with fail;go_ret;rw [HF];exact ⟨rfl,s,B7 (C.trans (q.mono qO))⟩
end
