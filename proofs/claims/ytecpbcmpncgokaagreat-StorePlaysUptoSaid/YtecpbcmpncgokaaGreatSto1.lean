/- Walks and laws. Conditions: as stated. -/
import Derived.Test.YtecpbcmpncgokaaGreatSortU
set_option maxRecDepth 99999
set_option maxHeartbeats 25600000
set_option linter.all false
open Go.Proofs.Tryz renaming prog->an
open Go.RowKit Go.Dol
namespace Go.Dol
def dE (s p:BA):BA×Bool:=if s.data.toList.take p.size=p.data.toList then (⟨(s.data.toList.drop p.size).toArray⟩,true) else (s,false)
theorem oz (s p:BA):((s.extract 0 p.size).toList==p.toList)=decide (s.data.toList.take p.size=p.data.toList):=by
 rw [t8,t8,OX,Pf];simp only [OC,y8,Nat.sub_zero];by_cases a:s.data.toList.take p.size=p.data.toList<;>simp [a]
theorem tz (s:BA) (k):s.extract k s.size=⟨(s.data.toList.drop k).toArray⟩:=by
 apply fD;rw [OX,Pf];simp only [OC];exact i9 (by rw [b8,aC];omega)
theorem vK {a b} (h:a.Perm b):df a=df b:=by
 have f: ∀a b c:LU,decide (a<=b)=true->decide (b<=c)=true->decide (a<=c)=true:=fun a b c d e=>dT (Pa (of_decide_eq_true d) (of_decide_eq_true e));have tl: ∀a b:LU,(decide (a<=b)||decide (b<=a))=true:=fun a b=>by
  exact z121
 exact List.Perm.eq_of_pairwise (le:=fun a b=>decide (a<=b)=true) (fun a b _ _ d e=>Oz (of_decide_eq_true d) (of_decide_eq_true e)) (NO f tl a) (NO f tl b) ((NA a _).trans (h.trans (NA b _).symm))
theorem KT (n):aD n=(decide (n.data.toList.take (⟨#[112,47]⟩:BA).size=(⟨#[112,47]⟩:BA).data.toList)&& !bi n):=rfl
end Go.Dol
namespace Go.Proofs.YtecpbcmpncgokaaGreat
theorem tA (s p w) (d:s.size<=maxLen) (e:p.size<=maxLen):
  Calls an 207 #[.string s,.string p] w fun a w'=>a= .returned (.bool (decide (s.data.toList.take p.size=p.data.toList)))/\w'=w:=by
 by_cases f:p.size<=s.size
 ·have g:=dtX ((s.size:Int)>=p.size);have h:(p.size:Int)<=s.size:=qO;have i:(0:Int)<=(p.size:Int):=qO;go_in;go_wp2_with fail;go_ret;refine ⟨?_,rfl⟩;rw [<-oz]
  first | rfl | simp
 go_in;go_wp2_with fail;go_ret;have b:decide (s.data.toList.take p.size=p.data.toList)=false:=qF fun a=>by
  have c:=congrArg List.length a;rw [b9,aC,aC] at c;omega
 rw [b];exact ⟨rfl,rfl⟩
theorem CO (s p w) (g:s.size<=maxLen) (h:p.size<=maxLen):
  Calls an 247 #[.string s,.string p] w fun c w'=>c= .returned (.tuple #[.string (dE s p).1,.bool (dE s p).2])/\w'=w:=by
 have b:=tA s p w g h;by_cases a:s.data.toList.take p.size=p.data.toList
 ·rw [dT a] at b;have d:=qI b;have e:Hid (dE s p=(⟨(s.data.toList.drop p.size).toArray⟩,true)):=if_pos a;have k:p.size<=s.size:=by
   have i:=congrArg List.length a;rw [b9,aC,aC] at i;omega
  have l:(p.size:Int)<=s.size:=qO;have m:(0:Int)<=(p.size:Int):=qO;clear a b;go_in;go_wp2_with fail;refine d.mono ?_;rintro c j ⟨rfl,f⟩;obtain rfl:=f.symm;go_wp2_with fail;go_ret2;rw [e,<-tz];exact ⟨rfl,rfl⟩
 rw [qF a] at b;have d:=qI b;have e:Hid (dE s p=(s,false)):=if_neg a;clear a b;go_in;go_wp2_with fail;refine d.mono ?_;rintro c j ⟨rfl,f⟩;obtain rfl:=f.symm;go_wp2_with fail;go_ret2;rw [e];exact ⟨rfl,rfl⟩
theorem CP (s p w) (c:s.size<=maxLen) (d:p.size<=maxLen):
  Calls an 184 #[.string s,.string p] w fun a w'=>a= .returned (.tuple #[.string (dE s p).1,.bool (dE s p).2])/\w'=w:=by
 have b:=qI (CO s p w c d);generalize dE s p=r at b ⊢;go_in;go_wp2_with fail;refine b.mono ?_;rintro a f ⟨rfl,e⟩;obtain rfl:=e.symm;go_wp2_with fail;go_ret2;exact ⟨rfl,rfl⟩
def CQ (ns:List BA) (A:OA) (c base:Nat) (b:List BA->World->Prop) (i:Value) (wr:World):Prop:=
 ∃a:Nat,i= .int .i64 a/\a<=ns.length/\Hid (b ((ns.take a).filterMap bj) wr)/\wr.ownsRow base 9 1 (.slice A ns c) ns (sc ns)
theorem oA (n:BA):bj n=if (dE n ⟨#[111,47]⟩).2=true then (match aX (dE n ⟨#[111,47]⟩).1.data.toList with | none=>none | some q=>if q.length=32 then some (idS q) else none) else none:=by
 unfold bj dE;rw [show (⟨#[111,47]⟩:BA).size=2 from rfl,show (⟨#[111,47]⟩:BA).data.toList=[111,47] from rfl];generalize n.data.toList=c;by_cases a:c.take 2=[111,47]
 ·rw [if_pos a,if_pos rfl];rcases c with _ | ⟨e,_ | ⟨f,g⟩⟩
  ·cases a
  ·cases a
  injection a with d b;injection b with b _;subst d b;rfl
 rw [if_neg a,if_neg (by simp)];split
 ·exact absurd rfl a
 rfl
section
variable {w:World} {g m:Nat} {D:Dk}
theorem CR (h:Dsk w g m D) (hK:OkW D) (x) (X:w.cell? ⟨x,0,none⟩=some (.pointer (some g))) (Y:x<w.heap.size):
  kG Fence.wide 4 an 183 #[.pointer (some ⟨x,0,none⟩)] Value.string 3518437208880 (fun Z=>Z=bE D) w:=by
 intro r0 a0 N O P b0 Q;have c0:=h.below O;have s0:N.cell? x=some (.pointer (some g)):=by rw [O.cell (p:=⟨x,0,none⟩) Y];exact X
 obtain ⟨a,hns⟩:=gX (D.l.map Prod.fst);have G:D.l.length=a:=by rw [hns,g7]
 have d0: ∀n∈a,n.size<=200:=by
  exact z197
 have R:=jh c0 hK.toL;have e0:Hid (bE D=a.filterMap bj):=by unfold Hid;rw [hns];rfl
 refine callsIn_of_wp Tryz.func183 rfl trivial ?_ rfl;simp only [Tryz.ntmps183,List.size_toArray,List.length_cons,List.length_nil,Nat.reduceAdd,Nat.reduceSub,Array.replicate_succ,Array.replicate_zero,List.push_toArray,List.append_toArray,List.nil_append,List.cons_append];have f0:=qI R;clear R;gi_wp2;refine ⟨trivial,?_⟩;refine (callsIn_wide.2 f0.out).mono ?_;rintro z g0 ⟨H,I,rfl,c,S⟩;have J:=qI (Q (Value.slice H D.l I).ownBlock g0 S (fun k T=>cZ c k T));rw [<-hns,G] at c;rw [G] at J ⊢;clear Q hns;have h0:=hK.len;rw [G] at h0;gi_wp2;gi_loopw [12] (fun i wr=>CQ a H I N (a0 (Value.slice H a I).ownBlock) i wr) (fun i _=>a-(intOf i).toNat)
 case atStart=>exact ⟨0,rfl,zL,J,c⟩
 case round=>
  clear J c S;obtain ⟨k,rfl,T,K,c⟩:=hrel;have t0:=qiJ (k+1);by_cases i0:k<a
  ·have u0:=ltI k a.length;have v0:=zeI k;obtain ⟨y,A⟩: ∃y,a[k]?=some y:=⟨a[k],gE i0⟩;have j0:=d0 y (g8 A);obtain ⟨w0,x0,rfl,y0,U⟩:=(d8 c).at_ qO;have z0:=U _ _ (by rw [sc,m7,A];rfl);have B:Hid ((a.take (k+1)).filterMap bj=(a.take k).filterMap bj++(bj y).toList):=by
    unfold Hid;rw [t7,A,List.filterMap_append];cases j:bj y<;>simp [j]
   have C:=oA y;obtain ⟨q,r,L⟩: ∃q r,dE y ⟨#[111,47]⟩=(q,r):=⟨_,_,rfl⟩;have A0:q.size<=200:=by
    have j:(dE y ⟨#[111,47]⟩).1.size<=y.size:=by
     unfold dE;split
     ·show (List.drop _ _).toArray.size<=_;rw [List.size_toArray,b8,aC];omega
     exact lR _
    rw [L] at j;exact lT j j0
   have E:=CP y ⟨#[111,47]⟩ wr (by unfold maxLen;omega) (by decide);rw [L] at E C;simp only at E C;have k0:=qI E;have F:=qI C;clear E C L A U;gi_wp2;refine ⟨trivial,?_⟩;refine (callsIn_wide.2 k0.out).mono ?_;rintro z B0 ⟨rfl,l0⟩;obtain rfl:=l0.symm;have l:=CS q wr qO;cases b:aX q.data.toList with
   | none=>
    rw [b] at l;have M:=qI l;have hE:Hid ((a.take (k+1)).filterMap bj=(a.take k).filterMap bj):=by
     unfold Hid;rw [B,F,b];cases r<;>simp
    clear l b;gi_wp2;refine ⟨trivial,?_⟩;refine (callsIn_wide.2 M.out).mono ?_;rintro z z2 ⟨rfl,s⟩;have ho2:=az c s;have hJ2:=qI (P _ _ _ _ K.out s);cases r with
    | true=>
     exact z34
    | false=>
    exact z34
   | some C0=>
   rw [b] at l;have M:=qI l;clear l;gi_wp2;refine ⟨trivial,?_⟩;refine (callsIn_wide.2 M.out).mono ?_;rintro z z2 ⟨e,t,rfl,s⟩;have ho2:=az c s;have hJ2:=qI (P _ _ _ _ K.out s);cases r with
   | false=>
    have hE:Hid ((a.take (k+1)).filterMap bj=(a.take k).filterMap bj):=by
     unfold Hid;rw [B,F];simp
    clear b t;exact z34
   | true=>
   have o:(⟨e.toArray⟩:BA).size=e:=by show e.toArray.size=_;rw [List.size_toArray]
   by_cases u:e.length=32
   ·have V:Hid ((a.take (k+1)).filterMap bj=(a.take k).filterMap bj++[⟨e.toArray⟩]):=by
     unfold Hid;rw [B,F,b];simp only [if_true];rw [<-t,if_pos u];rfl
    obtain ⟨d,v⟩: ∃d:BA,d=⟨e.toArray⟩:=⟨_,rfl⟩;rw [<-v] at V o ⊢;have m0:((d.size:Int)==32)=true:=by rw [o,u];rfl
    have W:((a.take k).filterMap bj).length<kac:=by
     have j:=List.length_filterMap_le bj (a.take k);rw [b9] at j;omega
    obtain ⟨D0,E0,F0,G0,H0,n0⟩:=b0 _ _ d z2 hJ2.out W;clear b t v o u W;gi_wp2;refine n0.mono ?_;rintro z I0 ⟨rfl,o0,J0,p0⟩;have q0:=gG ho2 p0;gi_wp2;exact ⟨⟨k+1,by go_num,qO,by unfold Hid;rw [V];exact o0,q0⟩,by simp [intOf];omega⟩
   have hE:Hid ((a.take (k+1)).filterMap bj=(a.take k).filterMap bj):=by
    unfold Hid;rw [B,F,b];simp only [if_true];rw [<-t,if_neg u];simp
   obtain ⟨d,v⟩: ∃d:BA,d=⟨e.toArray⟩:=⟨_,rfl⟩;rw [<-v] at o ⊢;have m0:((d.size:Int)==32)=false:=by rw [o];simp;omega
   clear b t v o u;exact z34
  have hE:Hid ((a.take k).filterMap bj=bE D):=by unfold Hid;rw [e0,i9 qO]
  gi_wp2;go_end0;exact ⟨⟨_,rfl⟩,_,_,rfl,by rw [<-hE];exact K.out⟩
theorem CT (p W):Calls an 115 #[.pointer p] W fun a w'=>a= .returned (.func (.func 183) #[] #[.pointer (some W)])/\w'=W.alloc (.cells #[.pointer p] 25):=z38
def rz (w:World) (l:List BA) (d:Ending) (w':World):Prop:=
 ∃(a:List BA) (b:OA) (c:Nat),Hid (a=l)/\d= .returned (.slice b a c)/\w'.ownsRow w 9 1 (.slice b a c) a (sc a)/\Below w w w'
theorem tB (b:Dsk w g m D) (c:OkW D):Calls an 46 #[.pointer (some g)] w (rz w (bE D)):=by
 have a:=bAl w (.cells #[.pointer (some g)] 25);have d:=o9 w 25 [.pointer (some g)];have e:=qI (CT (some ⟨g,0,none⟩) w);have f:=qI (Av 183 #[.pointer (some w)] (enters_of Tryz.func183 qkR rfl) _ 3518437208880 (lR _) _ (CR (b.below a) c w (by rw [d.cell];rfl) (by simp)));go_in;go_wp2_with fail;refine e.mono ?_;rintro h q ⟨rfl,i⟩;obtain rfl:=i.symm;go_wp2_with fail;refine f.mono ?_;rintro h r ⟨j,k,l,n,rfl,o,p⟩;go_wp2_with fail;go_ret;exact ⟨j,k,l,n,rfl,o.base (by simp),a.trans (p.mono (by simp))⟩
end
theorem Gv (mb W):Calls an 133 #[.map mb] W fun a w'=>a= .returned (.func (.func 206) #[] #[.pointer (some W)])/\w'=W.alloc (.cells #[.map mb] 140):=
 (callsIn_wide (n:=5)).1 (sv mb W)
def Gw (w:World) (l:List Pt) (c:Ending) (w':World):Prop:=
 ∃a b,c= .returned (.slice a l b)/\w'.ownsRow w 9 1 (.slice a l b) l (pc (aV l))/\Below w w w'
theorem Gx {l m} (w) (i:MapL an 9 w m (ptm l)) (C:l.length<=4096):
  Calls an 132 #[.func (.func 206) #[] #[.pointer (some w)]] (w.alloc (.cells #[.map (some m)] 140)) (Gw w (ptp l)):=by
 have D:(ptm l).length=l:=by simp [ptm]
 obtain ⟨j,k,E,o⟩:=i.owns l9 (by unfold maxLen;omega);refine ((callsIn_wide (n:=5)).1 (su m (ptm l).length j _ w k (by unfold maxLen;omega) qO)).mono ?_;rintro F r ⟨f,a,rfl,s,b,_,t⟩;have u:(ptm l).map Prod.fst=(l.map fun c=>idS c.p.id).map Value.string:=by
  simp [ptm]
 have g:a.Perm ((ptp l).map (·.id)):=by
  refine s.trans ((o _ u).trans ?_);rw [w9];refine List.Perm.of_eq ?_;simp [ptp,idS]
 have v:a=(ptp l).length:=by rw [g.length_eq,g7]
 have x:(a.mergeSort fun c y=>decide (c<=y))=df ((ptp l).map (·.id)):=vK g;rw [x,v] at b;have z:(df ((ptp l).map (·.id))).map Go.Proofs.encStr=pc (aV (ptp l)):=by
  unfold pc aV;rw [w9];exact NT fun G _=>rfl
 rw [z] at b;have A:=((bR _ _).alloc (lR _) _).trans (t.mono (by simp));have hrow':r.ownsRow w 9 1 f (ptp l).length (pc (aV (ptp l))):=World.ownsRow.mono b (by simp);have B: ∃d e,f= .slice d (ptp l).length e:=by
  exact z157
 obtain ⟨d,e,rfl⟩:=B;exact ⟨d,e,rfl,hrow',A⟩
theorem Gy (w A n c):(binOp .eql 38 (.slice A n c) eL).run an w= .ok (.bool A.isNone) w:=Lib.run_eql_slice_nil w _ _ A n c 0 0 q9
theorem gI:(an.info? 9).map (fun i=>(i.zero,i.size,i.bytes))=some (some (.string ⟨#[]⟩),1,16):=qkR
theorem kJ (l): ∀u∈pc l,u.oneCell'=true:=by
 intro u a;obtain ⟨b,_,rfl⟩:=e9.1 a;rfl
theorem vL (A n l c w) (g:l.length=n) (b:Rd w w.heap.size 1 A n (pc l)) (s:n<=kaf):
  Calls an 85 #[.slice A n c] w fun i w'=> ∃A' c',i= .returned (.slice A' n c')/\w'.ownsRow w 9 1 (.slice A' n c') n (pc l)/\Below w w w':=by
 have d:=Gy w A n c;cases A with
 | none=>
  have j:=b.none_zero;subst j;obtain rfl:l=[]:=nZ g;have k:(binOp .eql 38 (.slice none 0 c) eL).run an w= .ok (.bool true) w:=d;clear d b;exact z89
 | some a=>
 have k:(binOp .eql 38 (.slice (some a) n c) (.slice none 0 0)).run an w= .ok (.bool false) w:=d;have e:=bAl w (.cells #[] 9);have m:=sL w 9 w.heap.size 0 [] rfl (lR _) (by unfold maxLen;omega);have o:=b.belowW e (lR _);clear d b;go_in;go_wp2_with (at_builtin;refine eF rfl (.tmp 5) (.tmp 6) 38 9 _ 16 rfl q9 gI rfl w.heap.size _ 0 [] rfl m w.heap.size _ n c (pc l) rfl o (kJ _) (by unfold maxLen;omega) (by omega) (by simp) ?_;intro A' c' w' f q t r u;simp only [x9,List.nil_append] at f r ⊢);go_ret;exact ⟨A',c',rfl,f,e.trans q⟩
section
variable {w w':World} {base g:Nat} {l:List PtA} {A:OA} {c m:Nat} {d:Int} {vi:Value}
theorem Gz (r:Pck w base g l A c m 0 eL) (G:l.length<=4096) (pl) (H:w.cell? pl=some (.pointer (some g))) (x:pl.block≠g) (I:pl.block<w.heap.size):
  pj 215 pl g 2 205 [.slice A l c,.map (some m),.int .u32 0,.int .i32 0,.int .u32 0,.slice none 0 0]
   (fun J a y=> ∃f h,J=[.slice A l c,.map (some m),.int .u32 0,.int .i32 1,.int .u32 0,.slice f l h]/\y.ownsRow a.heap.size 9 1 (.slice f l h) l (pc (aV (ptp l)))) w:=by
 intro a i z K;have i:Blk a g 205 [.slice A l c,.map (some m),.int .u32 0,.int .i32 1,.int .u32 0,eL]:=i;have L:MapL an 9 a m (ptm l):=r.map.grown z (fun b=>by
  injection b with b;exact r.map.blk_ne r.blk b.symm)
 have k:=(k7 (z.block pl.block I (fun b=>x (by injection b)))).trans H;have s:=i.lt;have B:=i.c 1;have t:pl.block<a:=qO;have M:=qI (fun N n=>Gv N n);have C:Hid (Calls an 132 #[.func (.func 206) #[] #[.pointer (some a)]] (a.alloc (.cells #[.map (some m)] 140)).drew (fun b w'=> ∃A c,b= .returned (.slice A (ptp l).length c)/\w'.ownsRow a 9 1 (.slice A (ptp l).length c) (ptp l).length (pc (aV (ptp l)))/\Below a.drew.heap.size a.drew w')):=Gx (l:=l) (m:=m) a.drew L.drew G;clear K;go_in;have O:(ptp l).length=l:=by simp [ptp]
 rw [O] at C;go_upto_region 0 with (fail);refine wp_region_held_drew (S:=fun n=>n.cell? pl=some (.pointer (some g))/\n.cell? ⟨g,1,none⟩=some (.map (some m))) qkR (⟨k,B⟩) (fun u=> ?_);refine tl 0 (.pointer (some g)) ?_;refine tl 1 (.pointer (some g)) ?_;refine tl 2 (.pointer (some g)) ?_;refine tl 3 (.pointer (some ⟨g,1,none⟩)) ?_;refine tl 4 (.map (some m)) ?_;refine rh 5 fun D j=> ?_;go_simp;refine (M.out (some m) _).mono ?_;rintro b y ⟨rfl,E⟩;refine hO j (by rw [E];exact ⟨(F7 _ _ _ t).trans k,(F7 _ _ _ s).trans B⟩) (fun u=> ?_);subst E;refine rh 6 fun D j=> ?_;go_simp;refine (C.out).mono ?_;rintro b o ⟨f,h,rfl,v,e⟩;have e:Below a a o:=⟨e.os,e.tape,e.output,e.size,e.block⟩;have v:o.ownsRow a 9 1 (.slice f l h) l (pc (aV (ptp l))):=v;have q:=i.below e s;have R:=q.c 5;have T:=q.free 5;refine hO j (⟨(e.cell (p:=pl) t).trans k,by rw [q.cell];rfl⟩) (fun u=> ?_);refine tl 7 (.pointer (some g)) ?_;refine tl 8 (.pointer (some ⟨g,5,none⟩)) ?_;have F:=q.set 5 (.slice f l h);have P:(o.setCell ⟨g,5,none⟩ (.slice f l h)).cell? pl=some (.pointer (some g)):=(G8 o ⟨g,5,none⟩ pl _ (fun b=>x (by rw [<-b]))).trans ((e.cell (p:=pl) t).trans k);have Q:=F.c 1;refine rh 9 fun D j=> ?_;go_simp;refine hO j (⟨P,Q⟩) (fun u=> ?_);refine dn ?_;go_end0;exact ⟨rfl,_,F,rfl,rfl,ae (ax e (some g)) 5 _,f,h,rfl,fX v (ae (gR _ _) 5 _) s⟩
theorem Pck.of_cells (a:Pck w base g l A c m d vi) (b:w.grownBy w' (some g)) {d' vi'} (k:Blk w' g 205 [.slice A l.length c,.map (some m),.int .u32 d',.int .i32 0,.int .u32 0,vi'])
  (hi:d'=0/\vi'= .slice none 0 0\/d'=1/\ ∃f h,vi'= .slice f l h/\w'.ownsRow base 9 1 (.slice f l h) l (pc (aV (ptp l)))):Pck w' base g l A c m d' vi':=
 ⟨k,a.gb,a.mb,aE a.parts a.blk (by decide) b,a.map.grown b (fun e=>by injection e with e;exact a.map.blk_ne a.blk e.symm),fun i j=>⟨(a.raws i j).1.grown b (v8 a.blk (by decide) (zL)),(a.raws i j).2⟩,hi⟩
end
def jt (r:Except Int BA):Value:=match r with
 | .ok a=> .tuple #[a,i0]
 | .error b=> .tuple #[eS,b]
def RetPut (w:World) (g m:Nat) (r:Except Int BA×Dk) (a:Ending) (w':World):Prop:=a= .returned (jt r.1)/\Dsk w' g m r.2/\Tw w w' g m
theorem RetPut.ok {w w' g m id D e} (a:RetPut w g m (.ok id,D) e w'):e= .returned (.tuple #[.string id,i0])/\Dsk w' g m D/\Tw w w' g m:=a
theorem RetPut.err {w w' g m k D e} (a:RetPut w g m (.error k,D) e w'):e= .returned (.tuple #[eS,.int .i64 k])/\Dsk w' g m D/\Tw w w' g m:=a
section
variable {w:World} {g m:Nat} {D:Dk}
theorem CM (h:Dsk w g m D) (e:OkW D) (id) (n:id.size<=70368744177600):
  Calls an 47 #[.pointer (some g),.string id] w (da w g m (dropO D id)):=by
 obtain ⟨f,HR⟩:=gH (dropO D id);rw [<-HR];have u:=qI (ow h e id);go_in;go_wp2_with fail;refine u.mono ?_;by_cases a:id.size=32
 ·have h32:=qI a;obtain ⟨G,_,_,_⟩:=gg a;have o:(af id).size<=maxLen:=by rw [gP,a];decide
  clear a;rw [dT h32.out];rintro b q ⟨rfl,c⟩;have i:=h.below c;have v:=qI (lm id q n);go_wp2_with fail;refine v.mono ?_;rintro b x ⟨rfl,r⟩;have j:=i.below r;have s:=c.next r;have y:=qI (jf j e.ord (af id) o);go_wp2_with fail;refine y.mono ?_;cases hl:(aa D.l (af id)).isSome with
  | false=>
   have d:Hid (f=(6,D)):=by
    exact z204
   rintro b z ⟨rfl,k⟩;obtain rfl:=k.symm;clear hl;go_wp2_with fail;go_ret;rw [d];exact ⟨rfl,j,B7 s⟩
  | true=>
  have d:Hid (f=aB D (af id)):=by
   unfold Hid;rw [HR];unfold dropO;rw [if_neg (by rw [h32];simp),if_pos hl]
  rintro b z ⟨rfl,k⟩;obtain rfl:=k.symm;clear hl;have A:=qI (lm id x n);go_wp2_with fail;refine A.mono ?_;rintro b H ⟨rfl,t⟩;have B:=j.below t;have C:=qI (oj B e (af id) o);go_wp2_with fail;refine C.mono ?_;rintro b I ⟨rfl,E,F⟩;go_wp2_with fail;go_ret;rw [d];exact ⟨rfl,E,(B7 (s.next t)).step F⟩
 have h32:=qI a;have d:Hid (f=(1,D)):=by
  unfold Hid;rw [HR];unfold dropO;rw [if_pos a]
 clear a;rw [qF h32.out];rintro b q ⟨rfl,c⟩;have i:=h.below c;go_wp2_with fail;go_ret;rw [d];exact ⟨rfl,i,B7 c⟩
theorem ju (ge D raw) (a:ah ge raw=false):putO ge D raw=(.error 1,D):=if_pos a
theorem jv {ge:BA->BA->Bool} {D:Dk} {raw:LU} (a:ah ge raw=true):putO ge D raw=match aK ge D (idO raw) with
 | .ok b=>if b=raw then (.ok (idO raw),D) else (.error 7,D)
 | .error k=>if k=2 then (.error 2,D) else
  if (ao D (af (idO raw)) (aA raw)).1≠0 then (.error (ao D (af (idO raw)) (aA raw)).1,(ao D (af (idO raw)) (aA raw)).2) else (.ok (idO raw),(ao D (af (idO raw)) (aA raw)).2):=by
 unfold putO;rw [if_neg (by rw [a];decide)];rfl
theorem oy {ge D id} (b:id.size=32) {k} (a:aK ge D id= .error k):k=2\/k=6:=by
 unfold aK at a;rw [if_neg (by rw [b];simp)] at a;split at a
 ·injection a with a;exact .inr a.symm
 split at a
 ·injection a with a;exact .inl a.symm
 split at a
 ·cases a
 injection a with a;exact .inl a.symm
theorem CN (h:Dsk w g m D) (x:OkW D) (a0:D.l.length+1<=kac) (A raw c) (q:Rd w w 1 A raw.length (bc raw)) (J:raw.length<=c) (b0:c<=maxLen) (c0:raw.length<=kab):
  Calls an 39 #[.pointer (some g),.slice A raw c] w (RetPut w g m (putO geS D raw)):=by
 obtain ⟨b,y⟩:=gH (putO geS D raw);rw [<-y];have K:=qI (ov A raw c w q qO);go_in;go_wp2_with fail;refine K.mono ?_;rintro e d0 ⟨rfl,r⟩;have e0:=(q.below r).more r.size;obtain ⟨id,s⟩: ∃id:BA,id=idO raw:=⟨_,rfl⟩;have t:=qI s;have z:id.size=32:=by rw [s];exact dO raw
 rw [<-s];clear s K;have f:=js A raw c d0 e0 J b0 c0;cases i:aZ geS raw with
 | none=>
  rw [i] at f;have B:=qI f;have j:Hid (b=(.error 1,D)):=by
   unfold Hid;rw [y];exact ju _ _ _ (by unfold ah;rw [i];rfl)
  clear f i;go_wp2_with fail;refine B.mono ?_;rintro e f0 ⟨rfl,C⟩;have a:=r.next C;go_wp2_with fail;go_ret2;rw [j];exact ⟨rfl,h.below (a.alloc a.size _),B7 (a.alloc a.size _)⟩
 | some Q0=>
 rw [i] at f;have B:=qI f;have E:Hid (ah geS raw=true):=qI (by unfold ah;rw [i];rfl);have R0:=dD raw E;have j:=qI (y.out.trans (jv E));clear f i;go_wp2_with fail;refine B.mono ?_;rintro e f0 ⟨g0,h0,i0,j0,k0,l0,m0,n0,o0,p0,q0,r0,s0,t0,u0,v0,w0,rfl,_,_,_,C,_,_,_⟩;clear w0;have a:=r.next C;have a:=a.alloc a.size (.cells #[g0,.slice h0 i0 j0,.slice k0 l0 m0,n0,.slice o0 p0 q0,r0,s0,t0,u0,v0] 40);have L:=h.below a;have x0:=qI (ow L x id);go_wp2_with fail;refine x0.mono ?_;rw [dT z];rintro e S0 ⟨rfl,M⟩;have N:=L.below M;have y0:=a.next M;have z0:=qI (tt N x id qO);go_wp2_with fail;refine z0.mono ?_;obtain ⟨A0,k⟩:=gX (aK geS D id);rw [<-k];rw [<-t,<-k] at j;rintro e O ⟨P,Q⟩;have h4:=N.below P;have hb04:=y0.next P;have hr4:=(q.below hb04).more hb04.size;cases A0 with
 | ok T0=>
  obtain ⟨u,B0,C0,R,rfl,D0,U0,V0⟩:=Q;have E0:=qI (nB B0 u u C0 A raw raw c O _ _ (d8 D0) hr4);have d:Hid (b=if u=raw then (.ok id,D) else (.error 7,D)):=by
   unfold Hid;rw [j];simp only;rw [R]
  clear R k;go_wp2_with fail;refine E0.mono ?_;by_cases hb:u=raw
  ·have hr4:Hid (b=(.ok id,D)):=by unfold Hid;rw [d,if_pos hb]
   rw [dT hb];exact z143
  have hr4:Hid (b=(.error 7,D)):=by unfold Hid;rw [d,if_neg hb]
  rw [qF hb];exact z143
 | error W0=>
 obtain rfl:=Q;rcases oy z k.symm with rfl | rfl
 ·have d:Hid (b=(.error 2,D)):=by
   unfold Hid;rw [j];rfl
  clear k;go_wp2_with fail;go_ret2;rw [d];exact ⟨rfl,h4,B7 hb04⟩
 have F0:=qI (lm id O qO);clear k;go_wp2_with fail;refine F0.mono ?_;rintro e w5 ⟨rfl,S⟩;have G0:=h4.below S;have F:=hb04.next S;have H0:=(q.below F).more F.size;have I0:=qI (tg A raw c w5 H0 qO J);go_wp2_with fail;refine I0.mono ?_;rintro e J0 ⟨G,T,K0,v,rfl,L0,U,M0,N0⟩;have O0:=G0.below U;have V:=F.next U;have X0:G.length<=2621449:=by rw [v];exact jw E.out
 have P0:Far J0 0 T G:=J7 (s7 L0);have Y0:(af id).size=66:=by rw [gP,z]
 have H:=qI (tv O0 x (af id) qO T G K0 qO a0 qO 0 P0 M0 N0 (zL) (zL) (zL));rw [v,t] at H;obtain ⟨n,I⟩:=gX (ao D (af (idO raw)) (aA raw));have d:Hid (b=if n.1≠0 then (.error n.1,n.2) else (.ok id,n.2)):=by
  unfold Hid;rw [j,t,I];rfl
 rw [<-I,<-t,<-v] at H;clear I v;go_wp2_with fail;refine H.mono ?_;rintro e Z0 ⟨rfl,W,X⟩;obtain ⟨Y,Z⟩:=n;by_cases o:Y=0
 ·have hr4:Hid (b=(.ok id,Z)):=by unfold Hid;rw [d,if_neg (by simpa using o)]
  subst o;go_wp2_with fail;go_ret2;rw [hr4];exact ⟨rfl,W,(B7 V).step X⟩
 have hr4:Hid (b=(.error Y,Z)):=by unfold Hid;rw [d,if_pos o]
 have a1:=bne_iff_ne.2 o;clear o;go_wp2_with fail;go_ret2;rw [hr4];exact ⟨rfl,W,(B7 V).step X⟩
end
end Go.Proofs.YtecpbcmpncgokaaGreat
namespace Go.Dol
structure PkA where
 n:BA
 l:List PtA
 g:Nat
 A:OA
 c:Nat
 m:Nat
def PkA.pk (x:PkA):Pk:=(x.n,ptp x.l)
def pkc (a:List PkA):List Value:=a.map fun b=> .pointer (some ⟨b.g,0,none⟩)
def mE (P:List Pk) (id:BA) (q:Except Int (LU)):Except Int (LU):=match q with
 | .ok b=> .ok b
 | .error a=>if a=6 then (match el P id with | some c=> .ok c | none=> .error 6) else .error a
theorem xi (ge D P id):aP ge D P id=mE P id (aK ge D id):=rfl
theorem mF (p:Pk) (r:List Pk) (id:BA):el (p::r) id=match bV p.2 id.data.toList with | some x=>some x.raw | none=>el r id:=rfl
def cQ (P:List Pk):Prop:=∀ a∈P,a.2.length<=4096/\ ∀b∈a.2,b.raw.length<=2097152
end Go.Dol
namespace Go.Proofs.YtecpbcmpncgokaaGreat
theorem KU (s p w) (c:s.size<=maxLen) (d:p.size<=maxLen):
  Calls an 139 #[.string s,.string p] w fun b w'=>b= .returned (.bool (decide (s.data.toList.take p.size=p.data.toList)))/\w'=w:=by
 have a:=tA s p w c d;generalize decide (s.data.toList.take p.size=p.data.toList)=r at a ⊢;have e:=qI a;clear a;go_in;go_wp2_with fail;refine e.mono ?_;rintro b g ⟨rfl,f⟩;obtain rfl:=f.symm;go_wp2_with fail;go_ret;exact ⟨rfl,rfl⟩
theorem xg (l' b w') (a:l'=cq (b.drop (b.length-32))) (c:32<=b.length):(Op.stringOp .add ⟨#[112,47]⟩ ⟨l'.toArray⟩).run an w'= .ok (.string (ap b)) w':=by
 rw [show ap b=(⟨#[112,47]⟩:BA)++⟨l'.toArray⟩ by rw [a];rfl];refine run_string_add_sum w' _ _ ?_;show 2+l'.toArray.size<=_;rw [List.size_toArray,a,gd,b8];omega
theorem yC (A b c w) (j:Rd w w.heap.size 1 A b.length (bc b)) (l:b.length<=c) (m:c<=maxLen) (n:32<=b.length) (y:b.length<=kaa):
  Calls an 141 #[.slice A b c] w fun f w'=>f= .returned (.string (ap b))/\Below w w w':=by
 have g:=qiJ (b-32);obtain ⟨e,o,p,h,z,B,q,_,_,_,C⟩:=cm (k:=b.length-32) ((b:Int)-32) qO j qO l m;obtain ⟨a,d⟩: ∃a:BA,a=idS e:=⟨_,rfl⟩;have D:(convert 36 9 (.slice o e p)).run an w= .ok (.string a) w:=by rw [d];exact bA q.1
 have r:a.size=32:=by
  rw [d];show e.toArray.size=32;rw [List.size_toArray,h,b8];omega
 have i:a.data.toList=b.drop (b.length-32):=by rw [d,fM,h]
 have s:=qI (tq a w qO);have t:=qI i;clear d r i;go_in;go_wp2_with fail;refine s.mono ?_;rintro f g ⟨u,v,rfl,x⟩;have E:=xg u b g (by rw [v,t]) n;go_wp2_with fail;go_ret;exact ⟨rfl,x⟩
structure Pks (w:World) (base gp:Nat) (xs:List PkA) (An:OA) (cn:Nat) (Aa:OA) (ca:Nat) (dn:Int) (vn:Value):Prop where
 blk:Blk w gp 138 [.slice An xs cn,.slice Aa xs ca,.int .u32 dn,.int .i32 0,.int .u32 0,vn]
 names:w.ownsRow base 9 1 (.slice An xs cn) xs (sc (xs.map (·.n)))
 all:w.ownsRow base 139 1 (.slice Aa xs ca) xs (pkc xs)
 packs: ∀x∈xs,∃d vi,Pck w base x.g x.l x.A x.c x.m d vi/\(dn=0->d=0/\vi= .slice none 0 0)
 nodup:(xs.map (·.g)).Nodup
 ids:dn=0/\vn= .slice none 0 0\/dn=1/\ ∃(zs:List BA) (Ai:OA) (ci:Nat),vn= .slice Ai zs ci/\w.ownsRow base 9 1 (.slice Ai zs ci) zs (sc zs)/\Hid (zs=cX (xs.map PkA.pk))
 le:base<=w
structure Sto (w:World) (gs g m base gp:Nat) (D:Dk) (xs:List PkA):Prop where
 st:Blk w gs 100 [.pointer (some g),.pointer (some gp)]
 dk:Dsk w g m D
 lt:g<base/\m<base/\gp≠g/\gp≠m/\gs≠g/\gs≠m
 pks: ∃An cn Aa ca dn vn,Pks w base gp xs An cn Aa ca dn vn
section
variable {w w':World} {base gp gs g m:Nat} {xs:List PkA} {An Aa:OA} {cn ca:Nat} {dn:Int} {vn:Value} {D:Dk}
theorem Pks.keep (a:Pks w base gp xs An cn Aa ca dn vn) (e:w'.heap[gp]?=w.heap[gp]?) (b: ∀k,base<=k->k<w.heap.size->w'.heap[k]?=w.heap[k]?) (d:w.heap.size<=w'):Pks w' base gp xs An cn Aa ca dn vn:=
 ⟨a.blk.keepB e,hA a.names b,hA a.all b,fun f h=>(a.packs f h).imp fun _ a=>a.imp fun _ a=>⟨a.1.keep b d,a.2⟩,a.nodup,by
  rcases a.ids with c | ⟨c,i,j,l,n,o,p⟩
  ·exact .inl c
  ·exact .inr ⟨c,i,j,l,n,hA o b,p⟩,lT a.le d⟩
theorem Pks.below (b:Pks w base gp xs An cn Aa ca dn vn) (a:Below w w w'):Pks w' base gp xs An cn Aa ca dn vn:=b.keep (a.block gp b.blk.lt) (fun c _ d=>a.block c d) a.size
theorem Sto.below (c:Sto w gs g m base gp D xs) (a:Below w w w'):Sto w' gs g m base gp D xs:=by
 obtain ⟨b,d,e,An,cn,Aa,ca,dn,vn,f⟩:=c;exact ⟨b.below a b.lt,d.below a,e,An,cn,Aa,ca,dn,vn,f.below a⟩
theorem Sto.tw {D'} (e:Sto w gs g m base gp D xs) (a:Tw w w' g m) (f:Dsk w' g m D'):Sto w' gs g m base gp D' xs:=by
 obtain ⟨c,j,b,An,cn,Aa,ca,dn,vn,d⟩:=e;exact ⟨c.keepB (a.block gs c.lt b.2.2.2.2.1 b.2.2.2.2.2),f,b,An,cn,Aa,ca,dn,vn,d.keep (a.block gp d.blk.lt qO qO) (fun h k i=>a.block h i qO qO) a.size⟩
theorem hW (h:Sto w gs g m base gp D xs):Calls an 80 #[.pointer (some gs)] w fun a w'=>a= .returned true/\w'=w:=by
 have b:w.cell? gs=some (.pointer (some g)):=by rw [h.st.cell];rfl
 exact z38
def xj (P:List Pk) (n:Nat) (id:BA) (w:World) (i:Value) (wr:World):Prop:=
 ∃a:Nat,i= .int .i64 a/\a<=n/\Hid (el P id=el (P.drop a) id)/\Below w w wr
theorem hV (h:Sto w gs g m base gp D xs) (N:OkW D) (O:cQ (xs.map PkA.pk)) (g0:xs.length<=kac) (id) (P:id.size<=70368744177600):
  Calls an 23 #[.pointer (some gs),.string id] w (RetGet w (aP geS D (xs.map PkA.pk) id)):=by
 obtain ⟨r,t⟩:=gH (aP geS D (xs.map PkA.pk) id);rw [<-t];have B:=qI (hW h);have Q:w.cell? gs=some (.pointer (some g)):=by rw [h.st.cell];rfl
 have C:=qI (tt h.dk N id P);go_in;go_wp2_with fail;refine B.mono ?_;rintro e h0 ⟨rfl,R⟩;obtain rfl:=R.symm;go_wp2_with fail;refine C.mono ?_;obtain ⟨u,hq⟩:=gX (aK geS D id);rw [<-hq];have E:u= .error 6->id.size=32:=fun e=>by
  exact z272
 have hr2:Hid (r=mE (xs.map PkA.pk) id u):=by unfold Hid;rw [t,xi,hq]
 clear hq t B C;intro e F h1;cases u with
 | ok b=>
  exact z91
 | error a=>
 obtain ⟨hb1,rfl⟩:=h1;by_cases o:a=6
 ·subst o;have S:=E rfl;have hr3:Hid (r=match el (xs.map PkA.pk) id with | some r=> .ok r | none=> .error 6):=hr2.out;have h1:=h.below hb1;obtain ⟨T,i0,j0,An,cn,Aa,ca,dn,vn,G⟩:=h1;have k0:=T.c 1;have l0:F.cell? ⟨gp,1,none⟩=some (.slice Aa xs ca):=by rw [G.blk.cell];rfl
  clear hr2 Q h;go_wp2_with fail;go_loopw [34] (fun i wr=>xj (xs.map PkA.pk) xs id F i wr) (fun i _=>xs-(intOf i).toNat)
  case atStart=>exact ⟨0,rfl,zL,rfl,bR _ _⟩
  case round=>
   obtain ⟨a,rfl,m0,H,v⟩:=hrel;have n0:=qiJ (a+1);have x:=hb1.next v;by_cases y:a<xs
   ·have o0:=ltI a xs.length;have p0:=zeI a;obtain ⟨d,j⟩: ∃d,xs[a]?=some d:=⟨xs[a],gE y⟩;have I:=G.below v;obtain ⟨U,V,rfl,q0,J⟩:=(d8 I.all).at_ qO;have r0:wr.cell? ⟨U,V+a,none⟩=some (.pointer (some ⟨d.g,0,none⟩)):=J _ _ (by rw [pkc,m7,j];rfl);obtain ⟨s0,t0,K,_⟩:=I.packs d (g8 j);have q:=qI (vF K id (by unfold maxLen;omega));have L:(xs.map PkA.pk).drop a=d.pk::(xs.map PkA.pk).drop (a+1):=by
     have W:a<(xs.map PkA.pk).length:=by rw [g7];exact y
     rw [l8 W];congr 1;rw [Nt];congr 1;have:=gE y;rw [j] at this;exact z146
    have f:=H.out;rw [L,mF] at f;have X:=O d.pk (e9.2 ⟨d,g8 j,rfl⟩);have s:=Gn K id (by unfold maxLen;omega) (fun k Y=>by have:=X.2 k.p (e9.2 ⟨k,Y,rfl⟩);omega);change _=match bV (ptp d.l) id.data.toList with | some d=>some d.raw | none=>_ at f;clear J j L;cases n:bV (ptp d.l) id.data.toList with
    | none=>
     rw [n] at q f;have Z:=qI f;clear f n s;go_wp2_with fail;refine q.mono ?_;rintro e a0 ⟨rfl,z⟩;obtain rfl:=z.symm;go_wp2_with fail;exact ⟨⟨a+1,by go_num,qO,Z,v⟩,by simp [intOf];omega⟩
    | some k=>
    rw [n] at q f;have M:dY (ptp d.l) id= .ok k.raw:=by
     unfold dY;rw [if_pos S,n]
    rw [M] at s;have b0:=qI s;have A:Hid (r= .ok k.raw):=by
     unfold Hid;rw [hr3,f]
    clear f n s M;go_wp2_with fail;refine q.mono ?_;rintro e a0 ⟨rfl,z⟩;obtain rfl:=z.symm;go_wp2_with fail;refine b0.mono ?_;rintro e u0 ⟨c0,q',d0,e0,hq',rfl,f0,i1,i2⟩;go_wp2_with fail;go_ret2;rw [A];exact ⟨x.next c0,q',d0,e0,hq',rfl,f0.base x.size,i1,i2⟩
   have A:Hid (r= .error 6):=by
    unfold Hid;rw [hr3,H,p9 (by rw [g7];omega)];rfl
   go_wp2_with fail;go_ret2;rw [A];exact ⟨x,rfl⟩
 have hr3:Hid (r= .error a):=by
  unfold Hid;rw [hr2];exact if_neg o
 have z2:=bne_iff_ne.2 o;clear o hr2 E;go_wp2_with fail;go_ret2;rw [hr3];exact ⟨hb1,rfl⟩
end
