/- Walks and laws. Conditions: as stated. -/
import Derived.Test.YtecpbcmpncgokaaGreatSafeLaw
import Derived.Shelf.SortM.Plain
import Derived.Shelf.SortM.SortNone
set_option maxRecDepth 99999
set_option maxHeartbeats 25600000
set_option linter.all false
open Go.Value renaming ownBlock->PN,string->th
open Go.Fence renaming wide->Qd
open Go.Proofs.Tryz renaming prog->an
open Prod renaming fst->PM
open Go.RowKit Go.Dol
namespace Go.Dol
open Go.RowKit Go.MapKept Go.Maps
open Go.WideElems (Fit rd rg)
theorem Bz {l} (h:InOrder l) {ss:List (LU)} (i:ss.Perm (l.map fun f=>f.1.data.toList)):(ss.mergeSort fun x y=>decide (x<=y))=l.map fun f=>f.1.data.toList:=by
 have j: ∀a b c:LU,decide (a<=b)=true->decide (b<=c)=true->decide (a<=c)=true:=fun a b c d e=>dT (Pa (of_decide_eq_true d) (of_decide_eq_true e));have k: ∀a b:LU,(decide (a<=b)||decide (b<=a))=true:=fun a b=>by
  exact z121
 refine List.Perm.eq_of_pairwise (le:=fun a b=>decide (a<=b)=true) (fun a b _ _ d e=>Oz (of_decide_eq_true d) (of_decide_eq_true e)) (NO j k ss) ?_ ((NA ss _).trans i);rw [List.pairwise_map];exact h.imp fun {a b} g=>by
  unfold sLt at g;exact dT (List.le_of_lt (of_decide_eq_true g))
end Go.Dol
namespace Go.Dol
section
variable {L B:Nat} {D:Dk}
theorem pg (l:List Fil) (n:BA) (b:LU):(ag l n b).length=l+(match aa l n with | none=>1 | some _=>0):=by
 have a:=(ga l n b).length_eq;cases c:aa l n with
 | none=>
  rw [eK c] at a;rw [a];rfl
 | some e=>
 have d:=(fB c).length_eq;simp only [List.length_cons] at a d;rw [a,d];rfl
theorem lU (l n):(am l n).length<=l.length:=by
 cases a:aa l n with
 | none=>rw [eK a];omega
 | some c=>have b:=(fB a).length_eq;simp only [List.length_cons] at b;omega
theorem OkG.mono {L' B'} (a:OkG L B D) (b:L<=L') (c:B<=B'):OkG L' B' D:=⟨a.ord,a.cap0,a.cap1,a.left0,a.left1,a.names,lT a.len b,fun d e=>lT (a.bytes d e) c⟩
theorem OkG.look (a:OkG L B D) {n b} (c:aa D.l n=some b):b.length<=B:=a.bytes _ ((bz a.ord).1 c)
theorem OkG.spend (a:OkG L B D) {l'} (b:InOrder l') (c: ∀f∈l',ab f.1=true) (d:l'<=L) (e: ∀f∈l',f.2.length<=B):OkG L B (aW D l').2:=by
 have g:=a.left0;have h:=a.left1;unfold aW;split
 ·exact ⟨a.ord,a.cap0,a.cap1,by simp,by simp,a.names,a.len,a.bytes⟩
 refine ⟨b,a.cap0,a.cap1,?_,?_,c,d,e⟩<;>simp only<;>split<;>omega
theorem OkG.app (a:OkG L B D) (n b) (d:aa D.l n=none->D.l+1<=L) (e:((aa D.l n).getD []++b).length<=B):OkG L B (aF D n b).2:=by
 unfold aF;split
 ·exact a
 rename_i f;split
 ·exact a
 unfold cy;split
 ·exact a
 have g:ab n=true:=by
  cases h:ab n with
  | true=>rfl
  | false=>exact absurd (.inr h) f
 refine a.spend (ef a.ord) (jl a.names g _) ?_ fun c i=> ?_
 ·rw [pg];cases j:aa D.l n with
  | none=>exact d j
  | some o=>exact a.len
 rcases gc c i with k | m
 ·rw [k];exact e
 exact a.bytes c m
theorem OkG.rem (a:OkG L B D) (n):OkG L B (aB D n).2:=by
 unfold aB;split
 ·exact a
 exact a.spend (dj a.ord) (kW a.names n) (lT (lU _ _) a.len) fun f b=>a.bytes f (jn f b)
theorem OkG.sync (a:OkG L B D) (n):OkG L B (bd D n).2:=by
 unfold bd;split
 ·exact a
 exact a.spend a.ord a.names a.len a.bytes
theorem OkG.ren (c:OkG L B D) (a b):OkG L B (bx D a b).2:=by
 unfold bx;split
 ·exact c
 rename_i g;split
 ·exact c
 rename_i h;obtain ⟨q,_,e,d⟩:=iq (Ol.1 h);have i:ab b=true:=by
  cases j:ab b with
  | true=>rfl
  | false=>exact absurd (.inr j) g
 unfold cy;split
 ·exact c
 rw [d,NH];refine c.spend (ef (dj c.ord)) (jl (kW c.names a) i _) ?_ fun f k=> ?_
 ·have m:=(fB d).length_eq;have n:=pg (am D.l a) b e;have r:=c.len;simp only [List.length_cons] at m;rw [n];cases aa (am D.l a) b with
  | none=>show _+1<=L;omega
  | some e=>show _+0<=L;omega
 rcases gc f k with o | p
 ·rw [o];exact c.look d
 exact c.bytes f (jn f p)
theorem OkG.cut (a:OkG L B D) {k} (b:k<=9223372036854775807):OkG L B (dm D k).2:=by
 unfold dm;split
 ·exact a
 simp only;split
 ·exact a
 exact ⟨a.ord,a.cap0,a.cap1,by simp only;omega,b,a.names,a.len,a.bytes⟩
theorem OkG.on (a:OkG L B D):OkG L B (onD D):=⟨a.ord,a.cap0,a.cap1,by simp [onD],by simp [onD],a.names,a.len,a.bytes⟩
theorem uY (D n b):(aF D n b).2.l=D.l\/(aF D n b).2.l=ag D.l n ((aa D.l n).getD []++b):=by
 unfold aF;split
 ·exact .inl rfl
 split
 ·exact .inl rfl
 unfold cy;split
 ·exact .inl rfl
 unfold aW;split
 ·exact .inl rfl
 exact .inr rfl
theorem OkG.all (h:OkG L B D) {s}: ∀b:List (LU),(aa D.l s=none->D.l+1<=L)->((aa D.l s).getD []++b.flatten).length<=B->OkG L B (aR D s b).2:=by
 intro b;induction b generalizing D with
 | nil=>intro _ _;exact h
 | cons c j f=>
 intro d hb;have g:((aa D.l s).getD []++c).length<=B:=by
  exact z132
 have e:=h.app s c d g;unfold aR;split
 ·exact e
 refine f e ?_ ?_
 ·rcases uY D s c with a | a
  ·rw [a];exact d
  rw [a,cF h.ord,if_pos rfl];intro i;cases i
 rcases uY D s c with a | a
 ·rw [a];exact z132
 rw [a,cF h.ord,if_pos rfl,NH];exact z132
theorem ph (b):(aS b).flatten.length<=b.length:=by
 rw [nx];exact lR _
theorem OkG.pre (c:OkG L B D) {n b} (a:(aa D.l (shd n)).isSome=false) (d:D.l+1<=L) (i:b.length<=B) {pre r} (e:aS b=pre++r):OkG L B (aR D (shd n) pre).2:=by
 have f:=ph b;rw [e,List.flatten_append,b7] at f;have g:aa D.l (shd n)=none:=by cases h:aa D.l (shd n) with | none=>rfl | some j=>rw [h] at a;cases a
 exact c.all (s:=shd n) pre (fun _=>d) (by rw [g,O9,List.nil_append];omega)
theorem OkG.last (a:OkG L B D) (n):OkG L B (eG D n).2:=by
 unfold eG;split
 ·exact a.sync _
 exact (a.sync _).ren _ _
theorem OkG.laid (c:OkG L B D) (n b) (d:aa D.l (shd n)=none) (e:D.l+1<=L) (f:b.length<=B):OkG L B (ev D n b).2:=by
 have a:=c.all (s:=shd n) (aS b) (fun _=>e) (by rw [d];exact lT (ph b) f);unfold ev;split
 ·exact a
 exact a.last n
theorem OkG.tail (a:OkG L B D) (n b) (c:aa D.l (shd n)=none) (d:D.l+1<=L) (e:b.length<=B):OkG L B (cR D n b).2:=by
 unfold cR;split
 ·exact a
 exact a.laid n b c d e
theorem pi (c:InOrder D.l) {n} (a:(aB D n).1=0):aa (aB D n).2.l n=none/\(aB D n).2.l=am D.l n:=by
 unfold aB at a ⊢;split
 ·rename_i b;rw [if_pos b] at a;exact absurd a b
 rename_i b;rw [if_neg b] at a;unfold aW at a ⊢;split
 ·rename_i d;rw [if_pos d] at a;cases a
 exact ⟨by show aa (am D.l n) n=none;rw [eH c,if_pos rfl],rfl⟩
theorem OkG.save (a:OkG L B D) (n b) (d:D.l+1<=L) (e:b.length<=B):OkG L B (ao D n b).2:=by
 unfold ao;split
 ·exact a
 split
 ·exact a
 split
 ·split
  ·exact a.rem _
  rename_i c;obtain ⟨f,g⟩:=pi a.ord (Ol.1 c);exact (a.rem _).tail n b f (by rw [g];exact lT (Nat.succ_le_succ (lU _ _)) d) e
 rename_i c;exact a.tail n b (by cases h:aa D.l (shd n) with | none=>rfl | some i=>rw [h] at c;exact absurd rfl c) d e
end
theorem OkD.lenW {D} (a:OkD D):D.l.length<=68719476736:=by
 have b:=Ct D.l;have c:=a.room;have d:=a.cap1;omega
end Go.Dol
namespace Go.Proofs.YtecpbcmpncgokaaGreat
theorem LW (x k m) (c:m=((2^k-1:Nat):Int)) (d:k<=62):0<=bits .and .i64 x m/\bits .and .i64 x m<=m:=by
 subst c;have g:(2:Nat)^k<=2^62:=NL (by decide) d;have h:=Nat.two_pow_pos k;have e:(BitVec.ofInt 64 ((2^k-1:Nat):Int)).toNat=2^k-1:=by
  rw [BitVec.ofInt_natCast,BitVec.toNat_ofNat];exact NV qO
 obtain ⟨a,b⟩:=gX ((BitVec.ofInt 64 x &&& BitVec.ofInt 64 ((2^k-1:Nat):Int)).toNat);have ha:a<=2^k-1:=by
  rw [b,BitVec.toNat_and,e];exact Nat.and_le_right
 have f:bits .and .i64 x ((2^k-1:Nat):Int)=IntKind.i64.wrap a:=by rw [b];rfl
 rw [f,qJ qO];omega
theorem Blk.tw {w w' g m x T cs} (a:Blk w x T cs) (b:Tw w w' g m) (c:x≠g) (d:x≠m):Blk w' x T cs:=(b.block x a.lt c d).trans a
section
variable {w w':World} {g m:Nat} {D:Dk}
theorem Far.tw {W W' B g m A l} (c:Far W B A l) (h:Tw W W' g m) (q:Other W B (some g)) (r:Other W B (some m)):Far W' B A l:=by
 rcases p7 l.length with b | b
 ·rw [nZ b];exact Far.nil
 obtain ⟨a,s,i,n,t⟩:=c.1.at_ b;have f:au A=some a:=by rw [i];rfl
 have o: ∀k,Other W B (some k)->a≠k:=by
  rintro k d rfl;obtain ⟨C,v⟩:=d a rfl;rcases c.2 b a f with p | ⟨x,y,p⟩
  ·omega
  exact v x y p
 have d:=h.block a n (o g q) (o m r);refine ⟨⟨c.1.len,fun _=>⟨a,s,i,r9 n h.size,fun j u z=>(k7 d).trans (t j u z)⟩⟩,fun _ k e=> ?_⟩;rw [f] at e;injection e with e;subst e;rw [d];exact c.2 b a f
theorem Dsk.others (b:Dsk w g m D) {B} (c:B<=g) (d:B<=m):Other w B (some g)/\Other w B (some m):=by
 obtain ⟨h,e,f,_⟩:=b;refine ⟨v8 e (by decide) c,fun i a=> ?_⟩;injection a with a;subst a;exact ⟨d,(Ow f m rfl).2⟩
theorem zK {base T size v n xs} (e:Dsk w g m D) (f:Tw w w' g m) (c:w.ownsRow base T size v n xs) (h:T≠145):w'.ownsRow base T size v n xs:=by
 refine ⟨c.1,?_⟩;rcases c.2 with i | ⟨b,j,k,rfl,l,a,o⟩
 ·exact .inl i
 have p:=(j7.1 a).1;obtain ⟨u,d,q,_⟩:=e;have r:b≠g:=by
  rintro rfl;unfold Blk at d;rw [d] at a;injection a with a;injection a with _ a;exact h a.symm
 have s:b≠m:=by
  rintro rfl;obtain ⟨x,y,t,_⟩:=q;rw [t] at a;cases a
 exact .inr ⟨b,j,k,rfl,l,(f.block b p r s).trans a,o⟩
theorem Dsk.offRows (a:Dsk w g m D):Other w 0 (some g)/\Other w 0 (some m):=by
 obtain ⟨d,b,c,_⟩:=a;exact ⟨v8 b (by decide) (zL),Ow c⟩
theorem Fls8.tw {l} (a:Dsk w g m D) (d:Tw w w' g m) (b:Fls8 w 0 l):Fls8 w' 0 l:=fun x c=>⟨(b x c).1.tw d a.offRows.1 a.offRows.2,(b x c).2⟩
end
theorem Bv (w g m n) (b:LU) (A c) (d:w.cell? ⟨g,1,none⟩=some (.map (some m))) (e:(Instr.lookup 140 (.map (some m)) (.string n) true).run an w= .ok (.tuple #[.slice A b c,true]) w)
  (f:n.size<=140737488355328) (h:b.length<=kaa):
  Calls an 105 #[.pointer (some ⟨g,0,none⟩),.string n] w fun a w'=>a= .returned (.int .i64 (16+(n.size:Int)+b))/\w'=w:=by
 have i:=qiJ (16+n.size);have j:=qiJ (16+n.size+b);go_in;go_wp2_with fail;go_ret;exact ⟨rfl,rfl⟩
def dl (cap:Int) (l:List Fil):Dk:=⟨cap,l,0,-1,false⟩
def Bw (cap:Int) (b:List FilA) (g m:Nat) (w:World) (i:Value) (wr:World):Prop:=
 ∃(a:Nat) (l:List Fil),i= .int .i64 a/\a<=b/\Hid (aQ [] ((b.take a).map FilA.f)=some l)/\Dsk wr g m (dl cap l)/\Below w w wr
def Bx (w:World) (r:Option Dk×Int) (b:Ending) (w':World):Prop:=
 match r.1 with
 | none=>b= .returned (.tuple #[.pointer none,.int .i64 r.2])/\Below w w w'
 | some d=> ∃a c,b= .returned (.tuple #[.pointer (some ⟨a,0,none⟩),.int .i64 r.2])/\Dsk w' a c d/\w.heap.size<=a/\w.heap.size<=c/\Below w w w'
theorem zP (cap A fs n c) (p0:n=fs.length) (w) (q0:Rd w w.heap.size 2 A n (fc fs)) (g1:Fls8 w w.heap.size fs) (N1: -9223372036854775808<=cap/\cap<=9223372036854775807) (O1:fs.length<=kaa) (i1: ∀x∈fs,x.n.size<=140737488355328/\x.b.length<=140737488355328):
  Calls an 66 #[.int .i64 cap,.slice A n c] w (Bx w (cE cap (fs.map FilA.f))):=by
 have HN:=qI p0;clear p0;by_cases W:cap<0\/kaf<cap
 ·have HF:Hid (cE cap (fs.map FilA.f)=(none,1)):=if_pos W;go_in;go_wp2_with ((go_at_call 38;refine (By cap _ W).mono ?_;rintro e r0 ⟨rfl,j1⟩;obtain rfl:=j1.symm));go_ret2;rw [HF];exact ⟨rfl,bR _ _⟩
 have k1:0<=cap:=qO;have l1:cap<=kaf:=qO;have HF:Hid (cE cap (fs.map FilA.f)=match aQ [] (fs.map FilA.f) with | none=>(none,1) | some k=>if frD ⟨cap,k,0,-1,false⟩<0 then (none,4) else (some ⟨cap,k,0,-1,false⟩,0)):=if_neg W;go_in;go_wp2_with ((go_at_call 38;refine (sl cap _ k1 l1).mono ?_;rintro e r0 ⟨g,k,rfl,X,s0,t0,y⟩));obtain ⟨P1,u0⟩:=gX r0;rw [<-u0] at X y ⊢;clear u0;go_loopw [20] (fun i wr=>Bw cap fs g k w i wr) (fun i _=>fs-(intOf i).toNat)
 case atStart=>exact ⟨0,[],rfl,zL,rfl,X,y⟩
 case round=>
  clear X y;obtain ⟨j,l,rfl,m1,z,N,H⟩:=hrel;have Q1:j<=n:=by rw [HN];exact m1
  have R1:j<=kaa:=qO;have S1:=N.lt;have hO:=so z.out Ny;by_cases n1:j<n
  ·have o1:j<fs:=by rw [<-HN];exact n1
   obtain ⟨x,O⟩: ∃x,fs[j]?=some x:=⟨fs[j],gE o1⟩;obtain ⟨v0,w0⟩:=di O;have Y:=g8 O;have x0:=q0.belowW H (lR _);obtain ⟨y0,z0,rfl,T1,Z⟩:=x0.at_ qO;have p1:wr.cell? ⟨y0,z0+j*2,none⟩=_:=Z _ _ v0;have q1:wr.cell? ⟨y0,z0+j*2+1,none⟩=_:=Z _ _ w0;have A0:=(g1 x Y).1.below H;have r1:=i1 x Y;have P:(fs.take (j+1)).map FilA.f=(fs.take j).map FilA.f++[x.f]:=by rw [t7,O];simp
   have B0:fs.map FilA.f=(fs.take (j+1)).map FilA.f++(fs.drop (j+1)).map FilA.f:=by rw [<-p8,r8]
   obtain ⟨a,d,u,v⟩:=x;change (fs.take (j+1)).map FilA.f=(fs.take j).map FilA.f++[(a,d)] at P;have a0:aQ [] ((fs.take j).map FilA.f++[(a,d)])=if ab a=false\/(aa l a).isSome=true then none else some (ag l a d):=sr z.out (a,d);rw [<-P] at a0;simp only at p1 q1 A0 r1;have s1:a.size<=kaa:=qO;have C0:d.length<=kaa:=qO;have HS:=qI a0;have D0:=qI B0;have U1:=qI P;clear O v0 w0 Z x0 a0 B0 P Y q0;have E0:=o9 wr 107 [a,.slice u d v];have y:=(bR wr wr).alloc (lR _) (.cells #[a,.slice u d v] 107);have Q:=y.alloc y.size (.cells #[a] 9);have I:=E0.alloc (.cells #[a] 9);have F0:Rd ((wr.alloc (.cells #[a,.slice u d v] 107)).alloc (.cells #[a] 9)) (wr+1+1) 1 (some ⟨wr+1,0,none⟩) [a].length (sc [a]):=by
    have:=NX (wr.alloc (.cells #[a,.slice u d v] 107)) 9 (.string a);rw [u7] at this;exact this
   obtain ⟨o,B⟩:=gX ((wr.alloc (.cells #[a,.slice u d v] 107)).alloc (.cells #[a] 9));change Blk ((wr.alloc (.cells #[a,.slice u d v] 107)).alloc (.cells #[a] 9)) _ _ _ at I;rw [<-B] at Q I F0;have G0:=N.below Q;have t1:=A0.below Q;have H0:=I.c 0;have I0:=I.c 1;have hw2:=H.next Q;have r:=kS _ _ [a] 1 o F0 (by simp);have E:=jf G0 hO a (by unfold maxLen;omega);obtain ⟨u1,his⟩:=gX ((aa l a).isSome);change Calls _ _ _ _ (fun e J=>e= .returned (.bool (aa l a).isSome)/\J=o) at E;rw [<-his] at E;have J0:[a].all ab=ab a:=by simp
   rw [J0] at r;clear J0 E0 y;cases hB:ab a with
   | false=>
    have HE:Hid (aQ [] (fs.map FilA.f)=none):=by
     unfold Hid;rw [D0];refine kT ?_;rw [HS,if_pos (.inl hB)]
    rw [hB] at r;have K:=qI r;clear r hB;go_wp2_with fail;rw [<-B];clear B;refine K.mono ?_;exact z184
   | true=>
   rw [hB] at r;cases u1 with
   | true=>
    have HE:Hid (aQ [] (fs.map FilA.f)=none):=by
     unfold Hid;rw [D0];refine kT ?_;rw [HS,if_pos (.inr his.symm)]
    have K:=qI r;have b0:=qI E;clear r E hB his;go_wp2_with fail;rw [<-B];clear B;refine K.mono ?_;rintro e w3 ⟨rfl,hw3⟩;obtain rfl:=hw3.symm;go_wp2_with fail;refine b0.mono ?_;exact z184
   | false=>
   have HE:Hid (aQ [] ((fs.take (j+1)).map FilA.f)=some (ag l a d)):=by
    exact z201
   have K:=qI r;have b0:=qI E;have v1:Hid (aa l a=none):=qI (by cases h:aa l a with | none=>rfl | some V1=>rw [h] at his;cases his);clear r E hB his;go_wp2_with fail;rw [<-B];clear B;refine K.mono ?_;rintro e w3 ⟨rfl,hw3⟩;obtain rfl:=hw3.symm;go_wp2_with fail;refine b0.mono ?_;rintro e w3 ⟨rfl,hw3⟩;obtain rfl:=hw3.symm;go_wp2_with fail;obtain ⟨W1,R,c0,w1⟩:=id G0;obtain ⟨X1,x1⟩:=im a (by unfold maxLen;omega);have K0:=R.c 1;have y1:=qI (nV o u d d v rfl o.drew t1.1.drew C0);have L0:=R.lt;have d0:=c0.blk_ne R;have M0:=I.lt;go_region_held3 (fun J=>J.cell? ⟨g,1,none⟩=some (.map (some k))/\J.cell? wr=some (.string a)/\J.cell? ⟨wr,1,none⟩=some (.slice u d v))
    (first | exact ⟨e0,f0,N0⟩ | exact ⟨g0,h0,i0⟩ | go_keep) ((first
     | (go_at_call 93;(with_reducible refine y1.out.mono ?_);rintro e w3 ⟨O0,P0,Q0,z1,rfl,A1,R0,_,_⟩;
                 have q:=((bR o o).drew).trans R0;have g0:=(q.cell (p:=⟨g,1,none⟩) L0).trans K0;have h0:=(q.cell (p:=⟨wr,0,none⟩) M0).trans H0;have i0:=(q.cell (p:=⟨wr,1,none⟩) M0).trans I0;have S:=c0.belowW q;have Y1:=q.size;obtain ⟨T,s,B1,j0,C1,C⟩:=S.update il D7 x1 (.slice P0 O0 Q0);have e0:=(k7 (C.block g qO (fun e=>by injection e with e;exact d0 e))).trans g0;have f0:=(k7 (C.block wr qO (fun e=>by injection e with e;omega))).trans h0;
                 have N0:=(k7 (C.block wr qO (fun e=>by injection e with e;omega))).trans i0)))
   go_wp2_with fail;have q:=((bR o o).drew).trans R0;have S:=c0.belowW q;have S0:Blk s g 145 (io cap k (frD (dl cap l)) 0 (-1) false):=(R.below q L0).grown C (fun e=>by injection e with e;exact d0 e);have T0:Byt s (.slice P0 O0 Q0) d:=by
    have U0:=Byt.own A1;rw [z1] at U0 ⊢;exact U0.keep C (Ow S)
   have k0:Fls s T (ag l a d):=((w1.below q).keep C (Ow S)).put hO C1 T0;have V0:Tw o s g k:=(B7 q).step (Tw.grownM C);have W0:IntKind.i64.wrap (frD (dl cap l)-(16+a.size+d))=frD (dl cap (ag l a d)):=by
    refine (jg (D:=dl cap l) (D':=dl cap (ag l a d)) rfl ?_).symm;show ar (ag l a d)=ar l+_;rw [ip hO,v1]
   obtain ⟨L,M,X0⟩: ∃L M,(Instr.lookup 140 (.map (some k)) (.string a) true).run an s.drew= .ok (.tuple #[.slice L d M,true]) s.drew:=by
    have l0:aa (ag l a d) a=some d:=by rw [cF hO,if_pos rfl]
    rcases sk j0 k0 (ef hO) a (by unfold maxLen;omega) with ⟨z,_⟩ | ⟨b',L,M,z,_,_,_,hf,_⟩
    ·rw [z] at l0;cases l0
    have D1:b'=d:=by
     have:=z.out;rw [l0] at this;exact z146
    subst D1;exact ⟨L,M,hf _ rfl⟩
   obtain ⟨m,t⟩:=gX s.drew;rw [<-t] at X0;have E1:m.cell? ⟨g,1,none⟩=some (.map (some k)):=by rw [t];exact e0
   have Z1:m.cell? wr=some (.string a):=by rw [t];exact f0
   have F:Blk m g 145 (io cap k (frD (dl cap l)) 0 (-1) false):=by rw [t];exact S0.drew
   have Y0:MapL an 9 m k T:=by rw [t];exact j0.drew
   have Z0:Fls m T (ag l a d):=by rw [t];exact k0.below ⟨rfl,rfl,rfl,lR _,fun _ _=>rfl⟩
   have a1:Tw o m g k:=by rw [t];exact V0.drew
   have F1:=F.c 2;have a2:=F.free 2;have b1:=Bv m g k a d L M E1 X0 s1 C0;obtain ⟨m0,c1⟩:=gX (frD (dl cap l));rw [<-c1] at W0 F1 F;obtain ⟨U,n0⟩:=gX (frD (dl cap (ag l a d)));rw [<-n0] at W0;have G1:=qI n0;have H1:=qI b1;have I1:Dsk (m.setCell ⟨g,2,none⟩ (.int .i64 U)) g k (dl cap (ag l a d)):=by
    have V:m.grownBy (m.setCell ⟨g,2,none⟩ (.int .i64 U)) (some g):=ae (gR m _) 2 _;refine ⟨T,?_,Y0.grown V (fun e=>by injection e with e;exact d0 e.symm),Z0.keep V (v8 F (by decide) (zL))⟩;rw [<-G1];exact F.set 2 _
   have J1:Below w w (m.setCell ⟨g,2,none⟩ (.int .i64 U)):=by
    have V:m.grownBy (m.setCell ⟨g,2,none⟩ (.int .i64 U)) (some g):=ae (gR m _) 2 _;exact Tw.new hw2 (a1.step (OP V)) s0 t0
   clear c1 n0 b1 e0 f0 N0 g0 h0 i0 B1 H0 I0 K0 S0 k0 j0 Z0 Y0 F V0 a1 T0;refine wp_region_still_tail 11 qkR qkR ?_;change wpStill _ _ (World.drew s) (fun K1=>wpList _ _ _ _ K1 (World.drew s)) _ _;rw [<-t];clear t;simp only [Nz,Nw,Oa,y8]
   repeat still_step
   still_call H1.out
   repeat still_step
   refine wpStill_nil ?_;go_wp2_with fail;refine ⟨⟨j+1,ag l a d,by go_num,qO,HE,I1,J1⟩,by simp [intOf];omega⟩
  have d1:aQ [] (fs.map FilA.f)=some l:=by
   have h1:=z.out;exact z131
  obtain ⟨_,_,L1,_⟩:=N.cells;obtain ⟨m0,e1⟩:=gH (frD (dl cap l));rw [<-e1] at L1;have HE:=qI d1;have f1:Hid (cE cap (fs.map FilA.f)=if m0<0 then (none,4) else (some (dl cap l),0)):=by
   unfold Hid;rw [HF,HE,e1];rfl
  clear d1 HF;by_cases G:m0<0
  ·have M1:=dT G;have o0:Hid (cE cap (fs.map FilA.f)=(none,4)):=by unfold Hid;rw [f1,if_pos G]
   clear G;go_wp2_with fail;go_ret2;rw [o0];exact ⟨rfl,H⟩
  have M1:=qF G;have o0:Hid (cE cap (fs.map FilA.f)=(some (dl cap l),0)):=by unfold Hid;rw [f1,if_neg G]
  clear G;go_wp2_with fail;go_ret2;rw [o0];exact ⟨g,k,rfl,N,s0,t0,H⟩
end Go.Proofs.YtecpbcmpncgokaaGreat
namespace Go.Proofs.YtecpbcmpncgokaaGreat
open Go.RowKit Go.Dol Go.Shelf
attribute [local go_sem] Oper.semAt_some
theorem ib:(an.info? 9).map (fun i=>(i.zero,i.size,i.bytes))=some (some (.string ⟨#[]⟩),1,16):=qkR
def ClI (w:World) (K:Option Nat) (a:List BA) (b:World):Prop:=
  ∃d e,Blk b w 38 [.slice d a e]/\b.ownsRow w 9 1 (.slice d a e) a (sc a)/\(∀c,K=some c->c≠w.heap.size/\c<b.heap.size/\(Value.slice d a e).ownBlock≠some c)/\Below w w b
def ry (w:World) (S:List BA->Prop) (d:Ending) (w':World):Prop:=
  ∃(a:List BA) (b:OA) (c:Nat),Hid (S a)/\d= .returned (.slice b a c)/\w'.ownsRow w 9 1 (.slice b a c) a (sc a)/\Below w w w'
theorem iX (l x):sc (l++[x])=sc l++[.string x]:=by simp [sc]
theorem Aj (gf:Nat) (lb) (V: ∀args w,(callFunc gf args).run an w= .ok (.enter gf args) w) (S N) (hN:N<=3518437208880) (w) (W:kG Qd 4 an gf lb th N S w):
    CallsIn Qd 5 an 182 #[.slice none 0 0, .func (.func gf) #[] lb] w (ry w S):=by
  refine callsIn_of_wp_marks Tryz.func182 rfl trivial ?_ rfl;simp only [Tryz.ntmps182,List.size_toArray,List.length_cons,List.length_nil,Nat.reduceAdd,Nat.reduceSub,Array.replicate_succ,Array.replicate_zero,List.push_toArray,List.append_toArray,List.nil_append,List.cons_append];gi_wp2;have D:=bAl w (.cells #[eL] 38);have X:=o9 w 38 [eL];have A:(w.alloc (.cells #[eL] 38)).heap.size=w+1:=by simp
  refine Am (p:=7) (q:=5) rfl qO (gf:=gf) (lb:=lb) rfl trivial V W D (ClI w) ?start ?keep ?put ?assign ?body ?done
  case start=>
    intro t f j c;rw [A] at c;refine ⟨none,0,X.below j (by rw [A];omega),j9 _ _ _ _,fun k a=>⟨?_,(c k a).2,by simp [PN]⟩,D.trans (j.mono D.size)⟩;have:=(c k a).1;omega
  case keep=>
    rintro t h f o0 ⟨l,m,g,d,b,e⟩ j;exact ⟨l,m,g.below j g.lt,az d j,fun k a=>⟨(b k a).1,r9 (b k a).2.1 j.size,(b k a).2.2⟩,e.next j⟩
  case put=>
    rintro t h f E F u L ⟨l,m,g,d,b,e⟩;rw [A] at u;have v:=grownBy_putObj' f E F;refine ⟨l,m,Aq g L F,gG d fun k c=> ?_,fun k a=>⟨(b k a).1,by simpa using (b k a).2.1,(b k a).2.2⟩,e.grown v e.size (fun k a=>by injection a with a;omega)⟩;refine v.block k (cZ d k c).2 fun a=> ?_;injection a with a;subst a;obtain ⟨p0,B,M⟩:=L;rcases d.2 with ⟨a,_⟩ | ⟨x,O,P,a,_,y,_⟩
    · rw [a] at c
      cases c
    rw [a] at c;have:x=k:=by simpa [PN] using c
    subst this;rw [y] at B;injection B with B;rw [<-B] at M;cases M
  case assign=>
    intro E n f t Y;gi_wp2;exact Y
  case body=>
    rintro E t h n f q0 ⟨l,m,g,d,b,e⟩;have Z:=g.c 0;have r0:=g.lt;have a0:Rd (f.alloc (.cells #[n] 9)) (f+1) 1 (some ⟨f,0,none⟩) 1 [.string n]:=NX f _ _;have Q:=d.alloc (.cells #[n] 9);have R:=g.alloc (.cells #[n] 9);have b0:=own_ne Q R (by decide);simp only [List.setIfInBounds_toArray,List.set_cons_succ,List.set_cons_zero];gi_wp2_with (first
      | (gi_at_builtin;refine Au _ rfl _ _ 38 rfl w.heap.size 9 (.string ⟨#[]⟩) 16 q9 ib rfl l h.length m (sc h) rfl Q _ 1 1 [.string n] rfl _ a0 (by intro s0 c0;obtain rfl:=i7.1 c0;rfl) (by decide) (by unfold maxLen;omega) (by omega) (by simp;omega) ?_;intro G H I T z d0
         have C:=R.grown z (fun a=>b0 a.symm);have t0:=C.free 0;have u0:=C.c 0)
      | gi_in)
    have e0:=z.size;rw [u7] at e0;have f0:=C.set 0 (.slice G (h.length+1) H);have r:I.grownBy (I.setCell ⟨w,0,none⟩ (.slice G (h.length+1) H)) (some w.heap.size):=ae (gR I _) 0 _;have g0:=own_ne T C (by decide);have h0:=T.kept r (.inr g0);have u:(h++[n]).length=h+1:=by simp
    refine ⟨⟨?_,fun k F c s U=> ?_⟩,⟨G,H,by rw [u];exact f0,by rw [u,iX];exact h0,fun k a=>⟨(b k a).1, ?_,fun i=> ?_⟩, ?_⟩,fun k a=> ?_⟩
    · exact lT qO r.size
    · have i0:=(j7.1 s).1
      rw [r.block k qO (fun a=>by injection a with a;omega),z.block k (by simp;omega) (fun a=> ?_),C7 _ _ k i0]
      · exact s
      rcases d.2 with ⟨o,_⟩ | ⟨x,O,P,o,_,y,_⟩
      · rw [o] at a
        cases a
      rw [o] at a;have:k=x:=by simpa [PN] using a
      subst this;rw [y] at s;injection s with s;rw [<-s] at U;cases U
    · have:=r.size
      have:=(b k a).2.1;omega
    · rw [u] at i
      rcases d0 k i with J | J
      · exact (b k a).2.2 J
      have:=(b k a).2.1;rw [u7] at J;omega
    · exact ((e.alloc e.size _).grown z (by have:=e.size;simp;omega) (fun k a=>(cZ d k a).1)).grown r (by have:=e.size;omega) (fun k a=>by injection a with a;omega)
    rw [r.block k (by have:=(b k a).2.1;omega) (fun i=>by injection i with i;exact (b k a).1 i),z.block k (by have:=(b k a).2.1;simp;omega) (fun i=>(b k a).2.2 i.symm),C7 _ _ k (b k a).2.1]
  case done=>
    rintro j0 t k0 f l0 m0 ⟨l,m,g,d,b,e⟩ K;rw [A] at l0;have Z:=g.c 0;have n0:=qI m0;gi_wp2;refine ⟨by simp, .inl ⟨_,_,rfl,run_takeDeferred K, ?_⟩⟩;have v:=grownBy_putObj' f j0 (.deferred none);refine ⟨_,results_tmp rfl _ _ _,k0,l,m,n0,rfl,gG d fun k c=>v.block k (cZ d k c).2 fun a=> ?_,e.grown v e.size (fun k a=>by injection a with a;omega)⟩;injection a with a;subst a;rcases d.2 with ⟨o,_⟩ | ⟨x,O,P,o,_,y,_⟩
    · rw [o] at c
      cases c
    rw [o] at c;have:x=k:=by simpa [PN] using c
    subst this;rw [y] at K;cases K
theorem Av (gf:Nat) (lb) (a: ∀args w,(callFunc gf args).run an w= .ok (.enter gf args) w) (S N) (hN:N<=3518437208880) (w) (b:kG Qd 4 an gf lb th N S w):
    Calls an 114 #[.func (.func gf) #[] lb] w (ry w S):=by
  have c:=qI (callsIn_wide.1 (Aj gf lb a S N hN w b));go_in;go_wp2_with fail;refine c.mono ?_;rintro j k ⟨d,e,f,g,rfl,h,i⟩;go_wp2_with fail;go_ret;exact ⟨d,e,f,g,rfl,h,i⟩
end Go.Proofs.YtecpbcmpncgokaaGreat
namespace Go.Proofs.YtecpbcmpncgokaaGreat
open Go.RowKit Go.Maps Go.Sort Go.Shelf
def sY:Go.Shelf.Ren:=⟨fun | 7=>133 | 10=>206 | n=>n,fun | 23=>140 | 26=>9 | 3=>36 | 28=>170 | 0=>0 | 27=>169 | 33=>104 | 4=>4 | n=>n,fun | n=>n⟩
theorem sZ:Go.Proofs.SlLaysZ.n7 an sY:={
  mixed:=qkR
  f7:=⟨Tryz.f133.name,by decide,Tryz.func133.trans (congrArg some qkR)⟩
  f10:=⟨Tryz.f206.name,by decide,Tryz.func206.trans (congrArg some qkR)⟩
  t0:=O8
  a0:=Tryz.isAgg0
  z0:=Tryz.sizeOf0
  v0:=Ph
  t4:=Ob
  a4:=Tryz.isAgg4
  z4:=Tryz.sizeOf4
  v4:=Tryz.zeroValue4
  t23:=D7
  a23:=Tryz.isAgg140
  z23:=Tryz.sizeOf140
  v23:=Tryz.zeroValue140
  t26:=l9
  a26:=Pb
  z26:=OQ
  v26:=Oi
  t27:=Tryz.underlying169
  a27:=Tryz.isAgg169
  z27:=Tryz.sizeOf169
  v27:=Tryz.zeroValue169
  t28:=Tryz.underlying170
  a28:=Tryz.isAgg170
  z28:=Tryz.sizeOf170
  v28:=Tryz.zeroValue170
  t33:=Tryz.underlying104
  a33:=Tryz.isAgg104
  z33:=Tryz.sizeOf104
  v33:=Tryz.zeroValue104 }
def tb:Go.Shelf.Ren:=⟨fun | 6=>132 | 8=>114 | 9=>83 | 11=>182 | 13=>155 | 12=>154 | 23=>225 | 24=>226 | 14=>216 | 15=>217 | 16=>218 | 17=>219 | 18=>220 | 19=>221 | 20=>222 | 21=>223 | 22=>224 | 25=>263 | 26=>264 | 27=>265 | 28=>266 | 29=>267 | 30=>268 | 31=>283 | n=>n,fun | 26=>9 | 28=>170 | 24=>38 | 0=>0 | 3=>3 | 37=>202 | 48=>128 | 50=>249 | 4=>4 | 40=>282 | 39=>281 | 45=>209 | 5=>5 | 9=>9 | 51=>313 | 55=>317 | 57=>324 | 58=>234 | 33=>104 | n=>n,fun | n=>n⟩
theorem CC:Go.Proofs.SlLaysZ.n6 an tb:={
  mixed:=qkR
  f6:=⟨Tryz.f132.name,by decide,Tryz.func132.trans (congrArg some qkR)⟩
  f8:=⟨Tryz.f114.name,by decide,Tryz.func114.trans (congrArg some qkR)⟩
  f11:=⟨Tryz.f182.name,by decide,Tryz.func182.trans (congrArg some qkR)⟩
  t0:=O8
  a0:=Tryz.isAgg0
  z0:=Tryz.sizeOf0
  v0:=Ph
  t24:=q9
  a24:=Tryz.isAgg38
  z24:=PC
  v24:=O7
  t26:=l9
  a26:=Pb
  z26:=OQ
  v26:=Oi
  t28:=Tryz.underlying170
  a28:=Tryz.isAgg170
  z28:=Tryz.sizeOf170
  v28:=Tryz.zeroValue170
  i26:=qkR }
def CD:Go.Shelf.Ren:=⟨fun | 6=>83 | 8=>155 | 9=>154 | 19=>225 | 20=>226 | 21=>216 | 22=>217 | 23=>218 | 24=>219 | 25=>220 | 26=>221 | 27=>222 | 28=>223 | 29=>224 | 36=>263 | 31=>264 | 32=>265 | 37=>266 | 38=>267 | 39=>268 | 41=>283 | n=>n,fun | 27=>38 | 29=>9 | 3=>3 | 32=>202 | 26=>38 | 0=>0 | 44=>128 | 46=>249 | 4=>4 | 36=>282 | 35=>281 | 41=>209 | 5=>5 | 9=>9 | 53=>313 | 57=>317 | 63=>324 | 64=>234 | n=>n,fun | n=>n⟩
theorem ll:Go.Proofs.SlLaysM.n6 an CD:={
  mixed:=qkR
  f6:=⟨Tryz.f83.name,by decide,Tryz.func83.trans (congrArg some qkR)⟩
  f8:=Tryz.func155.trans (congrArg some qkR)
  f9:=⟨Tryz.f154.name,by decide,Tryz.func154.trans (congrArg some qkR)⟩
  f19:=Tryz.func225.trans (congrArg some qkR)
  f20:=Tryz.func226.trans (congrArg some qkR)
  f21:=⟨Tryz.f216.name,by decide,Tryz.func216.trans (congrArg some qkR)⟩
  f22:=⟨Tryz.f217.name,by decide,Tryz.func217.trans (congrArg some qkR)⟩
  f23:=⟨Tryz.f218.name,by decide,Tryz.func218.trans (congrArg some qkR)⟩
  f24:=⟨Tryz.f219.name,by decide,Tryz.func219.trans (congrArg some qkR)⟩
  f25:=⟨Tryz.f220.name,by decide,Tryz.func220.trans (congrArg some qkR)⟩
  f26:=⟨Tryz.f221.name,by decide,Tryz.func221.trans (congrArg some qkR)⟩
  f27:=⟨Tryz.f222.name,by decide,Tryz.func222.trans (congrArg some qkR)⟩
  f28:=⟨Tryz.f223.name,by decide,Tryz.func223.trans (congrArg some qkR)⟩
  f29:=⟨Tryz.f224.name,by decide,Tryz.func224.trans (congrArg some qkR)⟩
  f31:=Tryz.func264.trans (congrArg some qkR)
  f32:=Tryz.func265.trans (congrArg some qkR)
  f36:=⟨Tryz.f263.name,by decide,Tryz.func263.trans (congrArg some qkR)⟩
  f37:=⟨Tryz.f266.name,by decide,Tryz.func266.trans (congrArg some qkR)⟩
  f38:=⟨Tryz.f267.name,by decide,Tryz.func267.trans (congrArg some qkR)⟩
  f39:=⟨Tryz.f268.name,by decide,Tryz.func268.trans (congrArg some qkR)⟩
  f41:=⟨Tryz.f283.name,by decide,Tryz.func283.trans (congrArg some qkR)⟩
  t0:=O8
  a0:=Tryz.isAgg0
  z0:=Tryz.sizeOf0
  v0:=Ph
  t3:=B9
  a3:=Tryz.isAgg3
  z3:=Tryz.sizeOf3
  v3:=Tryz.zeroValue3
  t4:=Ob
  a4:=Tryz.isAgg4
  z4:=Tryz.sizeOf4
  v4:=Tryz.zeroValue4
  t5:=z8
  a5:=Tryz.isAgg5
  z5:=Tryz.sizeOf5
  v5:=Tryz.zeroValue5
  t9:=l9
  a9:=Pb
  z9:=OQ
  v9:=Oi
  t26:=q9
  a26:=Tryz.isAgg38
  z26:=PC
  v26:=O7
  t27:=q9
  a27:=Tryz.isAgg38
  z27:=PC
  v27:=O7
  t29:=l9
  a29:=Pb
  z29:=OQ
  v29:=Oi
  t32:=Tryz.underlying202
  a32:=Tryz.isAgg202
  z32:=Tryz.sizeOf202
  v32:=Tryz.zeroValue202
  t35:=Tryz.underlying281
  a35:=Tryz.isAgg281
  z35:=Tryz.sizeOf281
  v35:=Tryz.zeroValue281
  t36:=Tryz.underlying282
  a36:=Tryz.isAgg282
  z36:=Tryz.sizeOf282
  v36:=Tryz.zeroValue282
  t41:=Tryz.underlying209
  a41:=Tryz.isAgg209
  z41:=Tryz.sizeOf209
  v41:=Tryz.zeroValue209
  t44:=Tryz.underlying128
  a44:=Tryz.isAgg128
  z44:=Tryz.sizeOf128
  v44:=Tryz.zeroValue128
  t46:=Tryz.underlying249
  a46:=Tryz.isAgg249
  z46:=Tryz.sizeOf249
  v46:=Tryz.zeroValue249
  t53:=Tryz.underlying313
  a53:=Tryz.isAgg313
  z53:=Tryz.sizeOf313
  v53:=Tryz.zeroValue313
  t57:=Tryz.underlying317
  a57:=Tryz.isAgg317
  z57:=Tryz.sizeOf317
  v57:=Tryz.zeroValue317
  t63:=Tryz.underlying324
  a63:=Tryz.isAgg324
  z63:=Tryz.sizeOf324
  v63:=Tryz.zeroValue324
  t64:=Tryz.underlying234
  a64:=Tryz.isAgg234
  z64:=Tryz.sizeOf234
  v64:=Tryz.zeroValue234 }
theorem CE (m):AnyZ.SortsIn an tb Qd m:=
  ⟨fun c d a e b f g h=>callsIn_wide.2 (AnyM.slices_Sort_string ll c d a e b f g h),
   fun i a b=>callsIn_wide.2 (AnyM.slices_Sort_string_none ll i a b)⟩
theorem sv (mb W):CallsIn Qd 5 an 133 #[.map mb] W fun a w'=>a= .returned (.func (.func 206) #[] #[.pointer (some W)])/\w'=W.alloc (.cells #[.map mb] 140):=
  AnyZ.keys_in sZ Qd 5 trivial rfl mb W
theorem su {H:Type} (b nn) (a:DataW H) (R) (w:World) (c:w.ownsMap an 9 R b nn a) (d:Maps.size a<=maxLen) (e:Maps.size a*16<=kaa):
    CallsIn Qd 5 an 132 #[.func (.func 206) #[] #[.pointer (some w)]] (w.alloc (.cells #[.map (some b)] 140)) fun f w'=> ∃(v:Value) (ss:List (LU)),f= .returned v/\ss.Perm (strKeys a)/\
      w'.ownsRow (w.alloc (.cells #[.map (some b)] 140)).heap.size 9 1 v ss ((ss.mergeSort (fun x y=>decide (x<=y))).map encStr)/\(v= .slice none 0 0↔ss=[])/\Below (w.alloc (.cells #[.map (some b)] 140)).heap.size (w.alloc (.cells #[.map (some b)] 140)) w':=by
  have g:=c.lt;have h:SeqGives Qd 2 an 206 #[.pointer (some w)] encStr (fun ss=>ss.Perm (strKeys a)) (Maps.size a) (w.alloc (.cells #[.map (some b)] 140)):=
    AnyZ.keys_gives (ρ:=sY) { sZ with } Qd _ trivial rfl qO w b nn a _ (by simp) (by simp) (by
      obtain ⟨i,j,k,l,m,n⟩:=c;exact ⟨i,j,(C7 _ _ b g).trans k,l,m,n⟩)
  exact AnyZ.sorted_in CC Qd 5 trivial trivial trivial trivial rfl qO (CE _) (enters_of Tryz.func83 qkR rfl) 206 #[.pointer (some w)] trivial (enters_of Tryz.func206 qkR rfl) _ _ d e _ h
end Go.Proofs.YtecpbcmpncgokaaGreat
namespace Go.Proofs.YtecpbcmpncgokaaGreat
def nW (w:World) (D:Dk) (c:Ending) (w':World):Prop:=
 ∃a b,c= .returned (.slice a D.l b)/\w'.ownsRow w 9 1 (.slice a D.l b) D.l (sc (D.l.map PM))/\Below w w w'
section
variable {w:World} {g m:Nat} {D:Dk}
theorem Dsk.sorted (h:Dsk w g m D) (f:OkL D):Calls an 132 #[.func (.func 206) #[] #[.pointer (some w)]] (w.alloc (.cells #[.map (some m)] 140)) (nW w D):=by
 obtain ⟨b,H,s,t,i,I,j⟩:=h;have J:b.length=D.l:=by rw [i,g7,<-j.length_eq,g7]
 have K:=f.len;obtain ⟨u,v,L,x⟩:=s.owns l9 (by unfold maxLen;omega);refine ((callsIn_wide (n:=5)).1 (su m b u _ w v (by unfold maxLen;omega) qO)).mono ?_;rintro M y ⟨k,o,rfl,z,c,_,A⟩;have B:b.map PM=((t.map PM).map PM).map th:=by
  rw [i,w9,w9,w9];rfl
 have r:o.Perm (D.l.map fun a=>a.1.data.toList):=by
  refine z.trans ((x _ B).trans ?_);rw [w9];exact j.map _
 have C:o.length=D.l:=by rw [r.length_eq,g7]
 rw [Bz f.ord r,w9,C] at c;have E:(D.l.map (Go.Proofs.encStr∘fun a=>a.1.data.toList))=sc (D.l.map PM):=by
  unfold sc;rw [w9];exact NT fun a _=>rfl
 rw [E] at c;have F:=((bR _ _).alloc (lR _) _).trans (A.mono (by simp));have hrow':y.ownsRow w 9 1 k D.l (sc (D.l.map PM)):=World.ownsRow.mono c (by simp);have G: ∃d e,k= .slice d D.l e:=by
  exact z157
 obtain ⟨d,e,rfl⟩:=G;exact ⟨d,e,rfl,hrow',F⟩
theorem BB (mb W):Calls an 133 #[.map mb] W fun a w'=>a= .returned (.func (.func 206) #[] #[.pointer (some W)])/\w'=W.alloc (.cells #[.map mb] 140):=
 (callsIn_wide (n:=5)).1 (sv mb W)
theorem jh (a:Dsk w g m D) (d:OkL D):Calls an 59 #[.pointer (some g)] w (nW w D):=by
 obtain ⟨n,o,p,q,r,s⟩:=a.cells;have e:=qI (a.sorted d);have f:=qI (BB (some m) w);go_in;go_wp2_with (first
  | (go_at_call 88;refine (fd a).mono ?_;rintro b c ⟨rfl,h⟩;obtain rfl:=h.symm)
  | (go_at_call 133;refine f.mono ?_;rintro b c ⟨rfl,rfl⟩)
  | (go_at_call 132;refine e.mono ?_;rintro b c ⟨i,j,rfl,k,l⟩))
 go_ret;exact ⟨i,j,rfl,k,l⟩
end
theorem uZ (w):(callFunc 290 #[]).run an w= .ok (.value (.tuple #[])) w:=run_call_mark0 Tryz.func290 qkR qkR qkR .disable qkR w
theorem va (w):(callFunc 292 #[]).run an w= .ok (.value (.tuple #[])) w:=run_call_mark0 Tryz.func292 qkR qkR qkR .enable qkR w
theorem FL (a w):(callFunc 293 #[.pointer (some a)]).run an w= .ok (.value (.tuple #[])) w:=run_call_marked Tryz.func293 qkR qkR qkR .acquire qkR a w
theorem FM (a w):(callFunc 295 #[.pointer (some a)]).run an w= .ok (.value (.tuple #[])) w:=run_call_marked Tryz.func295 qkR qkR qkR .releaseMerge qkR a w
theorem vc (a x) (u:FrameMode) (w) (f:w.cell? a=some x) (g:w.frozen? a=false):
  CallsD an 262 #[.pointer (some a),.bool true] u w fun b c w'=>c=u/\(b= .returned (.tuple #[])/\w'=w.drew.setCell a (.int .u32 1)):=by
 have d:w.drew.cell? a=some x:=by go_simp
 have e:w.drew.frozen? a=false:=by go_simp
 have h:=run_call_store (P:=an) Tryz.func281 qkR qkR qkR qkR (k:=.u32) (y:=1) d e;go_enter_d Tryz.func262,Tryz.ntmps262;go_wp2;go_region_calls
 all_goals (go_end0;exact ⟨rfl,rfl⟩)
theorem vf (a) (u:FrameMode) (w) (b:w.cell? a=some (.int .i32 1)) (c:w.frozen? a=false):
  CallsD an 261 #[.pointer (some a)] u w fun d e w'=>e=u/\(d= .returned (.tuple #[])/\w'=w.setCell a (.int .i32 0)):=by
 have f:=uZ;have g:=va;have h:=FM;have i:=run_call_add (P:=an) Tryz.func296 qkR qkR qkR .i32 qkR (y:=-1) (s:=0) b c (by simp [go_sem];rfl);have j:=run_convert_to_unsafe (P:=an) (src:=334) (dst:=338) Tryz.underlying334 Tryz.underlying338 qkR b;go_enter_d Tryz.func261,Tryz.ntmps261;go_wp2;go_end0;go_wp2;go_end0;exact ⟨rfl,rfl⟩
theorem vg (a w) (b:w.cell? a=some (.int .i32 0)) (c:w.frozen? a=false):
  Calls an 260 #[.pointer (some a)] w fun d w'=>d= .returned (.tuple #[])/\w'=w.setCell a (.int .i32 1):=by
 have f:=uZ;have g:=va;have ha:=FL;have h:=run_call_cas_hit (P:=an) Tryz.func291 qkR qkR qkR .i32 qkR (y:=1) b c;have e:(w.setCell a (.int .i32 1)).cell? a=some (.int .i32 1):=World.cell?_setCell_same w a _ b;have i:=run_convert_to_unsafe (P:=an) (src:=334) (dst:=338) Tryz.underlying334 Tryz.underlying338 qkR e;go_in;go_wp2
 first | go_end0 | (simp only [Exit.inBlock,Exit.then];refine bodyPost_ret (results_none rfl _ _ _) rfl ?_) | refine bodyPost_ret (results_none rfl _ _ _) rfl ?_
 go_wp2;go_end0;exact ⟨rfl,rfl⟩
theorem jN (a x w) (b:w.cell? a=some (.int .u32 x)):
  Calls an 213 #[.pointer (some a)] w fun c w'=>c= .returned (.bool (x !=0))/\w'=w:=by
 have d:=run_call_load (P:=an) Tryz.func259 qkR qkR qkR .u32 qkR b;go_in;go_wp2_with fail;go_ret;exact ⟨rfl,rfl⟩
def pj (f:Nat) (g:Addr) (b d:Nat) (T:TypeId) (h:List Value) (i:List Value->World->World->Prop) (w:World):Prop:=
 ∀a,Blk a b T (h.set (d+1) (.int .i32 1))->w.grownBy a (some b)->a.heap.size=w.heap.size->Calls an f #[.pointer (some g)] a fun j e=>j= .returned (.tuple #[])/\ ∃c,Blk e b T c/\c[d]?=some (.int .u32 0)/\c[d+1]?=some (.int .i32 1)/\a.grownBy e (some b)/\i c a e
def vh (b d:Nat) (T:TypeId) (f:List Value->World->World->Prop) (w:World) (g:Ending) (w':World):Prop:=
 g= .returned (.tuple #[])/\ ∃e c a,f e c a/\w.grownBy c (some b)/\c.grownBy a (some b)/\Blk a b T e/\w'=(a.drew.setCell ⟨b,d,none⟩ (.int .u32 1)).setCell ⟨b,d+1,none⟩ (.int .i32 0)
theorem FN (b a T cs pl R w) (e:Blk w b T cs)
  (h:cs[a]?=some (.int .u32 0)) (i:cs[a+1]?=some (.int .i32 0)) (j:pj 215 pl b a T cs R w):
  Calls an 214 #[.pointer (some ⟨b,a,none⟩),.func (.func 215) #[] #[.pointer (some pl)]] w (vh b a T R w):=by
 have l:w.cell? ⟨b,a,none⟩=some (.int .u32 0):=by rw [e.cell];exact h
 have B:w.cell? ⟨b,a+1,none⟩=some (.int .i32 0):=by rw [e.cell];exact i
 have C:=e.free (a+1);have m:=e.set (a+1) (.int .i32 1);have k:w.grownBy (w.setCell ⟨b,a+1,none⟩ (.int .i32 1)) (some b):=ae (gR _ _) _ _;have n:=qI (jN ⟨b,a,none⟩ 0 (w.setCell ⟨b,a+1,none⟩ (.int .i32 1)) ((G8 _ ⟨b,a+1,none⟩ ⟨b,a,none⟩ _ (by simp)).trans l));have o:=qI (j _ m k (by simp [World.setCell]));clear j h i;go_enter_defers Tryz.func214,Tryz.ntmps214;go_wp2_with (first | (go_at_call 260;refine (vg ⟨b,a+1,none⟩ _ (by go_simp) (by go_simp)).mono ?_;rintro g p ⟨rfl,rfl⟩));refine n.mono ?_;rintro g p ⟨rfl,rfl⟩;go_wp2_with fail;refine o.mono ?_;rintro g c ⟨rfl,q,d,i0,r,s,t⟩;have u:c.cell? ⟨b,a,none⟩=some (.int .u32 0):=by rw [d.cell];exact i0
 have v:c.cell? ⟨b,a+1,none⟩=some (.int .i32 1):=by rw [d.cell];exact r
 have x:=d.free a;go_wp2_with fail;simp only [bodyPostD];refine leaves_cons (f:=262) (args:=#[.pointer (some ⟨b,a,none⟩),.bool true]) (by simp) (by simp [go_sem]) ?_;refine (vc ⟨b,a,none⟩ (.int .u32 0) .returning _ u x).mono ?_;rintro g y z ⟨rfl,rfl,rfl⟩;have A:=d.drew.set a (.int .u32 1);refine leaves_cons (f:=261) (args:=#[.pointer (some ⟨b,a+1,none⟩)]) (by simp [settle]) (by simp [go_sem]) ?_;refine (vf ⟨b,a+1,none⟩ _ (c.drew.setCell ⟨b,a,none⟩ (.int .u32 1)) ((G8 c.drew ⟨b,a,none⟩ ⟨b,a+1,none⟩ _ (by simp)).trans (by rw [World.cell?_drew];exact v)) (A.free _)).mono ?_;rintro g y z ⟨rfl,rfl,rfl⟩;simp only [Leaves,settle,results,Tryz.results214];exact ⟨.tuple #[],by simp,rfl,q,_,c,t,k,s,d,rfl⟩
theorem FP (b off T cs pl R w) (a:Blk w b T cs)
  (c:cs[off]?=some (.int .u32 0)) (f:cs[off+1]?=some (.int .i32 0)) (d:pj 215 pl b off T cs R w):
  Calls an 151 #[.pointer (some ⟨b,off,none⟩),.func (.func 215) #[] #[.pointer (some pl)]] w (vh b off T R w):=by
 have g:=qI (jN ⟨b,off,none⟩ 0 w (by rw [a.cell];exact c));have h:=qI (FN b off T cs pl R w a c f d);clear d;go_in;go_wp2_with fail;refine g.mono ?_;rintro i k ⟨rfl,rfl⟩;go_wp2_with fail;refine h.mono ?_;rintro i l e;have j:=e.1;subst j;go_wp2_with fail;go_end0;exact e
theorem FQ (a fv w) (c:w.cell? a=some (.int .u32 1)):
  Calls an 151 #[.pointer (some a),fv] w fun b w'=>b= .returned (.tuple #[])/\w'=w:=by
 have d:=qI (jN a 1 w c);go_in;go_wp2_with fail;refine d.mono ?_;rintro b w' ⟨rfl,rfl⟩;go_wp2_with fail;go_end0;exact ⟨rfl,rfl⟩
