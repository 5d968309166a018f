/- Walks and laws. Conditions: as stated. -/
import Derived.Test.YtecpbcmpncgokaaGreatBrief
import Derived.Deep.DeepCutAuto
import Derived.StillTailTactics
import Derived.Deep.RegionHeld3
import Derived.ProofKit
import Derived.Deep.CutBlock
import Derived.Deep.Onto
import Derived.Deep.RegionLaw
import Derived.RangeFuncNested
import Derived.RangeFuncBound
import Derived.Shelf.RegionOpen
import Derived.WalkKit
set_option linter.all false
namespace Go
instance : Coe World Nat := ⟨fun b => b.heap.size⟩
instance {α : Type} : CoeOut (List α) Nat := ⟨List.length⟩
instance : Coe Nat Addr := ⟨fun b => ⟨b,0,none⟩⟩
instance : Coe ByteArray Value := ⟨fun b => .string b⟩
instance : Coe Bool Value := ⟨fun b => .bool b⟩
instance : Coe Int Value := ⟨fun b => .int .i64 b⟩
instance : Coe Nat Value := ⟨fun b => .int .i64 (b : Int)⟩
instance {α : Type} : CoeOut (List α) Int := ⟨fun l => (l.length : Int)⟩
structure Kkaa where
def kaa : Kkaa := ⟨⟩
instance : Coe Kkaa Nat := ⟨fun _ => 140737488355328⟩
instance : Coe Kkaa Int := ⟨fun _ => 140737488355328⟩
structure Kkab where
def kab : Kkab := ⟨⟩
instance : Coe Kkab Nat := ⟨fun _ => 140737488351232⟩
instance : Coe Kkab Int := ⟨fun _ => 140737488351232⟩
structure Kkac where
def kac : Kkac := ⟨⟩
instance : Coe Kkac Nat := ⟨fun _ => 3518437208880⟩
instance : Coe Kkac Int := ⟨fun _ => 3518437208880⟩
structure Kkad where
def kad : Kkad := ⟨⟩
instance : Coe Kkad Nat := ⟨fun _ => 1048576⟩
instance : Coe Kkad Int := ⟨fun _ => 1048576⟩
structure Kkae where
def kae : Kkae := ⟨⟩
instance : Coe Kkae Nat := ⟨fun _ => 2097152⟩
instance : Coe Kkae Int := ⟨fun _ => 2097152⟩
structure Kkaf where
def kaf : Kkaf := ⟨⟩
instance : Coe Kkaf Nat := ⟨fun _ => 1099511627776⟩
instance : Coe Kkaf Int := ⟨fun _ => 1099511627776⟩
structure Kkag where
def kag : Kkag := ⟨⟩
instance : Coe Kkag Nat := ⟨fun _ => 4611686018427387903⟩
instance : Coe Kkag Int := ⟨fun _ => 4611686018427387903⟩
structure Kkah where
def kah : Kkah := ⟨⟩
instance : Coe Kkah Nat := ⟨fun _ => 16777216⟩
instance : Coe Kkah Int := ⟨fun _ => 16777216⟩
structure Kkai where
def kai : Kkai := ⟨⟩
instance : Coe Kkai Nat := ⟨fun _ => 70368744177600⟩
instance : Coe Kkai Int := ⟨fun _ => 70368744177600⟩
structure Kkaj where
def kaj : Kkaj := ⟨⟩
instance : Coe Kkaj Nat := ⟨fun _ => 70368744177664⟩
instance : Coe Kkaj Int := ⟨fun _ => 70368744177664⟩
structure Kkak where
def kak : Kkak := ⟨⟩
instance : Coe Kkak Nat := ⟨fun _ => 4294967296⟩
instance : Coe Kkak Int := ⟨fun _ => 4294967296⟩
structure Kkal where
def kal : Kkal := ⟨⟩
instance : Coe Kkal Nat := ⟨fun _ => 9223372036854775807⟩
instance : Coe Kkal Int := ⟨fun _ => 9223372036854775807⟩
structure Kkam where
def kam : Kkam := ⟨⟩
instance : Coe Kkam Nat := ⟨fun _ => 140737488355264⟩
instance : Coe Kkam Int := ⟨fun _ => 140737488355264⟩
structure ES where
structure EL where
structure EI where
def eS : ES := ⟨⟩
def eL : EL := ⟨⟩
def i0 : EI := ⟨⟩
instance : Coe ES ByteArray := ⟨fun _ => ⟨#[]⟩⟩
instance : Coe ES Value := ⟨fun _ => .string ⟨#[]⟩⟩
instance : Coe EL Value := ⟨fun _ => .slice none 0 0⟩
instance : Coe EI Value := ⟨fun _ => .int .i64 0⟩
theorem sA {α : Type _} (l : List α) (i : Nat) (a : α) : l.toArray.setIfInBounds i a = (l.set i a).toArray := List.setIfInBounds_toArray l i a
theorem sB {α : Type _} {x : α} {xs : List α} {a : α} : (x :: xs).set 0 a = a :: xs := rfl
theorem sC {α : Type _} {x : α} {xs : List α} {i : Nat} {a : α} : (x :: xs).set (i + 1) a = x :: xs.set i a := rfl
theorem sD {α : Type _} {xs : List α} {i : Nat} (h : i < xs.toArray.size) : xs.toArray[i] = xs[i] := rfl
theorem sE {α : Type _} (a : α) (l : List α) (i : Nat) (h : i + 1 < (a :: l).length) : (a :: l)[i + 1] = l[i]'(Nat.lt_of_succ_lt_succ h) := rfl
theorem sF {α : Type _} (a : α) (l : List α) (h : 0 < (a :: l).length) : (a :: l)[0] = a := rfl
theorem tk {P : Program} {ops : Array Oper} {Q : Exit -> Act -> World -> Prop} {md : Region.Mode} {S : World -> Prop} (i : Nat) (v : Value) {oi : Oper} {fuel : Nat} {listed : Array Bool} {a : Act} {w : World} (hi : ops[i]? = some oi)
    (hQ : ∀ c a w, Q (.panic c) (a.put oi.dst v) w -> Q (.panic c) a w) (hy : YieldsIf P ops S oi v a) (hS : S w)
    (h : wpAnyH P md ops Q S fuel (listed.setIfInBounds i true) (a.put oi.dst v) w)
    (hs : Region.noSelect ops = true := by kernel_rfl) (hf : Region.free md ops listed i = true := by kernel_rfl) (hr : (Region.ready md ops listed).contains i = true := by kernel_rfl) : wpAnyH P md ops Q S (fuel + 1) listed a w :=
  wpAnyH_take (i := i) (oi := oi) (v := v) hi hs hf hr hQ hy hS h
theorem gH {α : Sort _} (a : α) : ∃ x, Go.RowKit.Hid (x = a) := ⟨a, rfl⟩
theorem gK {α : Sort _} (a : α) : ∃ x, Go.RowKit.Hid (a = x) := ⟨a, rfl⟩
variable {p:Prop}
theorem z2 (h:p:=by go_in;go_wp2_with fail;go_ret;exact ⟨by first | rfl | simp [*],bAl _ _⟩):p:=h
theorem z5 (h:p:=by go_wp2_with fail;go_quiet (fail);go_wp2_with fail;go_ret;exact ⟨by rw [HA];rfl,q+nq,by rw [hwr,o8]⟩):p:=h
theorem z15 (h:p:=by
 have d1:=dfX ((k:Int)<a);have d1': ¬(k:Int)<(a.length:Int):=by omega
 have HE:Hid (a=b):=N8 fun j=>by
  rcases D8 j a.length with hj | hj
  ·exact hs.out j (by omega)
  rw [C8 hj,C8 (by rw [<-HL];exact hj)]
 go_wp2_with fail;go_ret;exact ⟨true,q,rfl,by simp [HE.out],hwr.out⟩):p:=h
theorem z16 (h:p:=by
 intro y5 A5 c5 w5 e5 o5 b5 g5;have hB5:=hB3.grown g5 (own_ne o3 hB3 (by decide)).symm;have k5:=hB5.c 1;have z5:=hB5.free 1;have hF5:=hF3.keep g5 (K9 o3 (by decide) (zL));have hL5:=hL3.keep g5 (K9 o3 (by decide) (zL));go_wp2_with fail;go_end0;have hg6:w5.grownBy (w5.setCell ⟨g,1,none⟩ (.slice A5 y5.length c5)) (some g):=ae (gR w5 _) 1 _;have hO6:=v8 (B:=0) hB5 (by decide) (zL);have b50:=b3e.trans b5;refine ⟨rfl,⟨y5,A5,c5,hB5.set 1 _,(aE o5 hB5 (by decide) hg6).base (zL),?_,qI ?_⟩,aq (ax (hb0.trans (b50.mono hs0)) _) hg6⟩
 ·intro x hx;rw [e5,e3,e1'] at hx;rcases l7.1 hx with hx | hx
  ·rcases l7.1 hx with hx | hx
   ·exact hF5.keep hg6 hO6 x (Pe hx)
   rw [i7.1 hx];exact ⟨hL5.keep hg6 hO6,j1,j2⟩
  exact hF5.keep hg6 hO6 x (List.mem_of_mem_drop hx)
 ·show y5.map FilA.f=ag D.l n b;rw [e5,e3,e1',hput,<-hL];simp only [p8,List.map_take,List.map_drop,List.map_cons,g9,List.cons_append,List.nil_append];show _++(n,l2)::_=_;rw [e2'];rfl):p:=h
theorem z22 (h:p:=by go_wp2_with fail;go_quiet (fail);go_wp2_with fail;go_ret;exact ⟨false,q+nq,rfl,by simp [HN.out],by rw [hwr,o8]⟩):p:=h
theorem z23 (h:p:=by go_wp2_with fail;go_quiet (fail);go_wp2_with fail;refine ⟨⟨k+1,q+nq,by go_num,by omega,HS,by unfold Hid;rw [hwr,o8]⟩,by simp [intOf];omega⟩):p:=h
theorem z24 (h:p:=by
 intro n;induction n using Nat.strongRecOn with
 | _ n ih=>
  intro hn hun he;have hno: ¬ ∃j,j<n/\listed.getD j true=false:=fun ⟨j,hj,hu⟩=>ih j hj (by omega) hu he;have hm:n∈Region.ready md ops listed:=by
   rw [mem_ready];refine ⟨hun,ops[n]'(by omega),NZ (by omega),fun e hee _=> ?_⟩;have hlt:=hb n _ (NZ (by omega)) e hee;cases hx:listed.getD e.on false with
   | true=>rfl
   | false=>
   refine absurd ⟨e.on,hlt,?_⟩ hno;rw [z7,NZ (by omega)] at hx ⊢;exact hx
  rw [he] at hm;cases hm):p:=h
theorem z25 (h:p:=by
 have d0:((a:Int)!=b)=true:=bne_iff_ne.2 (by omega);have HN:Hid (¬a=b):=fun e=>hl (by rw [e]);clear hl;go_in;go_wp2_with fail;go_ret;exact ⟨false,0,rfl,by simp [HN.out],rfl⟩):p:=h
theorem z26 (h:p:=by
 go_in;go_wp2_with (first
  | (go_at_call 136;(with_reducible refine HN2.out.mono ?_);rintro e z0 ⟨rfl,hz0⟩;obtain rfl:=hz0.symm)
  | (go_at_call 199;(with_reducible refine HS.out.mono ?_);rintro e z0 ⟨rfl,hz0⟩;obtain rfl:=hz0.symm))
 go_ret;rw [HF];exact ⟨rfl,h,gR w _⟩):p:=h
theorem z27 (h:p:=by intro l' A' c' w' e' g1 gb g2 g3 g4 g5;go_wp2_with fail;go_ret3;rw [HT];exact ⟨l',A',c',e',rfl,g1.base hs,hb1.trans ((((bR _ _).alloc (lR _) _).trans gb).mono hs),g4,g5⟩):p:=h
theorem z28 (h:p:=by go_quiet (fail);go_wp2_with fail;go_meet;exact ⟨by rw [h4],nq,rfl⟩):p:=h
theorem z30 (h:p:=by go_wp2_with fail;go_ret;exact ⟨by rw [HF];rfl,hb0⟩):p:=h
theorem z31 (h:p:=by rintro e w3 ⟨l3,A3,c3,e3,rfl,hr3,hb3,j1,j2⟩;go_wp2_with fail;go_ret;exact ⟨l3,A3,c3,by unfold Hid;rw [e3,hfin],rfl,hr3,hbel.trans (hb3.mono hs),j1,j2⟩):p:=h
theorem z33 (h:p:=by go_in;go_wp2_with fail;go_quiet (fail);go_wp2_with fail;refine bodyPost_ret (results_none (by rfl) _ _ _) rfl ?_;exact ⟨rfl,⟨_,_,_,_,(hblk.drewN nq).set 4 (.int .i64 2),hv⟩,ae (ik (gR w (some g)) nq) 4 _⟩):p:=h
theorem z34 (h:p:=by
 gi_wp2;refine ⟨fun f h=>(by cases h),?_⟩;gi_wp2;exact ⟨⟨k+1,by go_num,by omega,by rw [hE];exact hJ2,ho2⟩,by simp [intOf];omega⟩):p:=h
theorem z35 (h:p:=by
 cases ht:ad (c::q) with
 | none=>rfl
 | some x=>
  obtain ⟨t,rest⟩:=x;have hl:=bL ht;simp only [List.length_cons] at hl hf hg;simp only;split
  ·split
   ·exact ih g _ _ (by rw [b8];omega) (by rw [b8];omega)
   rfl
  ·cases ht2:ad rest with
   | none=>rfl
   | some y=>
    obtain ⟨d,rest2⟩:=y;have hl2:=bL ht2;simp only;split
    ·exact ih g _ _ (by omega) (by omega)
    ·rfl):p:=h
theorem z36 (h:p:=by go_wp2_with fail;go_ret;rw [HF];exact ⟨rfl,rfl⟩):p:=h
theorem z38 (h:p:=by go_in;go_wp2_with fail;go_ret;exact ⟨rfl,rfl⟩):p:=h
theorem z39 (h:p:=by
 induction al with
 | nil=>cases h1
 | cons p ps ih=>
  rw [List.map_cons,NP] at h;rcases i8.1 h1 with e1 | h1<;>rcases i8.1 h2 with e2 | h2
  ·rw [<-e1] at e2;injection e2 with _ e2;exact e2.symm
  ·exact absurd (e9.2 ⟨_,h2,by rw [<-e1]⟩) h.1
  ·exact absurd (e9.2 ⟨_,h1,by rw [<-e2]⟩) h.1
  ·exact ih h.2 h1 h2):p:=h
theorem z45 (h:p:=by go_wp2_with fail;go_ret;rw [HF];exact ⟨rfl,h,gR w _⟩):p:=h
theorem z46 (h:p:=by
 cases A with
 | none=>simp [Builtin.firstCells]
 | some a=>simp [Builtin.firstCells,loadCells,loadCellsFrom]):p:=h
theorem z48 (h:p:=by rw [hs] at HS;have HS2:=qI HS;clear HS hs;refine HS2.mono ?_;rintro e w2 ⟨rfl,hR2,hg2⟩;go_wp2_with fail;go_ret;rw [HE];exact ⟨rfl,hR2,aq hgq hg2⟩):p:=h
theorem z49 (h:p:=by
 rw [cell_of_row w g (off+j) cur e (0,0) a3];rw [<-a5,w7] at hu;split at hu
 ·rw [H9] at hu;simpa using hu
 ·cases hu):p:=h
theorem z51 (h:p:=by
 rcases h.2 with ⟨h1,h0⟩ | ⟨g,cap,cur,h1,h2,_⟩
 ·omega
 ·injection h1 with h1;rw [h1] at hk;injection hk with hk;have e:g=k:=hk;omega):p:=h
theorem z53 (h:p:=by
 induction x generalizing y with
 | nil=>
  cases y with
  | nil=>rfl
  | cons b y=>simp [Op.bytesLess]
 | cons a x ih=>
  cases y with
  | nil=>simp [Op.bytesLess]
  | cons b y=>
   simp only [Op.bytesLess,ih,List.cons_lt_cons_iff];by_cases h1:a<b<;>by_cases h2:a=b<;>simp [h1,h2]):p:=h
theorem z55 (h:p:=by
 intro e w1 h1;rw [HT] at h1;obtain ⟨q1,A1,c1,e1,rfl,h1,hb1,h2,h3⟩:=h1;have hd2:decide (q1<n)=true:=by rw [e1];simpa using h00
 have hd3:decide ((q1:Int)<n)=true:=by rw [e1];simpa using h00
 go_wp2_with fail;go_ret3;rw [HE2];exact ⟨rfl,hb1⟩):p:=h
theorem z57 (h:p:=by go_in;go_wp2_with fail;go_ret;exact ⟨by rw [HF];rfl,hbel⟩):p:=h
theorem z58 (h:p:=by
 have HT:=qI hT;clear hT;go_in;go_wp2_with (first
  | (go_at_call 136;refine HN2.mono ?_;rintro e w1 ⟨rfl,hw1⟩;obtain rfl:=hw1.symm)
  | (go_at_call 125;refine HH.mono ?_;rintro e w1 ⟨nq,rfl,rfl⟩))
 go_ret;exact ⟨nq,by rw [HT];rfl,rfl⟩):p:=h
theorem z61 (h:p:=by
 rw [l8 hjl,(c9.1 h2).2] at this;rw [<-h3]
 conv=>lhs;rw [<-this]
 simp):p:=h
theorem z62 (h:p:=by
 rintro e w2 ⟨v,h2,rfl,g2⟩;have hb2:=hb1.next g2;have hB2:=hB1.below g2 hB1.lt;obtain ⟨a0,a1,a2,a3,a4,a5,a6,a7,a8,a9⟩:=bg hB2;cases v
 all_goals go_wp2_with fail
 all_goals go_ret
 all_goals exact ⟨by rw [HR,h1,h2];rfl,hb2⟩):p:=h
theorem z66 (h:p:=by have hb14:=hb13.next hb4;go_wp2_with fail;go_ret;exact ⟨by simp,hb01.trans (hb14.mono (lT hB (by have:=hb01.size;exact this))),D,base,gp,xs,⟨h1s.below hb14,h1r.below hb14,hPK.out,h.lo,h.lt⟩,hK.mono (by omega) (lR _)⟩):p:=h
theorem z68 (h:p:=by go_wp2_with fail;go_meet;exact ⟨rfl,rfl⟩):p:=h
theorem z71 (h:p:=by have h6:=congrArg List.length hT.out;rw [b7] at h6;omega):p:=h
theorem z72 (h:p:=by clear hkl h2;go_wp2_with fail;go_ret;rw [HT];exact ⟨rfl,q,HW.out⟩):p:=h
theorem z73 (h:p:=by
 have h1:bc K=bc L:=by
  have h2:(bc K).toArray=(bc L).toArray:=by injection h
  simpa using h2
 refine (List.map_inj_right (fun a b hab=> ?_)).1 h1;injection hab with _ hab;exact C9.1 (by omega)):p:=h
theorem z74 (h:p:=by exact ⟨rfl,_,k9,Ad9,d9,cd9,Ae9,en9,ce9,tr9,Ap9,pa9,cp9,ta9,na9,wh9,st9,te9,rfl,ho9,hB5,(r1.1.below hb25).more hb25.size,(r2.1.below hb25).more hb25.size,(r3.1.below hb25).more hb25.size,hb19,r5,r6⟩):p:=h
theorem z76 (h:p:=by refine ⟨?_,(C7 _ _ _ (by simp)).trans (World.alloc_heap_new w _)⟩;have:=World.alloc_heap_new (w.alloc (.deferred (some []))) (.loop (R .ready none));rwa [u7] at this):p:=h
theorem z77 (h:p:=by have h8:=congrArg List.length e8.out;have:=hcost.out;simp only [b7] at h h8;omega):p:=h
theorem z80 (h:p:=by go_wp2_with fail;go_quiet (fail);go_wp2_with fail;go_ret2;rw [HFd,HLk];exact ⟨nq,rfl,rfl⟩):p:=h
theorem z81 (h:p:=by
 rw [J8];intro hc;rcases l7.1 (y9.1 hc) with hm | hm
 ·have:=hz 0 hm;have e:(0:UInt8).toNat=0:=rfl;omega
 ·cases i7.1 hm):p:=h
theorem z82 (h:p:=by clear ht;go_wp2_with fail;go_ret2;rw [hn];exact ⟨rfl,hb1⟩):p:=h
theorem z83 (h:p:=by
 have h1:=h.2 i (Nq.2 (j7.1 ho).1);rw [m8,ho] at h1;have h2:=N9.1 h1.1 e he;exact of_decide_eq_true h2):p:=h
theorem z84 (h:p:=by
 rcases l7.1 hy with h5 | h5
 ·exact ⟨(hfar y h5).1.below hb3,(hfar y h5).2⟩
 ·obtain rfl:=i7.1 h5;exact ⟨J7 (s7 ho3),i1,i2⟩):p:=h
theorem z85 (h:p:=by simp only [b7,ND];omega):p:=h
theorem z86 (h:p:=by
 have hagg:(isAgg ty).run P w= .ok true w:=by
  unfold isAgg;rw [NI,run_underlying hu w];cases d<;>simp_all
 simp [loadVar,NI,hagg,sizeOf,typeInfo,hq,hs,hl]):p:=h
theorem z87 (h:p:=by
 have h':(if out=size then some out else none)=some r:=by cases f<;>exact h
 split at h'
 · rename_i e;injection h' with h';subst h';exact ⟨by simp,e⟩
 · cases h'):p:=h
theorem z88 (h:p:=by go_in;go_wp2_with fail;go_ret;rw [HQ];exact ⟨rfl,rfl⟩):p:=h
theorem z89 (h:p:=by go_in;go_wp2_with fail;go_ret;exact ⟨none,0,rfl,j9 _ _ _ _,bR _ _⟩):p:=h
theorem z91 (h:p:=by obtain ⟨hb1,q',A1,c1,hq',rfl,ho1,i1,i2⟩:=h1;have hr3:Hid (r= .ok b):=hr2.out;clear hr2;go_wp2_with fail;go_ret2;rw [hr3];exact ⟨hb1,q',A1,c1,hq',rfl,ho1,i1,i2⟩):p:=h
theorem z92 (h:p:=by go_wp2_with fail;go_ret2;rw [hn];exact ⟨rfl,hbel3⟩):p:=h
theorem z94 (h:p:=by
 have hne:((o:Int)!=size)=false:=by simp;omega
 clear hpe hfin hp0;go_wp2_with fail;go_ret2;rw [hq];exact ⟨o,Ao,co,rfl,rfl,hown,hbel,hol.1,hol.2⟩):p:=h
theorem z95 (h:p:=by go_in;go_wp2_with fail;go_ret2;exact ⟨bR _ _,rfl⟩):p:=h
theorem z96 (h:p:=by go_wp2_with fail;go_ret2;rw [hr3];exact ⟨rfl,hb1⟩):p:=h
theorem z97 (h:p:=by rintro e w3 ⟨rfl,hw3⟩;obtain rfl:=hw3.symm;go_wp2_with fail;exact ⟨⟨k+1,xs,n,An,cn,Aa,ca,by go_num,by omega,by omega,hF3,hM⟩,by simp [intOf];omega⟩):p:=h
theorem z99 (h:p:=by
 refine (NM fun e=> ?_).trans h;obtain ⟨o',ho,hc⟩:=hl;unfold Blk at h;rw [<-e,h] at ho;injection ho with ho;rw [<-ho] at hc;cases hc):p:=h
theorem z100 (h:p:=by clear hk;go_in;go_wp2_with (go_at_call 88;refine (fd h).mono ?_;rintro e w' ⟨rfl,hw⟩;obtain rfl:=hw.symm);go_ret;rw [HF];exact ⟨rfl,h,Tw.refl _ _ _⟩):p:=h
theorem z101 (h:p:=by go_wp2_with fail;go_meet;exact ⟨by rw [hxb],rfl⟩):p:=h
theorem z102 (h:p:=by
 intro hv;rcases ho.2 with ⟨rfl,_⟩ | ⟨g,cap,cur,rfl,_,hh,_⟩
 ·cases hv
 ·have hv':g=B:=by simpa [Value.ownBlock] using hv
  rw [hv',hb] at hh;cases hh):p:=h
theorem z104 (h:p:=by have hd:d7=1:=eu (n:=1) ed7 rfl;unfold Hid;rw [e8,e7,e6,hT,hsucc,hd];unfold aY tx;simp only [g9,List.cons_append,List.nil_append,if_true]):p:=h
theorem z105 (h:p:=by
 replace h1:=qI h1;go_wp2_with fail;go_ret;exact ⟨by rw [HR,h1];rfl,hb1⟩):p:=h
theorem z106 (h:p:=by go_wp2_with fail;go_ret2;rw [hfin];exact ⟨rfl,⟨i,lR _,hFw.1⟩,hFw.2⟩):p:=h
theorem z107 (h:p:=by obtain ⟨k0,k1,k2,k3,k4,k5⟩:=h.cells;go_in;go_wp2_with (go_at_call 88;refine (fd h).mono ?_;rintro e w' ⟨rfl,rfl⟩);go_ret;exact ⟨rfl,rfl⟩):p:=h
theorem z109 (h:p:=by
 rintro e w1 ⟨rfl,h1,h2⟩;exact ⟨rfl,h1,h2⟩):p:=h
theorem z111 (h:p:=by
 have hf0:=hf w rfl;clear hf;go_in;go_wp2_with (go_at_call 88;refine (fd h).mono ?_;rintro e w' ⟨rfl,rfl⟩);go_ret;rw [hl];exact ⟨rfl,rfl⟩):p:=h
theorem z112 (h:p:=by go_wp2_with fail;exact ⟨⟨k+1,ys,n,A5,c5,rfl,by go_num,by omega,qI (by rw [hTk,hno,hy];simp),hyn,by omega,ho5,hbr⟩,by simp [intOf];omega⟩):p:=h
theorem z113 (h:p:=by have:=aJ 8 (2*(n-4)+1) (by omega);rw [e4,hcl1,b7];omega):p:=h
theorem z114 (h:p:=by
 intro x hx;simp only [OV,l7,i7] at hx;rcases hx with hx | rfl
 ·exact hk x hx
 ·exact ⟨kl,hkey⟩):p:=h
theorem z115 (h:p:=by go_in;go_wp2_with ((go_at_call 136;refine HN2.mono ?_;rintro e w1 ⟨rfl,hw1⟩;obtain rfl:=hw1.symm));go_ret;exact ⟨0,by rw [HT];rfl,rfl⟩):p:=h
theorem z120 (h:p:=by simp [Builtin.delete_,run_underlying ht,F8 hb,K.check w _ hkey,h1,L7 _ hb,Result.andThen,setBlock]):p:=h
theorem z121 (h:p:=by rcases List.le_total a b with h | h<;>simp [h]):p:=h
theorem z122 (h:p:=by rw [e1];exact hB.grown hg2 (fun e=>by injection e with e;exact hgm e)):p:=h
theorem z123 (h:p:=by unfold Hid;rw [e5,e4,e3,hcl1,hcl2,heq'];simp only [g9]):p:=h
theorem z124 (h:p:=by rw [hq] at hB;obtain ⟨hb1,q',A1,c1,hq1,rfl,ho1,i1,i2⟩:=hB;go_wp2_with fail;go_ret2;rw [hq];exact ⟨hb1,q',A1,c1,hq1,rfl,ho1,i1,i2⟩):p:=h
theorem z127 (h:p:=by go_wp2_with fail;go_ret2;exact ⟨rfl,rfl⟩):p:=h
theorem z129 (h:p:=by
 intro p hp;obtain ⟨x,hx,rfl⟩:=e9.1 hp;exact h2 x hx):p:=h
theorem z130 (h:p:=by
 have hne:((o:Int)!=size)=true:=by simp;omega
 clear hpe hfin hp0;go_wp2_with fail;go_ret2;rw [hq];exact ⟨rfl,hbel⟩):p:=h
theorem z131 (h:p:=by rw [i9 (by rw [<-HN];omega)] at h1;exact h1):p:=h
theorem z132 (h:p:=by simp only [M8,b7] at hb ⊢;omega):p:=h
theorem z133 (h:p:=by
 have:j=m:=by omega
 subst this;rw [hp] at hjp;injection hjp;omega):p:=h
theorem z134 (h:p:=by
 go_wp2_with fail;go_ret;have h9:=HQ.out;subst h9
 first
  | exact ⟨q,A5,c5,rfl,rfl,ho,hb⟩
  | exact ⟨q,rfl,A5,c5,rfl,ho,hb⟩):p:=h
theorem z135 (h:p:=by intro e w1 h1;rw [HT] at h1;obtain ⟨q1,A1,c1,e1,rfl,h1,hb1,h2,h3⟩:=h1;go_wp2_with fail;go_ret3;rw [HE2];exact ⟨rfl,hb1⟩):p:=h
theorem z138 (h:p:=by go_wp2_with fail;refine HP.mono ?_;rintro e w5 ⟨rfl,hb5⟩;go_wp2_with fail;go_ret2;rw [hr0];exact ⟨hbel.trans hb5,rfl⟩):p:=h
theorem z139 (h:p:=by simp only [g9,List.cons_append,List.nil_append]):p:=h
theorem z140 (h:p:=by rw [getD_set_ne true (Ne.symm hji)];rw [z7,NZ (by omega)] at h2 ⊢;exact h2):p:=h
theorem z141 (h:p:=by clear hld;go_wp2_with fail;refine HBo.mono ?_;rintro e w2 ⟨rfl,hb2⟩;go_wp2_with fail;go_ret;exact ⟨rfl,hb1.next hb2⟩):p:=h
theorem z143 (h:p:=by rintro e w5 ⟨rfl,hw5⟩;obtain rfl:=hw5.symm;clear hb;go_wp2_with fail;go_ret2;rw [hr4];exact ⟨rfl,h4,B7 hb04⟩):p:=h
theorem z144 (h:p:=by rintro e w6 ⟨rfl,hw6⟩;obtain rfl:=hw6.symm;clear hb;go_wp2_with fail;go_ret2;rw [hr4];exact ⟨rfl,h5,B7 hb05⟩):p:=h
theorem z146 (h:p:=by
 injection this with this;exact this.symm):p:=h
theorem z147 (h:p:=by refine HSp.mono ?_;rintro e w6 ⟨rfl,h6,t6⟩;go_wp2_with fail;go_ret;rw [HF];exact ⟨rfl,h6,(B7 hB5).step t6⟩):p:=h
theorem z149 (h:p:=by have:=congrArg List.length e1;rw [b7] at this;unfold text at this;rw [b7] at this;omega):p:=h
theorem z150 (h:p:=by simp only [m8,decide_eq_true_eq,Nu,Nq] at h;exact ⟨fun i hi=>h.1 i hi,h.2⟩):p:=h
theorem z151 (h:p:=by go_wp2_with fail;refine ⟨⟨r+1,by go_num,by omega,?_,hbk,hgr⟩,by simp [intOf];omega⟩;rw [HK8] at hbg;exact hbg):p:=h
theorem z152 (h:p:=by have:=ed.out;exact C9.1 (by simpa using this)):p:=h
theorem z153 (h:p:=by have hd:d7=0:=C9.1 ed7.out;unfold Hid;rw [e8,e7,e6,hT,hsucc,hd];unfold aY tx;simp [g9]):p:=h
theorem z155 (h:p:=by
 go_wp2_with fail;go_ret
 first | exact ⟨rfl,hb1.alloc hb1.size _⟩ | exact ⟨rfl,(hb1.alloc hb1.size _).drew⟩):p:=h
theorem z157 (h:p:=by
 rcases hrow'.2 with ⟨rfl,h0⟩ | ⟨q,cap,cur,rfl,_⟩
 ·exact ⟨none,0,by rw [h0]⟩
 ·exact ⟨_,cap,rfl⟩):p:=h
theorem z158 (h:p:=by go_wp2_with fail;go_ret2;rw [hrun];exact ⟨rfl,hbel2⟩):p:=h
theorem z159 (h:p:=by have e2:=e1.out;rw [List.nil_append,Hc] at e2;have e3:=HL2.out;rw [<-e2] at e3;rw [bne_eq_false_iff_eq];omega):p:=h
theorem z161 (h:p:=by go_wp2_with fail;go_ret;have hyo:=hyn.out;subst hyo;exact ⟨ys,A5,c5,hall,rfl,ho5.base hb.size,hb.next hbr⟩):p:=h
theorem z163 (h:p:=by
 injection hh with hh;injection hh with _ hh;exact hT hh):p:=h
theorem z164 (h:p:=by subst he0;go_wp2_with fail;exact ⟨⟨k+1,E2,by go_num,by omega,H3,hK2,h6,ho6,hg6⟩,by simp [intOf];omega⟩):p:=h
theorem z165 (h:p:=by rw [J8];intro h2;have:=Nu.1 h2 i (Nq.2 hi);rw [h] at this;cases this):p:=h
theorem z166 (h:p:=by exact ⟨fun ⟨a,b,c,d,e,f,g,h⟩=>⟨a,b,c,d,e,f,h,g⟩,fun ⟨a,b,c,d,e,f,g,h⟩=>⟨a,b,c,d,e,f,h,g⟩⟩):p:=h
theorem z167 (h:p:=by unfold Hid;rw [HDec,if_neg (fun h=>by have:=ht.2 ⟨h.1,h.2.1,by rw [HEL.1 h.2.1];exact h.2.2⟩;cases this)]):p:=h
theorem z169 (h:p:=by go_wp2_with fail;go_ret2;rw [hr0];exact ⟨hbel,rfl⟩):p:=h
theorem z171 (h:p:=by rw [J8];intro hc;have:=hz 0 (y9.1 hc);have e:(0:UInt8).toNat=0:=rfl;omega):p:=h
theorem z174 (h:p:=by
 have hd:d=UInt8.ofNat m:=eu ed rfl;unfold Hid;rw [e1,hstep,Option.map_map,e2,hd,HM];congr 1;funext z;simp):p:=h
theorem z175 (h:p:=by intro e w1 h1;rw [HT] at h1;obtain ⟨rfl,hb1⟩:=h1;go_wp2_with fail;go_ret3;rw [HE];exact ⟨rfl,hb1⟩):p:=h
theorem z176 (h:p:=by intro u hu;simp only [i8,m9,or_false] at hu;rcases hu with rfl | rfl | rfl<;>rfl):p:=h
theorem z177 (h:p:=by
 unfold Blk at h1 h2;rw [h1] at h2;injection h2 with h2;injection h2 with _ h2;exact absurd h2 (by decide)):p:=h
theorem z178 (h:p:=by
 unfold Blk at hB hB';rw [hB] at hB';injection hB' with e;injection e with _ e;exact absurd e (by decide)):p:=h
theorem z180 (h:p:=by go_wp2_with fail;go_ret;rw [HF2];exact ⟨rfl,rfl⟩):p:=h
theorem z181 (h:p:=by
 rcases D8 i D.l.length with h1 | h1
 ·exact h1
 ·rw [C8 h1] at hs;cases hs):p:=h
theorem z182 (h:p:=by
 subst hji;rw [z7,NS,if_pos rfl,if_pos (by omega)];rfl):p:=h
theorem z183 (h:p:=by unfold bV at hno;have h3:=Px.1 hno z.p (e9.2 ⟨z,hz,rfl⟩);simp [e2] at h3):p:=h
theorem z184 (h:p:=by rintro e w3 ⟨rfl,hw3⟩;obtain rfl:=hw3.symm;go_wp2_with fail;go_ret2;rw [HF,HE];exact ⟨rfl,hw2⟩):p:=h
theorem z185 (h:p:=by rw [bne_iff_ne];intro he;apply HL2.out;have e2:=e1.out;rw [List.nil_append,Hc] at e2;rw [<-e2];omega):p:=h
theorem z186 (h:p:=by have e2:=aJ 8 s.size (by have:=Hm.out;unfold av at this;omega);rw [e1,b7,Hc];omega):p:=h
theorem z187 (h:p:=by rw [key_one hm1.nodup h2 hput1.mem] at h3;exact h3):p:=h
theorem z188 (h:p:=by rw [key_one hm2.nodup h2 hput2.mem] at h3;exact h3):p:=h
theorem z190 (h:p:=by obtain ⟨h1,h2,h3⟩:=ht.1 rfl;unfold Hid;rw [HDec,if_pos ⟨h1,h2,by rw [<-HEL.1 h2];exact h3⟩]):p:=h
theorem z191 (h:p:=by rw [t7,h,I9];simp):p:=h
theorem z193 (h:p:=by
 conv=>rhs;rw [<-r8 k ls]
 rw [I9,b7];omega):p:=h
theorem z194 (h:p:=by cases A<;>simp [sliced,Result.andThen,Addr.add]):p:=h
theorem z195 (h:p:=by
 have e:(w.alloc (.cells #[.int .u8 k] 5)).heap.size=w+1:=by simp
 rw [<-e];exact h4):p:=h
theorem z197 (h:p:=by intro n hn;rw [hns] at hn;obtain ⟨f,hf,rfl⟩:=e9.1 hn;exact dN (hK.names f hf)):p:=h
theorem z198 (h:p:=by have:=(hB.set 3 (.int .i64 (D.left-1))).set 2 (.int .i64 od);rw [HOD] at this ⊢;exact this):p:=h
theorem z199 (h:p:=by clear ht;go_wp2_with fail;go_ret2;rw [hn];exact ⟨rfl,hbel2.trans (hb3.mono (lT hs hs2))⟩):p:=h
theorem z200 (h:p:=by rw [hq] at hB;obtain ⟨hb1,rfl⟩:=hB;go_wp2_with fail;go_ret2;rw [hq];exact ⟨hb1,rfl⟩):p:=h
theorem z201 (h:p:=by
 unfold Hid;rw [HS,if_neg];rintro (h | h)
 ·rw [hB] at h;cases h
 ·rw [<-his] at h;cases h):p:=h
theorem z202 (h:p:=by
 injection hj with hj;subst hj;obtain ⟨es,clock,hbm⟩:=hP10.map.is;rw [hbm] at e;cases e):p:=h
theorem z203 (h:p:=by have z1:=bne_iff_ne.2 he0;clear he0;go_wp2_with fail;go_ret;rw [H3];exact ⟨rfl,h6,hg6⟩):p:=h
theorem z204 (h:p:=by unfold Hid;rw [HR];unfold dropO;rw [if_neg (by rw [h32];simp),if_neg (by rw [hl];decide)]):p:=h
theorem z207 (h:p:=by exact ⟨rfl,rfl,rfl,by simp,fun k _ hk=>setRow_other w g k _ (fun e=>hk (by rw [e]))⟩):p:=h
theorem z209 (h:p:=by simp only [IntKind.wrap,IntKind.bits,IntKind.signed];simp;split<;>split<;>split<;>omega):p:=h
theorem z210 (h:p:=by obtain ⟨h1,h2⟩:=c9.1 hf;rw [l8 h1,h2]):p:=h
theorem z212 (h:p:=by go_wp2_with fail;go_ret2;rw [hr3];exact ⟨rfl,h4.grown h5 hg5,aq (ax hb04 _) hg5⟩):p:=h
theorem z213 (h:p:=by have:=hup.out;rw [i9 (by rw [HL];exact lR _)] at this;exact this):p:=h
theorem z215 (h:p:=by
 have f1:=qiJ (i+m);have f2:=qiJ (k+m);by_cases h1:m<259
 ·have d1:=dtX ((m:Int)<259);have d1':(m:Int)<259:=by omega
  by_cases h2:i+m<b
  ·have d2:=dtX ((i:Int)+m<b);have d2':(i:Int)+(m:Int)<(b.length:Int):=by omega
   obtain ⟨bb,off,rfl,hbb,hcell⟩:=hrw.at_ (by omega);have c1:=hcell (k+m) _ (bu b (k+m) (by omega));have c2:=hcell (i+m) _ (bu b (i+m) h2);have g1:b[k+m]?=some b[k+m]:=gE (by omega);have g2:=gE h2;obtain ⟨x,hx⟩:=gX ((b[k+m]).toNat);obtain ⟨y,hy⟩:=gX ((b[i+m]).toNat);rw [<-hx] at c1;rw [<-hy] at c2;have p1:((i:Int)+m).toNat=i+m:=by omega
   have p2:((k:Int)+m).toNat=k+m:=by omega
   have r1:(0:Int)<=(k:Int)+(m:Int):=by omega
   have r2:(k:Int)+(m:Int)<(b.length:Int):=by omega
   have r3:(0:Int)<=(i:Int)+(m:Int):=by omega
   have hxy:Hid (b[k+m]?=b[i+m]?↔x=y):=by
    unfold Hid;rw [g1,g2,hx,hy];constructor
    ·intro h;injection h with h;rw [h]
    intro h;rw [C9.1 h]
   clear hx hy g1 g2 hcell;by_cases h3:x=y
   ·have HQ:=qI (hxy.2 h3);clear hxy;subst h3;go_wp2_with fail;go_quiet (fail);go_wp2_with fail;refine ⟨⟨m+1,q+nq,by go_num,by omega,by omega,?_,?_⟩,by simp [intOf];omega⟩
    ·intro j hj;by_cases hjm:j=m
     ·rw [hjm];exact HQ.out
     exact hs.out j (by omega)
    unfold Hid;rw [hwr,o8]
   have hq: ¬(b[k+m]?=b[i+m]?):=fun h=>h3 (hxy.1 h);have HQ:=qI hq;have d3:((x:Int)==y)=false:=by simp;omega
   have HA:=qI (pM (b:=b) (k:=k) (i:=i) (n:=m) (by omega) (by omega) (by omega) hs.out (.inr (.inr HQ.out)));clear hq hxy;go_wp2_with fail;go_quiet (fail);go_wp2_with fail;go_ret;exact ⟨by rw [HA];rfl,q+nq,by rw [hwr,o8]⟩
  have d2:=dfX ((i:Int)+m<b);have HA:=qI (pM (b:=b) (k:=k) (i:=i) (n:=m) (by omega) (by omega) (by omega) hs.out (.inr (.inl (by omega))));go_wp2_with fail;go_quiet (fail);go_wp2_with fail;go_ret;exact ⟨by rw [HA];rfl,q+nq,by rw [hwr,o8]⟩
 ·have hm9:m=259:=by omega
  have d1:=dfX ((m:Int)<259);have HA:=qI (pM (b:=b) (k:=k) (i:=i) (n:=m) (by omega) (by omega) (by omega) hs.out (.inl hm9));clear hm9;go_wp2_with fail;go_quiet (fail);go_wp2_with fail;go_ret;exact ⟨by rw [HA];rfl,q+nq,by rw [hwr,o8]⟩):p:=h
theorem z216 (h:p:=by
 obtain ⟨m,q,rfl,hm,hm2,hs,hwr⟩:=hrel;have hrw:Rd wr B 1 A a.length (bc a):=by rw [hwr];exact hr.drewN q
 have hrw2:Rd wr B2 1 A2 b.length (bc b):=by rw [hwr];exact hr2.drewN q
 have hm0:=zeI m;have f1:=qiJ ((m:Int)+1);by_cases h1:m<a.length
 ·have d1:=dtX ((m:Int)<(a.length:Int));have d1':=ltI m a.length;by_cases h2:m<b.length
  ·have d2:=dtX ((m:Int)<(b.length:Int));have d2':=ltI m b.length;obtain ⟨bb,off,rfl,hbb,hcell⟩:=hrw.at_ (by omega);obtain ⟨bb2,off2,rfl,hbb2,hcell2⟩:=hrw2.at_ (by omega);have c1:=hcell m _ (bu a m h1);have c2:=hcell2 m _ (bu b m h2);have g1:=gE h1;have g2:=gE h2;obtain ⟨x,hx⟩:=gX ((a[m]).toNat);obtain ⟨y,hy⟩:=gX ((b[m]).toNat);rw [<-hx] at c1;rw [<-hy] at c2;have hxy:Hid (a[m]?=b[m]?↔x=y):=by
    unfold Hid;rw [g1,g2,hx,hy];constructor
    ·intro h;injection h with h;rw [h]
    intro h;rw [C9.1 h]
   clear hx hy g1 g2 hcell hcell2;by_cases h3:x=y
   ·have HQ:=qI (hxy.2 h3);clear hxy;subst h3;go_wp2_with fail;go_quiet (fail);go_wp2_with fail;refine ⟨⟨m+1,q+nq,by go_num,by omega,by omega,?_,?_⟩,by simp [intOf];omega⟩
    ·intro j hj;by_cases hjm:j=m
     ·rw [hjm];exact HQ.out
     exact hs.out j (by omega)
    unfold Hid;rw [hwr,o8]
   have hq: ¬(a[m]?=b[m]?):=fun h=>h3 (hxy.1 h);have HQ:=qI hq;have d3:((x:Int)==y)=false:=by simp;omega
   have HA:=qI (kM (a:=a) (b:=b) (n:=m) (by omega) (by omega) hs.out (.inr (.inr HQ.out)));clear hq hxy;go_wp2_with fail;go_quiet (fail);go_wp2_with fail;go_ret;exact ⟨by rw [HA];rfl,q+nq,by rw [hwr,o8]⟩
  have d2:=dfX ((m:Int)<b);have HA:=qI (kM (a:=a) (b:=b) (n:=m) (by omega) (by omega) hs.out (.inr (.inl (by omega))));go_wp2_with fail;go_quiet (fail);go_wp2_with fail;go_ret;exact ⟨by rw [HA];rfl,q+nq,by rw [hwr,o8]⟩
 ·have d1:=dfX ((m:Int)<a);have HA:=qI (kM (a:=a) (b:=b) (n:=m) (by omega) (by omega) hs.out (.inl (by omega)));go_wp2_with fail;go_quiet (fail);go_wp2_with fail;go_ret;exact ⟨by rw [HA];rfl,q+nq,by rw [hwr,o8]⟩):p:=h
theorem z217 (h:p:=by
 obtain ⟨k,q,rfl,hk,hs,hwr⟩:=hrel;have hrw:Rd wr B 1 A a.length (pc a):=by rw [hwr];exact hr.drewN q
 have hrw2:Rd wr B2 1 A2 b.length (pc b):=by rw [hwr];exact hr2.drewN q
 have f1:=qiJ (k+1);by_cases h1:k<a.length
 ·have d1:=dtX ((k:Int)<(a.length:Int));have d1':=ltI k a.length;have d2':=ltI k b.length;have hk0:=zeI k;have h2:k<b.length:=by omega
  obtain ⟨bb,off,rfl,hbb,hcell⟩:=hrw.at_ (by omega);obtain ⟨bb2,off2,rfl,hbb2,hcell2⟩:=hrw2.at_ (by omega);have c1:=hcell k _ (eQ h1);have c2:=hcell2 k _ (eQ h2);have G1:=qI (gE h1);have G2:=qI (gE h2);obtain ⟨x,hx⟩:=gX (a[k]);obtain ⟨y,hy⟩:=gX (b[k]);rw [<-hx] at c1 G1;rw [<-hy] at c2 G2;clear hx hy hcell hcell2;by_cases h3:x=y
  ·subst h3;have HS:Hid (∀j,j<k+1->a[j]?=b[j]?):=fun j hj=>by
    by_cases hjk:j=k
    ·rw [hjk,G1,G2]
    exact hs.out j (by omega)
   go_wp2_with fail;go_quiet (fail);go_wp2_with fail;refine ⟨⟨k+1,q+nq,by go_num,by omega,HS,by unfold Hid;rw [hwr,o8]⟩,by simp [intOf];omega⟩
  have HN:Hid (¬a=b):=fun e=>by
   have h4:=G2.out;rw [<-e,G1] at h4;injection h4 with h4;exact h3 h4
  have hne:=beq_eq_false_iff_ne.2 fun e=>h3 (fh e);go_wp2_with fail;go_quiet (fail);go_wp2_with fail;go_ret;exact ⟨false,q+nq,rfl,by simp [HN.out],by rw [hwr,o8]⟩
 ·have d1:=dfX ((k:Int)<a);have d1': ¬(k:Int)<a:=by omega
  have HE:Hid (a=b):=N8 fun j=>by
   rcases D8 j a.length with hj | hj
   ·exact hs.out j (by omega)
   rw [C8 hj,C8 (by rw [<-HL];exact hj)]
  go_wp2_with fail;go_ret;exact ⟨true,q,rfl,by simp [HE.out],hwr.out⟩):p:=h
theorem z218 (h:p:=by intro A8 c8 W9 z1 z2 z3 z4 z5;have hM9:=hM8.appA z3 z1;refine hO hK (fun _=>hM9.held) (fun hHeld=> ?_);refine tlF 16 (.pointer (some ⟨w,0,none⟩)) ?_;refine tlF 17 (.pointer (some ⟨w,0,none⟩)) ?_;refine rT 18 fun K hK=> ?_;have f0:=hM9.blk.free 0;obtain ⟨c0,_⟩:=hM9.held;have f2:=(hM9.blk.set 0 (.slice A7 (n+1) c7)).free 1;have c2:=(hM9.blk.set 0 (.slice A7 (n+1) c7)).cell 1;go_simp;refine hO hK (fun h=>by simp at h) (fun hHeld=> ?_);refine tlF 19 (.pointer (some ⟨w,0,none⟩)) ?_;refine tlF 20 (.pointer (some ⟨w,1,none⟩)) ?_;refine rT 21 fun K hK=> ?_;go_simp;refine hO hK (fun h=>by simp at h) (fun hHeld=> ?_);refine JZ qkR ?_ _;have hR:=Ku hM9 hlt hnk hx (i:=.int .i64 (k+1)) rfl;clear hM9 f0 f2 c0 c2 hx;go_wp2_with fail;exact ⟨hR,by simp [intOf];omega⟩):p:=h
theorem z219 (h:p:=by refine rh 9 fun K hK=> ?_;go_simp;refine (HO3.out _ hbA).mono ?_;intro e w2 h9;obtain ⟨k9,Ad9,d9,cd9,Ae9,en9,ce9,tr9,Ap9,pa9,cp9,ta9,na9,wh9,st9,te9,ho9,rfl,r1,r2,r3,hb9,r5,r6⟩:=RetObjS.any h9;rw [HER];have hX2:=hXA.below hb9 hXA.lt;refine hO hK (HCZ.out _ hX2) (fun hHeld=> ?_);clear h9;refine tl 10 (.tuple #[.agg #[.int .i64 k9,.slice Ad9 d9.length cd9,.slice Ae9 en9.length ce9,.string tr9,.slice Ap9 pa9.length cp9,.string ta9,.string na9,.string wh9,.int .i64 st9,.string te9],.int .i64 er]) ?_;refine tl 11 (.agg #[.int .i64 k9,.slice Ad9 d9.length cd9,.slice Ae9 en9.length ce9,.string tr9,.slice Ap9 pa9.length cp9,.string ta9,.string na9,.string wh9,.int .i64 st9,.string te9]) ?_;refine tl 12 (.int .i64 er) ?_;have hX3:=hX2;have hNb:=hN.below hb9 hN.lt;have hNl:=hN.lt;have hxl:=hXv.lt;refine rh 14 fun K hK=> ?_;refine mN (by rfl) _ (.tmp 14) (.tmp 100) (by rfl) _ [.int .i64 k9,.slice Ad9 d9.length cd9,.slice Ae9 en9.length ce9,.string tr9,.slice Ap9 pa9.length cp9,.string ta9,.string na9,.string wh9,.int .i64 st9,.string te9] (by rfl) (by rfl) 40 zcells hNb qkR rfl (gn _ _ _ _ _ _ _ _ _ _ rfl rfl rfl) ?_;intro w5 hB5 hg5;have hX5:=hX3.grown hg5 (fun e=>by injection e with e;simp at e;omega);refine hO hK (HCZ.out _ hX5) (fun hHeld=> ?_);refine tl 15 (.int .i64 er) ?_;refine dn ?_;go_wp2_with fail;go_meet;have hb29:=(hbA.next hb9).grown hg5 (hbA.next hb9).size (fun k hk=>by cases hk;exact (bR v2.heap.size v2).size);exact ⟨rfl,_,k9,Ad9,d9,cd9,Ae9,en9,ce9,tr9,Ap9,pa9,cp9,ta9,na9,wh9,st9,te9,rfl,ho9,hB5,((r1.apart hg5 hNl).1),((r2.apart hg5 hNl).1),((r3.apart hg5 hNl).1),hb29,r5,r6⟩):p:=h
theorem z220 (h:p:=by refine rh 9 fun K hK=> ?_;go_simp;refine (HO1.out _ hbA).mono ?_;intro e w2 h9;obtain ⟨k9,Ad9,d9,cd9,Ae9,en9,ce9,tr9,Ap9,pa9,cp9,ta9,na9,wh9,st9,te9,ho9,rfl,r1,r2,r3,hb9,r5,r6⟩:=RetObjS.any h9;rw [HER];have hX2:=hXA.below hb9 hXA.lt;refine hO hK (HCZ.out _ hX2) (fun hHeld=> ?_);clear h9;refine tl 10 (.tuple #[.agg #[.int .i64 k9,.slice Ad9 d9.length cd9,.slice Ae9 en9.length ce9,.string tr9,.slice Ap9 pa9.length cp9,.string ta9,.string na9,.string wh9,.int .i64 st9,.string te9],.int .i64 er]) ?_;refine tl 11 (.agg #[.int .i64 k9,.slice Ad9 d9.length cd9,.slice Ae9 en9.length ce9,.string tr9,.slice Ap9 pa9.length cp9,.string ta9,.string na9,.string wh9,.int .i64 st9,.string te9]) ?_;refine tl 12 (.int .i64 er) ?_;have hX3:=hX2;have hNb:=hN.below hb9 hN.lt;have hNl:=hN.lt;have hxl:=hX1.lt;refine rh 14 fun K hK=> ?_;refine mN (by rfl) _ (.tmp 12) (.tmp 87) (by rfl) _ [.int .i64 k9,.slice Ad9 d9.length cd9,.slice Ae9 en9.length ce9,.string tr9,.slice Ap9 pa9.length cp9,.string ta9,.string na9,.string wh9,.int .i64 st9,.string te9] (by rfl) (by rfl) 40 zcells hNb qkR rfl (gn _ _ _ _ _ _ _ _ _ _ rfl rfl rfl) ?_;intro w5 hB5 hg5;have hX5:=hX3.grown hg5 (fun e=>by injection e with e;simp at e;omega);refine hO hK (HCZ.out _ hX5) (fun hHeld=> ?_);refine tl 15 (.int .i64 er) ?_;refine dn ?_;go_wp2_with fail;go_meet;have hb29:=(hbA.next hb9).grown hg5 (hbA.next hb9).size (fun k hk=>by cases hk;exact (bR w1.heap.size w1).size);exact ⟨rfl,_,k9,Ad9,d9,cd9,Ae9,en9,ce9,tr9,Ap9,pa9,cp9,ta9,na9,wh9,st9,te9,rfl,ho9,hB5,((r1.apart hg5 hNl).1),((r2.apart hg5 hNl).1),((r3.apart hg5 hNl).1),hb29,r5,r6⟩):p:=h
theorem z221 (h:p:=by
 clear h1 hm;by_cases hl:0<D.left
 ·have d3:decide (D.left>0)=true:=dT hl;have f1:=qiJ (D.left-1);have hL:Hid (dC D.left=D.left-1):=if_pos hl;clear hl h2 h3 h4;go_in;go_wp2_with fail;have hB1:Blk ((w.setCell ⟨g,4,none⟩ (.int .i64 (D.left-1))).setCell ⟨g,2,none⟩ (.int .i64 fr)) g 145 [.int .i64 D.cap,.map (some m),.int .i64 fr,.int .i64 (bo D.done),.int .i64 (D.left-1),.bool D.dark]:=(hB.set 4 _).set 2 _;have hg1:w.grownBy ((w.setCell ⟨g,4,none⟩ (.int .i64 (D.left-1))).setCell ⟨g,2,none⟩ (.int .i64 fr)) (some g):=ae (ae (gR w _) 4 _) 2 _;refine (hC _ (by rw [hB1.cell];rfl) (hB1.free 3)).mono ?_;rintro e w2 ⟨rfl,rfl⟩;have hB2:=hB1.set 3 (.int .i64 (bo (D.done+1)));have hg2:=ae hg1 3 (.int .i64 (bo (D.done+1)));go_wp2_with fail;refine (HD.out _ (by rw [hL];exact hB2) hg2).mono ?_;rintro e w3 ⟨rfl,hR⟩;go_wp2_with fail;go_ret;exact ⟨rfl,hR⟩
 ·have d3:decide (D.left>0)=false:=qF hl;have hL:Hid (dC D.left=D.left):=if_neg hl;clear hl h2 h3 h4;go_in;go_wp2_with fail;have hB1:Blk (w.setCell ⟨g,2,none⟩ (.int .i64 fr)) g 145 [.int .i64 D.cap,.map (some m),.int .i64 fr,.int .i64 (bo D.done),.int .i64 D.left,.bool D.dark]:=hB.set 2 _;have hg1:w.grownBy (w.setCell ⟨g,2,none⟩ (.int .i64 fr)) (some g):=ae (gR w _) 2 _;refine (hC _ (by rw [hB1.cell];rfl) (hB1.free 3)).mono ?_;rintro e w2 ⟨rfl,rfl⟩;have hB2:=hB1.set 3 (.int .i64 (bo (D.done+1)));have hg2:=ae hg1 3 (.int .i64 (bo (D.done+1)));go_wp2_with fail;refine (HD.out _ (by rw [hL];exact hB2) hg2).mono ?_;rintro e w3 ⟨rfl,hR⟩;go_wp2_with fail;go_ret;exact ⟨rfl,hR⟩):p:=h
theorem z222 (h:p:=by
 have hnone:Region.ready md ops (listed.setIfInBounds i true)=[]:=by
  unfold Region.ready;rw [List.filter_eq_nil_iff];intro j hj;rw [hall j (Nq.1 hj)];simp
 unfold wpOp at h1 ⊢;rw [qD hL] at h1;rw [hL];simp only at h1 ⊢;have hw1:Region.wanted (bU last) (yielded (ops.setIfInBounds i (bU last)) a.tmps)=true:=by
  show (match last.guard with | none=>true | some (j,want)=>_)=true;rw [hg]
 have hw2:Region.wanted last (yielded ops a.tmps)=true:=by
  unfold Region.wanted;rw [hg]
 rw [if_pos hw1] at h1;rw [if_pos hw2];have hfin: ∀a' w',wpAny P md (ops.setIfInBounds i (bU last)) (dt P last Q) fuel (listed.setIfInBounds i true) a' w'->dt P last Q .normal a' w':=by
  intro a' w' h3;cases fuel with
  | zero=>exact h3.2
  | succ f=>exact h3.1 (by rw [ko hL];exact hnone)
 have hput:a.put (bU last).dst undef=a:=by
  show a.put last.dst undef=a;rw [hd];rfl
 rcases h1 with h1 | h1
 ·have h2:wpAny P md (ops.setIfInBounds i (bU last)) (dt P last Q) fuel (listed.setIfInBounds i true) (a.put (bU last).dst undef) w:=h1;rw [hput] at h2;refine .inl (Oper.wp_mono (fun a' w' h3=>wpAny_done hnone h3 fuel) (hfin _ _ h2))
 ·exfalso;have h3:=h1.1.1
  revert h3
  simp [execOp,bU,noRoomEvent];exact fun h=>by
   have h4:({ loc:=Loc.mark Mark.noRoom,write:=false,sync:=true }:Event)∈(#[]:Array Event):=h;simp at h4):p:=h
theorem z223 (h:p:=by
 intro e w1 h1;rw [HT] at h1;obtain ⟨q1,A1,c1,e1,rfl,h1,hb1,h2,h3⟩:=h1;have hnq:n<=q1:=by rw [e1];exact h00
 have hd2:decide (q1<n)=false:=by simpa using hnq
 have hd3:decide ((q1:Int)<n)=false:=by simpa using hnq
 have hr1:=d8 h1;have ht:=((s7 h1).tail8 hnq);have hcv1: ∀k,(convert 36 9 (.slice A1 n c1)).run Tryz.prog (w1.drewN k)= .ok (.string ⟨(q1.take n).toArray⟩) (w1.drewN k):=fun k=>mO _ _ _ _ q7 z8 l9 _ A1 n c1 (q1.take n) ((hr1.head hnq).drewN k);have hcv2:(convert 36 9 (.slice A1 n c1)).run Tryz.prog w1.drew= .ok (.string ⟨(q1.take n).toArray⟩) w1.drew:=mO _ _ _ _ q7 z8 l9 _ A1 n c1 (q1.take n) (hr1.head hnq).drew;have hnc:n<=c1:=by omega
 by_cases hcap:c1=n
 ·clear ht;subst hcap;go_wp2_with fail;go_quiet (fail);go_wp2_with fail;go_ret3;rw [HE2];cases e1.out;exact ⟨[],A1,0,(p9 (by omega)).symm,rfl,Seg.nil,Below.drewN' hb1 _⟩
 ·rw [if_neg hcap] at ht;go_wp2_with fail;go_quiet (fail);go_wp2_with fail;go_ret3;rw [HE2];cases e1.out;exact ⟨q.drop _,_,_,rfl,by rw [b8];rfl,by rw [b8];exact ht.drewN _,Below.drewN' hb1 _⟩):p:=h
theorem z224 (h:p:=by
 go_wp2_with ((first
  | (refine wpList_load_row rfl 40 _ rfl w2.heap.size rfl _ _ _ _ hN u9 rfl qkR ?_)
  | (refine dy (by rfl) _ (.tmp 6) (.tmp 39) rfl w.heap.size [.int .i64 k,.slice Ad d.length cd,.slice Ae en.length ce,.string tr,.slice Ap pa.length cp,.string ta,.string na,.string wh,.int .i64 st,.string te] rfl rfl 40 zcells hB3 qkR rfl (gn _ _ _ _ _ _ _ _ _ _ rfl rfl rfl) ?_;intro w6 hB6 hg6)))
 have hl:=Go.run_loadVar_row (P:=Tryz.prog) w6 w.heap.size 40 40 (#[.int .i64 k,.slice Ad d.length cd,.slice Ae en.length ce,.string tr,.slice Ap pa.length cp,.string ta,.string na,.string wh,.int .i64 st,.string te]) (0,0) _ hB6 u9 rfl qkR;rw [hr3];refine bodyPost_ret (v:=.tuple #[.agg #[.int .i64 k,.slice Ad d.length cd,.slice Ae en.length ce,.string tr,.slice Ap pa.length cp,.string ta,.string na,.string wh,.int .i64 st,.string te],.int .i64 0]) ?_ rfl ⟨k,Ad,d,cd,Ae,en,ce,tr,Ap,pa,cp,ta,na,wh,st,te,hoE,rfl,(((r1.below hbN).apart hg6 hlt1).lower hlt2),(((r2.below hbN).apart hg6 hlt1).lower hlt2),(((r3.below hbN).apart hg6 hlt1).lower hlt2),hb03.grown hg6 hb03.size (fun k hk=>by cases hk;exact lR _),r5,r6,r7⟩;simp [results,Po,asAddr,hl]):p:=h
theorem z225 (h:p:=by
 go_wp2_with ((first
  | (refine wpList_load_row rfl 40 _ rfl w2.heap.size rfl _ _ _ _ hN u9 rfl qkR ?_)
  | (refine dy (by rfl) _ (.tmp 6) (.tmp 39) rfl w.heap.size [.int .i64 k,.slice Ad d.length cd,.slice Ae en.length ce,.string tr,.slice Ap pa.length cp,.string ta,.string na,.string wh,.int .i64 st,.string te] rfl rfl 40 zcells hB3 qkR rfl (gn _ _ _ _ _ _ _ _ _ _ rfl rfl rfl) ?_;intro w6 hB6 hg6)))
 have hl:=Go.run_loadVar_row (P:=Tryz.prog) w6 w.heap.size 40 40 (#[.int .i64 k,.slice Ad d.length cd,.slice Ae en.length ce,.string tr,.slice Ap pa.length cp,.string ta,.string na,.string wh,.int .i64 st,.string te]) (0,0) _ hB6 u9 rfl qkR;rw [hr3];refine bodyPost_ret (v:=.tuple #[.agg #[.int .i64 k,.slice Ad d.length cd,.slice Ae en.length ce,.string tr,.slice Ap pa.length cp,.string ta,.string na,.string wh,.int .i64 st,.string te],.int .i64 0]) ?_ rfl ⟨k,Ad,d,cd,Ae,en,ce,tr,Ap,pa,cp,ta,na,wh,st,te,hoE,rfl,(((r1.below hbN).apart hg6 hlt1).lower hlt2),(((r2.below hbN).apart hg6 hlt1).lower hlt2),(((r3.below hbN).apart hg6 hlt1).lower hlt2),hb03.grown hg6 hb03.size (fun k hk=>by cases hk;exact lR _),r5,r6,r7⟩;simp [results,Pp,asAddr,hl]):p:=h
theorem z226 (h:p:=by
 have hl5n:l5.length<=out+32:=by rw [hl5,b7];omega
 have hwvt:w.heap.size<=v5:=by omega
 refine rh 14 fun K hK=> ?_;refine IG rfl (.tmp 143) (.tmp 150) rfl w.heap.size A5 l5.length c5 l5 rfl hseg6 _ _ 1 1 [UInt8.ofNat kk] rfl hone (by omega) (by first | omega | (simp;omega)) ?_;intro l6 A6 c6 v6 hl6 hs6 hb6 hg6 hA6;have hLT7:=qa hLT6 hseg6 (by decide) hg6;have d70:v6.cell? ⟨g,k*5,none⟩=some (.string ⟨sid.toArray⟩):=by rw [<-HXID];exact cx hLT7 (bD hxT 0 (by omega))
 have d71:v6.cell? ⟨g,k*5+1,none⟩=some (.int .i64 kk):=by rw [<-HXKK];exact cx hLT7 (bD hxT 1 (by omega))
 refine hO hK (⟨d70,d71⟩) (fun hHeld=> ?_);refine tl 15 (.slice A6 l6.length c6) ?_;refine dn ?_;have hr6:=hr56.apartRow (by first | omega | (simp;omega)) hg6 hA5n;have hl6n:l6.length<=out+33:=by rw [hl6,b7];simp;omega
 have hl6e:Hid (l6=out++(sid++[UInt8.ofNat kk])):=by unfold Hid;rw [hl6,hl5,g9]
 have hvv:vt.heap.size<=v6:=by have:=hg6.size;(try simp at this);omega
 clear d50 d51 d60 d61 d70 d71 ct0 ct1;go_wp2_with fail;go_meet;exact ⟨l6,A6,c6,rfl,hl6n,hl6e,hs6,hLT7,hr6.more hvv,hb56.trans hb6⟩):p:=h
theorem z227 (h:p:=by
 by_cases hmm:m'<=av
 ·have hmi:decide ((4611686018427387903:Int)<m')=false:=by unfold av at hmm;simp;omega
  have hmj:(m':Int)<=kag:=by unfold av at hmm;omega
  have ht:=hr.tail (k:=k+1) hlt hc;have HT2:Hid (ad l=some (m',l.drop (k+1))):=by have:=HT.out;rwa [if_pos hmm] at this
  clear hmm HT;by_cases hcap:c=k+1
  ·rw [if_pos hcap] at ht;go_wp2_with fail;refine (ro _ (l.drop (k+1)) _ _ w (by simp) ht (by omega)).mono ?_;rintro e w1 ⟨l1,A1,c1,e1,rfl,h1,hb1,h2,h3⟩;go_wp2_with fail;go_ret3;rw [HT2];exact ⟨l1,A1,c1,e1,rfl,h1,hb1,h2,h3⟩
  rw [if_neg hcap] at ht;have ht':Rd w w.heap.size 1 (some ⟨b,off+(k+1),none⟩) (l-(k+1)) (bc (l.drop (k+1))):=by simpa [H8] using ht
  clear ht;go_wp2_with fail;refine (ro _ (l.drop (k+1)) _ _ w (by simp) ht' (by omega)).mono ?_;rintro e w1 ⟨l1,A1,c1,e1,rfl,h1,hb1,h2,h3⟩;go_wp2_with fail;go_ret3;rw [HT2];exact ⟨l1,A1,c1,e1,rfl,h1,hb1,h2,h3⟩
 ·have hmi:decide ((4611686018427387903:Int)<m')=true:=by unfold av at hmm;simp;omega
  have HT2:Hid (ad l=none):=by have:=HT.out;rwa [if_neg hmm] at this
  clear hmm HT;go_wp2_with fail;go_ret3;rw [HT2];exact ⟨rfl,bR _ _⟩):p:=h
theorem z228 (h:p:=by
 have hp:=L9.2 h0;have hp2:0<n:=by omega
 have hz:((n:Int)==0)=false:=by simp;omega
 have f1:=qiJ (n-1);have hcl:Hid (aj (2*((n:Int)-1))=2*(l-1)):=by unfold Hid aj;omega
 clear hn hp;go_in;go_wp2_with fail;refine (cj A out c _ w hr (by omega)).mono ?_;rintro e w1 ⟨l1,A1,c1,e1,rfl,ho1,hb1,i1,i2⟩;have hl1:l1.length<=out+9:=by
  rw [e1,b7];have:=aJ 8 (aj (2*((n:Int)-1))) (by have:=eE (2*((n:Int)-1));unfold av at this;omega);omega
 have hr2':=(hr2.belowW hb1 (lR _)).more hb1.size;go_wp2_with (at_builtin;refine bQ rfl (.tmp 14) (.tmp 15) rfl w.heap.size _ l1.length l1 rfl ho1 w1.heap.size A2 n c2 l rfl hr2' (by omega) hb1.size ?_);intro l2 A3 c3 w2 e2 ho2 hb2 _ _ i3 i4;go_wp2_with fail;go_ret;refine ⟨l2,A3,c3,?_,rfl,d8 ho2,hb1.trans hb2,i3,i4,(New.own ho2).lower hbase⟩;unfold Hid aH;rw [e2,e1,hcl,if_neg h0,g9]):p:=h
theorem z229 (h:p:=by
 obtain ⟨b',Ab,cb,hbb,rfl,hob,hbc,hbcm⟩:=hm;have cv1:(convert 36 9 (.slice Ab b'.length cb)).run Tryz.prog w4= .ok (.string (idS b')) w4:=bA (d8 hob);have cv2:(convert 36 9 (.slice A raw.length c)).run Tryz.prog w4= .ok (.string (idS raw)) w4:=bA hr4;have hr3:Hid (r=if b'=raw then (.ok id,D) else (.error 7,D)):=by
  unfold Hid;rw [hr2];simp only;rw [hbb]
 clear hbb hq;by_cases hb:b'=raw
 ·have hr4:Hid (r=(.ok id,D)):=by unfold Hid;rw [hr3,if_pos hb]
  have q2:((idS b').toList==(idS raw).toList)=true:=eM (by rw [hb]);clear hb;go_wp2_with fail;go_ret2;rw [hr4];exact ⟨rfl,h4,ax hb04 _⟩
 ·have hr4:Hid (r=(.error 7,D)):=by unfold Hid;rw [hr3,if_neg hb]
  have q2:((idS b').toList==(idS raw).toList)=false:=eN (fun e=>hb (by simpa [idS] using congrArg (fun x:BA=>x.data.toList) e));clear hb;go_wp2_with fail;go_ret2;rw [hr4];exact ⟨rfl,h4,ax hb04 _⟩):p:=h
theorem z230 (h:p:=by
 clear hgo;gi_wp2;refine hRn.mono ?_;rintro e W3 (⟨rfl,hJ3,hk3⟩ | ⟨rfl,hJx3⟩)
 ·have hX3:=hk3.1 _ hX2;have hf4:=hk3.2 _ _ hfq;have e0:=hX3.c 0;have z0:=hX3.free 0;gi_wp2;have hX4:=hX3.set 0 (.slice A' q'.length c');refine ⟨⟨false,pre++[⟨mm,A2,c2⟩],q',A',c',rfl,hX4,?_,hq'.2.1,hq'.2.2,qI (hJc _ _ _ hJ3),hT⟩,?_⟩
  ·exact hf4.keep (ae (gR W3 _) 0 _) (v8 hX3 (by decide) hBx)
  have e1:kp x wr=q:=by unfold kp;rw [k0];rfl
  have e2:kp x (W3.setCell ⟨x,0,none⟩ (.slice A' q'.length c'))=q':=by unfold kp;rw [hX4.cell];rfl
  rw [e1,e2];exact hmeas.2
 ·gi_wp2;refine bodyPost_ret (results_none (by rfl) _ _ _) rfl ?_;exact ⟨⟨_,rfl⟩,.inr ⟨pre++[⟨mm,A2,c2⟩],⟨_,hT.out⟩,hJx3⟩⟩):p:=h
theorem z232 (h:p:=by
 have hn':n<=l:=by omega
 have d1:=dfX ((l:Int)<nI);have HT:Hid (bf n l=some (l.take n,l.drop n)):=by unfold Hid bf;rw [if_neg hn]
 obtain ⟨m,em,jm,jm',⟨rm,km,km'⟩,_,sm⟩:=fV (k:=n) nI hnI hF.1 hn' hc hcm;obtain ⟨q,A',c',eq,jq,jq',hq,_,sq,_,sn⟩:=cm (k:=n) nI hnI hF.1 hn' hc hcm;have v1:=bA (c:=c) rm;clear hnI hn;go_in;go_wp2_with fail;go_ret;have hg:w.grownBy (w.setCell ⟨g,0,none⟩ (.slice A' q.length c')) (some g):=ae (gR w _) 0 _;have hq2:=hq.2;refine ⟨m,q,b,rfl,⟨A',c',hB.set 0 (.slice A' q.length c'),(hF.piece hq (lR _) jq sq).keep hg hO,hq2.1,hq2.2,by omega,hBg⟩,qI (gV b ?_),hg,by omega,jm⟩;rw [HT,em,eq]):p:=h
theorem z233 (h:p:=by rw [e1,b7];have:=aJ 8 (aj (2*((n:Int)-1))) (by have:=eE (2*((n:Int)-1));unfold av at this;omega);omega):p:=h
theorem z234 (h:p:=by
 go_in;go_wp2_with (first
  | (go_at_call 88;refine (fd h).mono ?_;rintro e w' ⟨rfl,rfl⟩)
  | (go_at_call 101;refine (kS B A ns c _ hr hl).mono ?_;rw [HB];rintro e w' ⟨rfl,rfl⟩))
 go_ret;rw [HF];exact ⟨rfl,rfl⟩):p:=h
theorem z235 (h:p:=by
 have hrd:aU D (af id)=([],3):=by
  unfold aU;rw [if_neg (by rw [hnB];decide),hl]
 rw [hrd] at hRd;have HRd:=qI hRd;have hr:Hid (r= .error 6):=by
  unfold Hid;rw [HR];unfold aK;rw [if_neg (by rw [h32];simp),hl]
 clear hRd hl hrd;go_wp2_with fail;refine HRd.mono ?_;rintro e w3 ⟨b,A,c,hbr,rfl,ho3,hb3⟩;have hb03:=hb02.next hb3;obtain rfl:b=[]:=hbr.out;go_wp2_with fail;go_ret2;rw [hr];exact ⟨hb03,rfl⟩):p:=h
theorem z236 (h:p:=by clear k1;go_wp2_with fail;go_ret;have hg:w1.grownBy ((w1.setCell ⟨g,0,none⟩ (.slice none 0 0)).setCell ⟨g,1,none⟩ (.int .i64 2)) (some g):=ae (ae (gR w1 _) 0 _) 1 _;rw [HT];exact ⟨[],[],true,rfl,⟨none,0,(hB1.set 0 (.slice none 0 0)).set 1 (.int .i64 2),Far.nil,zL,by decide,by decide,hBg⟩,qI (iE _ _ _ rfl),aq (ax hb1 _) hg,zL,by decide⟩):p:=h
theorem z237 (h:p:=by clear k1;go_wp2_with fail;go_ret;have hg:w1.grownBy ((w1.setCell ⟨g,0,none⟩ (.slice none 0 0)).setCell ⟨g,1,none⟩ (.int .i64 2)) (some g):=ae (ae (gR w1 _) 0 _) 1 _;rw [HT];exact ⟨0,[],true,rfl,⟨none,0,(hB1.set 0 (.slice none 0 0)).set 1 (.int .i64 2),Far.nil,zL,by decide,by decide,hBg⟩,qI (iE _ _ _ rfl),aq (ax hb1 _) hg,zL,by decide⟩):p:=h
theorem z238 (h:p:=by go_wp2_with fail;go_quiet ((go_at_call 248;exact A9 (pd x0 _ HP hns.out _)));go_wp2_with fail;go_ret;rw [HF];exact ⟨rfl,q+nq,by rw [HW,o8]⟩):p:=h
theorem z239 (h:p:=by have:=(jc ((b.drop f).take (k-f)) (by rw [b9,b8];omega)).2.2.2;rw [b9,b8] at this;rw [e3,b7];omega):p:=h
theorem z240 (h:p:=by go_wp2_with fail;refine (xJ (base:=w.heap.size) (hN:=hN) (hbase:=hs) A1 l c1 _ (b.drop f) (b-f) _ wr (by rw [b8]) hro i1 i2 htail (by omega)).mono ?_;rintro e w3 ⟨l3,A3,c3,e3,rfl,hr3,hb3,j1,j2,hN3⟩;go_wp2_with fail;go_ret;exact ⟨l3,A3,c3,by unfold Hid;rw [e3,hfin],rfl,hr3,hbel.trans (hb3.mono hs),j1,j2,hN3⟩):p:=h
theorem z242 (h:p:=by go_in;go_wp2_with fail;go_still_tail 22,qkR;change wpList _ _ _ _ _ (World.drew w);go_wp2_with fail;refine (gt g _ _ _ _ (World.drew w) hblk.drew).mono ?_;rintro e w1 ⟨rfl,hb1,hg1⟩;go_wp2_with fail;go_end0;exact ⟨rfl,⟨Ap,Ao,np,cp,no,co,hb1⟩,aq (fa (gR w (some g))) hg1⟩):p:=h
theorem z243 (h:p:=by
 intro he;unfold aT at he;split at he
 ·rcases hs.2.2.2 with h | ⟨g',off,cur,rfl,_,hh,_⟩
  ·omega
  have:g'=g:=by simpa [au] using he.symm
  subst this;unfold Blk at hb;rw [hb] at hh;injection hh with hh;injection hh with _ ht;exact absurd ht (by decide)
 ·cases he):p:=h
theorem z244 (h:p:=by
 go_in;go_wp2_with (first
  | (go_at_call 88;refine (fd h).mono ?_;rintro e w' ⟨rfl,rfl⟩)
  | (go_at_call 101;refine (kS _ _ [n] 1 _ hr1 (by simp)).mono ?_;rw [HB];rintro e w' ⟨rfl,rfl⟩))
 go_ret2;rw [HF];exact ⟨[],none,0,rfl,rfl,j9 _ _ _ _,hb1⟩):p:=h
theorem z245 (h:p:=by go_in;go_wp2_with (go_at_call 334;refine (fI target _ H1 _).mono ?_;rintro e w' ⟨rfl,rfl⟩);go_ret;rw [HF];exact ⟨rfl,hb0⟩):p:=h
theorem z246 (h:p:=by
 refine ⟨by rw [ir,b9];omega,fun h0=> ?_⟩;obtain ⟨b1,off,e,hb1,hc1⟩:=hr.at_ (by omega);refine ⟨b1,off,e,hb1,fun j u hu=>hc1 j u ?_⟩;rw [<-Cr] at hu;rw [w7] at hu;split at hu
 ·exact hu
 ·cases hu):p:=h
theorem z248 (h:p:=by refine ⟨⟨j+1,ys++[⟨l3,A3,c3⟩],A5,c5,by go_num,by omega,rfl,by rw [Kb];exact hown5,fun y hy=>⟨((hfar3 y hy).1.below hb4).keep hg5 hO,(hfar3 y hy).2⟩,hq3,(hbel3.trans (hb4.mono hs3)).trans hb5⟩,by simp [intOf];omega⟩):p:=h
theorem z249 (h:p:=by unfold Hid aH;rw [e2,e1,hcl,if_neg h0,g9]):p:=h
theorem z250 (h:p:=by
 have hr:Hid (r= .error 2):=by
  unfold Hid;rw [HR];unfold aK;rw [if_neg (by rw [h32];simp),hl];simp only;rw [<-hbq,hop]
 rintro e w4 ⟨rfl,hb4⟩;clear hl hop;go_wp2_with fail;go_ret2;rw [hr];exact ⟨hb03.next hb4,rfl⟩):p:=h
theorem z251 (h:p:=by go_wp2_with fail;go_quiet ((first | (go_at_call 333;exact A9 (ly x0 _ HP _)) | (go_at_call 334;exact A9 (fI x2 _ HI _))));go_wp2_with fail;go_ret;rw [HF];exact ⟨rfl,hb1.drewN' nq⟩):p:=h
theorem z252 (h:p:=by
 split
 ·rename_i hw;rw [if_pos hw] at h1;rcases h1 with h1 | h1
  ·exact .inl (Kv hK h1)
  exact .inr ⟨h1.1,by obtain ⟨a',w',h2⟩:=h1.2;exact ⟨a',w',h2⟩⟩
 ·rename_i hw;rw [if_neg hw] at h1;exact hK _ _ h1):p:=h
theorem z253 (h:p:=by
 rw [if_neg (by omega),if_neg (by omega),if_neg (by omega)];obtain ⟨h1,h2,h3⟩:=oQ e h;have h7:=uz h3;have h8:=aC o.target;have h9:=dX (s:=o.name) (by omega);simp only [b7];omega):p:=h
theorem z254 (h:p:=by obtain ⟨d,v,h1,h2,h3⟩:=hat6.out j y hy;refine ⟨d,v,h1.grownB hB6 (fun e=> ?_) (by decide) (by decide) (by decide) hg7,h2,h3⟩;have h4:=bv h1.blk hB6 (by decide);exact h4 (by rw [e])):p:=h
theorem z255 (h:p:=by go_wp2_with fail;refine (HFr.out _ h2).mono ?_;rintro e w3 ⟨rfl,hD2,b2⟩;go_wp2_with fail;go_meet;exact ⟨false,rfl,⟨fun h=>(by cases h),fun h=>absurd h.2 H.out⟩,hD2,bq2.next b2⟩):p:=h
theorem z256 (h:p:=by
 have hm:=(bz h).1 hl;cases hn:aa l n with
 | none=>rwa [eK hn]
 | some d=>
  rcases i8.1 ((fB hn).mem_iff.1 hm) with e2 | hm2
  ·exact absurd (by injection e2) e
  ·exact hm2):p:=h
theorem z257 (h:p:=by have z2:wr.cell? ⟨g,1,none⟩=some (.int .i64 2):=z1;clear z1;go_wp2_with fail;go_end0;exact ⟨v,l2,true,rfl,hs,qI (jL t1.out (hT.out.done (.inr rfl))),hb,hv1,hv3⟩):p:=h
theorem z258 (h:p:=by go_wp2_with fail;refine HFr.mono ?_;rintro e w2 ⟨rfl,hD2,b2⟩;go_wp2_with fail;go_meet;exact ⟨false,rfl,⟨fun h=>(by cases h),fun h=>absurd h H.out⟩,hD2,b2⟩):p:=h
theorem z259 (h:p:=by
 have q2:=eN hs;have hr2:Hid (r= .error 2):=by
  unfold Hid;rw [hr,if_neg (fun h=>hs (ox.2 h.1))]
 clear hs;go_wp2_with fail;go_ret2;rw [hr2];exact ⟨hb05,rfl⟩):p:=h
theorem z260 (h:p:=by
 rcases hmap.look dG x7 (fi wr) hkey false with ⟨h2,_⟩ | ⟨v,h2,h3⟩
 ·exact absurd rfl (h2 _ (uf hh))
 ·rw [ug h2] at h3;exact h3):p:=h
theorem z261 (h:p:=by
 obtain ⟨b2,o2,e2,_,hc⟩:=(d8 ho9).at_ (by omega);rw [e] at e2;injection e2 with e2;injection e2 with e3 e4;rw [e3,e4];exact hc _ _ (Kw hx)):p:=h
theorem z262 (h:p:=by unfold Hid;rw [HF,ki,if_neg (by rw [hs];decide)]):p:=h
theorem z263 (h:p:=by
 gi_wp2;rw [HF];exact qA hD4 ht4 hY4 _ (by rfl)):p:=h
theorem z264 (h:p:=by
 rcases i8.1 hx with rfl | hx
 ·decide
 ·rcases i8.1 hx with rfl | hx
  ·decide
  ·rcases sX _ _ hx with h | h<;>omega):p:=h
theorem z265 (h:p:=by
 have hfin:Hid (aL b i=(n,m)):=by
  unfold Hid aL;rw [<-hbst];congr 1;omega
 go_wp2_with fail;go_ret2;rw [hfin];exact ⟨rfl,q,hwr.out⟩):p:=h
theorem z266 (h:p:=by
 rcases hmap.look dG x7 (fi wr) hkey false with ⟨h2,h3⟩ | ⟨v,h2,h3⟩
 ·exact h3
 ·exact absurd rfl (jI hh _ h2)):p:=h
theorem z267 (h:p:=by have h5:=hp.1;have h4:=aJ 8 rs.length (by omega);rw [<-h,b7,ew,bH,b7,vD,b7];omega):p:=h
theorem z268 (h:p:=by
 have HK:Hid (k=l):=qI (by omega);go_wp2_with fail;go_ret3;rw [zT (by have:=HP.out;rwa [HK] at this)];exact ⟨rfl,bR _ _⟩):p:=h
theorem z269 (h:p:=by rw [e1,b7];have:=aJ 8 (aj (2*((n:Int)-1)+1)) (by have:=eE (2*((n:Int)-1)+1);unfold av at this;omega);omega):p:=h
theorem z270 (h:p:=by go_wp2_with (go_at_call 334;refine (fI tree _ HI _).mono ?_;rintro e w' ⟨rfl,rfl⟩);go_ret;rw [HF];exact ⟨rfl,hbel⟩):p:=h
theorem z271 (h:p:=by have:=nk HP.out hlt (by omega) (by rw [<-HX];exact hx128) (by rw [<-HX];exact hxk);rwa [<-hm',if_pos HM.out] at this):p:=h
theorem z272 (h:p:=by
 rw [hq] at e;unfold aK at e;split at e
 ·injection e with e;cases e
 ·rename_i h9;exact Decidable.of_not_not h9):p:=h
theorem z273 (h:p:=by unfold bi;refine qF fun e=> ?_;have:=hz 126 (List.mem_of_getLast? e);have e2:(126:UInt8).toNat=126:=rfl;omega):p:=h
theorem z274 (h:p:=by
 go_wp2_with fail;go_end0;exact ⟨v,l2,b2,rfl,hs,qI (jL t1.out (hT.out.done (.inl (by omega)))),hb,hv1,hv3⟩):p:=h
theorem z275 (h:p:=by
 subst h0;subst hn;go_in;go_wp2_with fail;go_ret;exact ⟨out,A,c,by simp [Hid,aH],rfl,hr,bR _ _,hc,hc2,hN⟩):p:=h
theorem z276 (h:p:=by unfold Hid;rw [HR];unfold aK;rw [if_neg (by rw [h32];simp),hl];simp only;rw [<-hbq,hop];simp only;rw [hp]):p:=h
theorem z277 (h:p:=by
 subst h0;subst hn;go_in;go_wp2_with fail;go_ret;exact ⟨out,A,c,by simp [Hid,aH],rfl,hr,bR _ _,hc,hc2⟩):p:=h
theorem z278 (h:p:=by unfold Hid aA;rw [e1,List.nil_append,ml (by omega)]):p:=h
theorem z279 (h:p:=by refine beq_eq_false_iff_ne.2 fun e=>h (fD ?_);rw [t8,t8] at e;exact e):p:=h
theorem z280 (h:p:=by have h7:=uz h3;have h8:=aC o.tree;unfold bG at h4;unfold gj;simp only [b7];omega):p:=h
theorem z281 (h:p:=by refine (BY h more _ hr.1 hr.2).mono ?_;rintro e w1 ⟨rfl,rfl⟩;exact ⟨rfl,h,Tw.refl _ _ _⟩):p:=h
theorem z282 (h:p:=by rw [if_neg (by rw [if_neg (by rw [hs];decide),if_neg (by rw [h.dark];decide),hl];simp),qC h]):p:=h
theorem z283 (h:p:=by
 rw [EM];have hdd:(dd==[1])=decide (dd=[1]):=by by_cases h:dd=[1]<;>simp [h]
 rw [hdd];rfl):p:=h
theorem z284 (h:p:=by unfold Hid;rw [<-heq,p9 (by omega),List.map_nil,dI,List.append_nil]):p:=h
theorem z285 (h:p:=by rw [s9,s9,dW,dx,i9 (by simp)] at this;exact this):p:=h
theorem z286 (h:p:=by have:=zU HP.out hlt (by omega) (by rw [<-HX];exact hx128);rwa [<-hm',<-HX] at this):p:=h
theorem z287 (h:p:=by exact PF hcut (ae (gR _ _) _ _) (fun g' hg' e=>kr hb4 hcut (by rw [hg',e]))):p:=h
theorem z288 (h:p:=by
 have hdl:Hid ((q2.drop (y+1)).length=q2-(y+1)):=by unfold Hid;simp
 by_cases hcc:c2=y+1
 ·rw [if_pos hcc] at htl;have HCC:=qI hcc;go_wp2_with fail;rw [<-hdl] at htl ⊢;have hz:c2-(y+1)=0:=by have:=HCC.out;omega
  rw [hz] at htl;refine ⟨⟨q2.drop (y+1),o3,A2,Ao3,0,co3,rfl,rfl,hr3,by rw [ho3l];omega,by rw [hdl];omega,htl,ho3,hap3.piece (by omega) rfl,hbel3⟩,?_⟩;show (q2.drop (y+1)).length<p;rw [hdl];omega
 ·rw [if_neg hcc,yc] at htl;go_wp2_with fail;rw [<-hdl] at htl ⊢;refine ⟨⟨q2.drop (y+1),o3,_,Ao3,c2-(y+1),co3,rfl,rfl,hr3,by rw [ho3l];omega,by rw [hdl];omega,htl,ho3,hap3.piece (by omega) (by rw [<-yc,jZ]),hbel3⟩,?_⟩;show (q2.drop (y+1)).length<p;rw [hdl];omega):p:=h
theorem z289 (h:p:=by go_wp2_with fail;go_still_tail 11,qkR;change wpList _ _ _ _ _ (World.drew wr);go_wp2_with fail;refine (ww g _ 2 _ _ _ (World.drew wr) hblk.drew).mono ?_;rintro e w4 ⟨rfl,hb4,hg4⟩;go_wp2_with fail;go_ret2;rw [hnone];exact ⟨rfl,by rw [<-HG];exact hbel.drew.trans (ak hg4 (lR _) hbase)⟩):p:=h
theorem z290 (h:p:=by have hf0:=hf w2 rfl;clear hf HT;go_wp2_with ((go_at_call 107;refine (oa hD2 _ A2 (os++[n]) _ c2 HL.out hr2 (by simp;omega)).mono ?_;rw [<-HR,hr0];rintro e w' ⟨rfl,rfl⟩));go_ret;rw [HT2];exact ⟨rfl,hb02,hD2⟩):p:=h
theorem z291 (h:p:=by have hq:=beq_eq_false_iff_ne.2 h0;clear ht h0;go_in;go_wp2_with ((go_at_call 196;refine HT.mono ?_;rintro e w1 ⟨nq,rfl,rfl⟩));go_ret;rw [HF];exact ⟨rfl,h.drewN nq,ax ((bR _ _).drewN' nq) _⟩):p:=h
theorem z292 (h:p:=by go_wp2_with fail;go_quiet (fail);go_wp2_with fail;go_ret2;rw [hnone];exact ⟨rfl,by rw [<-HG];exact hbel.drewN' nq⟩):p:=h
theorem qO {p : Prop} (h : p := by omega) : p := h
