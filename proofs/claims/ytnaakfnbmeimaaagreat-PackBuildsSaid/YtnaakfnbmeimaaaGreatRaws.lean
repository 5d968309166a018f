/- The walk of the law's raws: the bytes of objects that may be, and of rows of bytes. Conditions: at most 2^47 of each. -/
import Derived.Test.YtnaakfnbmeimaaaGreatObjD
import Derived.Test.YtnaakfnbmeimaaaGreatRwb
import Derived.Deep.DeepCutAuto
set_option linter.unusedVariables false
namespace Go.Dol
open Go.RowKit
structure ObA where
 k : Int
 Ad : Option Addr
 d : List UInt8
 cd : Nat
 Ae : Option Addr
 en : List Ent
 ce : Nat
 tr : ByteArray
 Ap : Option Addr
 pa : List ByteArray
 cp : Nat
 ta : ByteArray
 na : ByteArray
 wh : ByteArray
 st : Int
 te : ByteArray
def ObA.o (x : ObA) : Obj:=⟨x.k,x.d,x.en,x.tr,x.pa,x.ta,x.na,x.wh,x.st,x.te⟩
def ObA.cells (x : ObA) : List Value:=[.int .i64 x.k,.slice x.Ad x.d.length x.cd,.slice x.Ae x.en.length x.ce,.string x.tr,.slice x.Ap x.pa.length x.cp,.string x.ta,.string x.na,.string x.wh,.int .i64 x.st,.string x.te]
def oc (l : List ObA) : List Value:=l.flatMap ObA.cells
theorem oc_get : ∀ {l : List ObA} {i : Nat} {x : ObA},l[i]? = some x → ∀ j,j < 10 → (oc l)[i * 10 + j]? = x.cells[j]?
 | [],i,x,h,_,_ => by simp at h
 | y :: l,0,x,h,j,hj => by
  have hx : y = x:=by simpa using h
  subst hx
  rw [oc,List.flatMap_cons,Nat.zero_mul,Nat.zero_add,List.getElem?_append_left (by show j < 10; omega)]
 | y :: l,i + 1,x,h,j,hj => by
  rw [oc,List.flatMap_cons,List.getElem?_append_right (by show 10 ≤ _; omega)]
  have e : (i + 1) * 10 + j - y.cells.length = i * 10 + j:=by show (i + 1) * 10 + j - 10 = _; omega
  rw [e]
  exact oc_get (l:=l) (by simpa using h) j hj
theorem oc_length (l : List ObA) : (oc l).length = l.length * 10:=by
 induction l with
 | nil => rfl
 | cons x l ih => rw [oc,List.flatMap_cons,List.length_append,List.length_cons]; show 10 + (oc l).length = _; rw [ih]; omega
def Obs (w : World) (B : Nat) (l : List ObA) : Prop:=∀ x ∈ l,Rd w B 1 x.Ad x.d.length (bc x.d) ∧ Rd w B 3 x.Ae x.en.length (ec x.en) ∧ Rd w B 1 x.Ap x.pa.length (pc x.pa) ∧ x.en.length ≤ 140737488355328 ∧ x.pa.length ≤ 140737488355328 ∧ Hid (∀ e ∈ x.en,e.name.size ≤ maxLen)
theorem Obs.below {w w' : World} {B : Nat} {l : List ObA} (h : Obs w B l) (hb : Below B w w') : Obs w' B l:=fun x hx => by
 obtain ⟨h1,h2,h3,h4⟩:=h x hx
 exact ⟨h1.below hb,h2.below hb,h3.below hb,h4⟩
def encIf (ge : ByteArray → ByteArray → Bool) (o : Obj) : List (List UInt8):=if checkB ge o = true then [encO o] else []
def rawsL (ge : ByteArray → ByteArray → Bool) (os : List Obj) (more : List (List UInt8)) : List (List UInt8):=(os.take 40).flatMap (encIf ge) ++ more.take 4
end Go.Dol
namespace Go.Proofs.YtnaakfnbmeimaaaGreat
open Go.RowKit Go.Dol
theorem info_rw : (Tryz.prog.info? 25).map (fun i => (i.zero,i.size,i.bytes)) = some (some (.slice none 0 0),1,24):=by kernel_rfl
def FarS (w : World) (B : Nat) (l : List RowB) : Prop:=∀ y ∈ l,Far w B y.A y.l ∧ y.l.length ≤ y.c ∧ y.c ≤ maxLen
theorem FarS.keep {w w' : World} {B : Nat} {l : List RowB} (h : FarS w B l) {row : Option Nat} (hg : w.grownBy w' row) (hr : Other w B row) : FarS w' B l:=fun y hy => ⟨(h y hy).1.keep hg hr,(h y hy).2⟩
theorem FarS.below {w w' : World} {B : Nat} {l : List RowB} (h : FarS w B l) (hb : Below w.heap.size w w') : FarS w' B l:=fun y hy => ⟨(h y hy).1.below hb,(h y hy).2⟩
theorem FarS.rws {w : World} {B : Nat} {l : List RowB} (h : FarS w B l) : Rws w w.heap.size l:=fun y hy => ⟨(h y hy).1.1,(h y hy).2⟩
theorem FarS.snoc {w : World} {B : Nat} {l : List RowB} {y : RowB} (h : FarS w B l) (h1 : Far w B y.A y.l) (h2 : y.l.length ≤ y.c) (h3 : y.c ≤ maxLen) : FarS w B (l ++ [y]):=fun z hz => by
 rcases List.mem_append.1 hz with hz | hz
 ·exact h z hz
 ·obtain rfl:=List.mem_singleton.1 hz
  exact ⟨h1,h2,h3⟩
def RetRaws (w : World) (q : List (List UInt8)) (e : Ending) (w' : World) : Prop :=
 ∃ (ys : List RowB) (A : Option Addr) (c : Nat),Hid (ys.map (·.l) = q) ∧ e = .returned (.slice A ys.length c) ∧ w'.ownsRow w.heap.size 25 1 (.slice A ys.length c) ys.length (rc ys) ∧ FarS w' w.heap.size ys ∧ Below w.heap.size w w' ∧ ys.length ≤ 44
def RawEncRel (l : List ObA) (w : World) (o i : Value) (wr : World) : Prop :=
 ∃ (k : Nat) (ys : List RowB) (A : Option Addr) (c : Nat),i = .int .i64 k ∧ k ≤ l.length ∧ k ≤ 40 ∧ o = .slice A ys.length c ∧ ys.length ≤ k ∧ wr.ownsRow w.heap.size 25 1 (.slice A ys.length c) ys.length (rc ys) ∧ FarS wr w.heap.size ys ∧
  Hid (ys.map (·.l) = ((l.take k).map ObA.o).flatMap (encIf geS)) ∧ Below w.heap.size w wr
def RawMoreRel (q : List (List UInt8)) (n : Nat) (ms : List RowB) (w : World) (o i : Value) (wr : World) : Prop :=
 ∃ (k : Nat) (ys : List RowB) (A : Option Addr) (c : Nat),i = .int .i64 k ∧ k ≤ ms.length ∧ k ≤ 4 ∧ o = .slice A ys.length c ∧ ys.length ≤ n + k ∧ wr.ownsRow w.heap.size 25 1 (.slice A ys.length c) ys.length (rc ys) ∧ FarS wr w.heap.size ys ∧
  Hid (ys.map (·.l) = q ++ (ms.take k).map (·.l)) ∧ Below w.heap.size w wr
theorem take_succ_map {α β : Type} (f : α → β) {l : List α} {k : Nat} {x : α} (h : l[k]? = some x) : (l.take (k + 1)).map f = (l.take k).map f ++ [f x]:=by
 obtain ⟨hk,e⟩:=List.getElem?_eq_some_iff.1 h
 rw [List.take_succ_eq_append_getElem hk,List.map_append,e]
 rfl
set_option maxRecDepth 100000 in
set_option maxHeartbeats 6400000 in
theorem raws_calls (A : Option Addr) (l : List ObA) (c : Nat) (Am : Option Addr) (ms : List RowB) (cm : Nat) (w : World) (hr : Rd w w.heap.size 10 A l.length (oc l)) (hos : Obs w w.heap.size l) (hl : l.length ≤ 140737488351232) (hrm : Rd w w.heap.size 1 Am ms.length (rc ms)) (hms : Rws w w.heap.size ms) (hml : ms.length ≤ 140737488351232) :
  Calls Tryz.prog 12 #[.slice A l.length c,.slice Am ms.length cm] w (RetRaws w (rawsL geS (l.map ObA.o) (ms.map (·.l)))):=by
 go_enter Tryz.func12,Tryz.ntmps12
 go_wp2_with fail
 go_loopw [5,6] (fun o i wr => RawEncRel l w o i wr) (fun _ i _ => l.length - (intOf i).toNat)
 case atStart => exact ⟨0,[],none,0,rfl,Nat.zero_le _,Nat.zero_le _,rfl,Nat.zero_le _,World.ownsRow_nil _ _ _ _,(fun y hy => (List.not_mem_nil hy).elim),rfl,Below.refl _ _⟩
 case round =>
  obtain ⟨k,ys,A1,c1,rfl,hk,hk40,rfl,hyl,hown,hfar,hys,hbel⟩:=hrel
  have hs:=hbel.size
  have f1 : IntKind.i64.wrap ((k : Int) + 1) = (k : Int) + 1:=IntWalk.i64_in _ (by omega)
  by_cases h1 : k < l.length ∧ k < 40
  ·obtain ⟨h1,h2⟩:=h1
   have d1 : decide ((k : Int) < (l.length : Int)) = true:=decide_eq_true (by omega)
   have d1' : (k : Int) < (l.length : Int):=by omega
   have d2 : decide ((k : Int) < 40) = true:=decide_eq_true (by omega)
   have d2' : (k : Int) < 40:=by omega
   have hk0 : (0 : Int) ≤ (k : Int):=by omega
   obtain ⟨x,hx⟩ : ∃ x,l[k]? = some x:=⟨l[k],List.getElem?_eq_getElem h1⟩
   obtain ⟨bb,off,rfl,hbb,hcell⟩:=(hr.below hbel).at_ (by omega)
   obtain ⟨x1,x2,x3,x4,x5,x6⟩:=hos x (List.mem_of_getElem? hx)
   have q0 : wr.cell? ⟨bb,off + k * 10,none⟩ = some (.int .i64 x.k):=hcell (k * 10 + 0) _ (oc_get hx 0 (by omega))
   have q1 : wr.cell? ⟨bb,off + k * 10 + 1,none⟩ = some (.slice x.Ad x.d.length x.cd):=hcell (k * 10 + 1) _ (oc_get hx 1 (by omega))
   have q2 : wr.cell? ⟨bb,off + k * 10 + 2,none⟩ = some (.slice x.Ae x.en.length x.ce):=hcell (k * 10 + 2) _ (oc_get hx 2 (by omega))
   have q3 : wr.cell? ⟨bb,off + k * 10 + 3,none⟩ = some (.string x.tr):=hcell (k * 10 + 3) _ (oc_get hx 3 (by omega))
   have q4 : wr.cell? ⟨bb,off + k * 10 + 4,none⟩ = some (.slice x.Ap x.pa.length x.cp):=hcell (k * 10 + 4) _ (oc_get hx 4 (by omega))
   have q5 : wr.cell? ⟨bb,off + k * 10 + 5,none⟩ = some (.string x.ta):=hcell (k * 10 + 5) _ (oc_get hx 5 (by omega))
   have q6 : wr.cell? ⟨bb,off + k * 10 + 6,none⟩ = some (.string x.na):=hcell (k * 10 + 6) _ (oc_get hx 6 (by omega))
   have q7 : wr.cell? ⟨bb,off + k * 10 + 7,none⟩ = some (.string x.wh):=hcell (k * 10 + 7) _ (oc_get hx 7 (by omega))
   have q8 : wr.cell? ⟨bb,off + k * 10 + 8,none⟩ = some (.int .i64 x.st):=hcell (k * 10 + 8) _ (oc_get hx 8 (by omega))
   have q9 : wr.cell? ⟨bb,off + k * 10 + 9,none⟩ = some (.string x.te):=hcell (k * 10 + 9) _ (oc_get hx 9 (by omega))
   have hE:=refEncode_calls x.k x.Ad x.d x.cd x.Ae x.en x.ce x.tr x.Ap x.pa x.cp x.ta x.na x.wh x.st x.te wr ((x1.below hbel).more hs) ((x2.below hbel).more hs) ((x3.below hbel).more hs) x4 x5 x6
   have HE:=Lib.hid hE
   have HX:=Lib.hid hx
   clear hE hcell hx x1 x2 x3 x4 x5 x6
   go_wp2_with fail
   refine HE.out.mono ?_
   rintro e w4 ⟨hb4,⟨hc,l2,A2,c2,el,rfl,ho⟩ | ⟨hc,rfl⟩⟩
   ·have hs4:=hb4.size
    have hol:=own_le ho
    have hbel4:=hbel.next hb4
    have hys2 : Hid ((ys ++ [⟨l2,A2,c2⟩] : List RowB).map (·.l) = ((l.take (k + 1)).map ObA.o).flatMap (encIf geS)):=by
     unfold Hid
     rw [take_succ_map ObA.o HX.out,List.flatMap_append,← hys.out,List.map_append]
     have h9 : encIf geS x.o = [l2]:=by unfold encIf; rw [show checkB geS x.o = true from hc,if_pos rfl,el.out]; rfl
     simp [h9]
    have hown4:=own_belowW hown hb4
    have hfar4:=hfar.below hb4
    have hseg : Far w4 w.heap.size A2 l2:=Far.of_seg (Seg.of_own ho)
    have hO : Other (w4.alloc (.cells #[.slice A2 l2.length c2] 25)) w.heap.size (Value.slice A1 ys.length c1).ownBlock:=Other.own (hown4.alloc _) (by decide) (Nat.le_refl _)
    have hb45 : Below w4.heap.size w4 (w4.alloc (.cells #[.slice A2 l2.length c2] 25)):=(Below.refl _ _).alloc (Nat.le_refl _) _
    clear hc el ho hys hown hfar HE
    go_wp2_with (at_builtin; refine appVl rfl (.tmp 30) (.tmp 32) 23 25 _ 24 rfl Tryz.underlying23 info_rw rfl w.heap.size _ ys.length (rc ys) rfl (hown4.alloc _) (w4.heap.size + 1) _ 1 1 [.slice A2 l2.length c2] rfl (Rd.new1 w4 _ _) (by intro u hu; obtain rfl:=List.mem_singleton.1 hu; rfl) (by unfold maxLen; omega) (by omega) (by simp; omega) ?_; intro A5 c5 w5 hown5 hb5 hg5 i5 i6)
    have hfar5 : FarS w5 w.heap.size (ys ++ [⟨l2,A2,c2⟩]):=((hfar4.snoc (y:=⟨l2,A2,c2⟩) hseg hol.1 hol.2).below hb45).keep hg5 hO
    have e5 : (ys ++ [⟨l2,A2,c2⟩] : List RowB).length = ys.length + 1:=by simp
    have ec5 : rc ys ++ [.slice A2 l2.length c2] = rc (ys ++ [⟨l2,A2,c2⟩]):=by rw [rc_app]; rfl
    rw [ec5] at hown5
    refine ⟨⟨k + 1,ys ++ [⟨l2,A2,c2⟩],A5,c5,by go_num,by omega,by omega,by rw [e5],by rw [e5]; omega,by rw [e5]; exact hown5,hfar5,hys2,(hbel4.trans (hb45.mono hbel4.size)).trans hb5⟩,by simp [intOf]; omega⟩
   ·have hys2 : Hid (ys.map (·.l) = ((l.take (k + 1)).map ObA.o).flatMap (encIf geS)):=by
     unfold Hid
     rw [take_succ_map ObA.o HX.out,List.flatMap_append,← hys.out]
     have h9 : encIf geS x.o = []:=by unfold encIf; rw [show checkB geS x.o = false from hc]; rfl
     simp [h9]
    have hown4:=own_belowW hown hb4
    have hfar4:=hfar.below hb4
    clear hc hys hown hfar HE
    go_wp2_with fail
    exact ⟨⟨k + 1,ys,A1,c1,by go_num,by omega,by omega,rfl,by omega,hown4,hfar4,hys2,hbel.next hb4⟩,by simp [intOf]; omega⟩
  ·have hq : Hid (ys.map (·.l) = ((l.map ObA.o).take 40).flatMap (encIf geS)):=by
    unfold Hid
    rw [hys.out,← List.map_take]
    congr 2
    rcases (by omega : k = l.length ∨ k = 40) with e | e
    ·rw [e,List.take_length,List.take_of_length_le (by omega)]
    ·rw [e]
   have hy40 : ys.length ≤ 40:=by omega
   obtain ⟨q,hqe⟩ : ∃ q,q = ((l.map ObA.o).take 40).flatMap (encIf geS):=⟨_,rfl⟩
   have hq1 : ys.map (·.l) = q:=by rw [hqe]; exact hq.out
   have HQ:=Lib.hid hqe
   have hst : RawMoreRel q 40 ms w (.slice A1 ys.length c1) (.int .i64 0) wr:=⟨0,ys,A1,c1,rfl,Nat.zero_le _,Nat.zero_le _,rfl,by omega,hown,hfar,by unfold Hid; rw [hq1]; simp,hbel⟩
   have HST:=Lib.hid hst
   have hfin : ¬ ((k : Int) < (l.length : Int) ∧ (k : Int) < 40):=fun h => h1 ⟨by omega,by omega⟩
   clear hst hown hfar hq hqe hq1 hys
   go_upto_region 3 with (fail)
   go_cut [17] (fun v wx => v = .bool false ∧ wx = wr)
   case first =>
    by_cases hkl : k < l.length
    ·have d1 : decide ((k : Int) < (l.length : Int)) = true:=decide_eq_true (by omega)
     have d1' : (k : Int) < (l.length : Int):=by omega
     have d2 : decide ((k : Int) < 40) = false:=decide_eq_false (by omega)
     have d2' : ¬ (k : Int) < 40:=by omega
     clear hfin h1
     go_wp2_with fail
     go_meet
     exact ⟨rfl,rfl⟩
    ·have d1 : decide ((k : Int) < (l.length : Int)) = false:=decide_eq_false (by omega)
     have d1' : ¬ (k : Int) < (l.length : Int):=by omega
     clear hfin h1
     go_wp2_with fail
     go_meet
     exact ⟨rfl,rfl⟩
   case rest =>
   obtain ⟨rfl,hwx⟩:=hcut
   subst hwx
   clear hfin h1 f1 hk hk40 hyl hbel
   go_wp2_with fail
   go_loopw [5,9] (fun o i wr => RawMoreRel q 40 ms w o i wr) (fun _ i _ => ms.length - (intOf i).toNat)
   case atStart => exact HST.out
   case round =>
    clear HST
    obtain ⟨k,ys,A1,c1,rfl,hk,hk4,rfl,hyl,hown,hfar,hys,hbel⟩:=hrel
    have hs:=hbel.size
    have f1 : IntKind.i64.wrap ((k : Int) + 1) = (k : Int) + 1:=IntWalk.i64_in _ (by omega)
    by_cases h1 : k < ms.length ∧ k < 4
    ·obtain ⟨h1,h2⟩:=h1
     have d1 : decide ((k : Int) < (ms.length : Int)) = true:=decide_eq_true (by omega)
     have d1' : (k : Int) < (ms.length : Int):=by omega
     have d2 : decide ((k : Int) < 4) = true:=decide_eq_true (by omega)
     have d2' : (k : Int) < 4:=by omega
     have hk0 : (0 : Int) ≤ (k : Int):=by omega
     obtain ⟨x,hx⟩ : ∃ x,ms[k]? = some x:=⟨ms[k],List.getElem?_eq_getElem h1⟩
     obtain ⟨bb,off,rfl,hbb,hcell⟩:=(hrm.below hbel).at_ (by omega)
     have q0:=hcell k _ (rc_get hx)
     obtain ⟨x1,x2,x3⟩:=hms x (List.mem_of_getElem? hx)
     have hys2 : Hid ((ys ++ [x]).map (·.l) = q ++ (ms.take (k + 1)).map (·.l)):=by
      unfold Hid
      rw [take_succ_map (·.l) hx,List.map_append,hys.out,List.append_assoc]
      rfl
     have hxf : Far wr w.heap.size x.A x.l:=Far.of_rd (x1.below hbel) hs
     have hO : Other (wr.alloc (.cells #[.slice x.A x.l.length x.c] 25)) w.heap.size (Value.slice A1 ys.length c1).ownBlock:=Other.own (hown.alloc _) (by decide) (Nat.le_refl _)
     have hb45 : Below wr.heap.size wr (wr.alloc (.cells #[.slice x.A x.l.length x.c] 25)):=(Below.refl _ _).alloc (Nat.le_refl _) _
     clear hcell hx x1 hys
     go_wp2_with (at_builtin; refine appVl rfl (.tmp 44) (.tmp 49) 23 25 _ 24 rfl Tryz.underlying23 info_rw rfl w.heap.size _ ys.length (rc ys) rfl (hown.alloc _) (wr.heap.size + 1) _ 1 1 [.slice x.A x.l.length x.c] rfl (Rd.new1 wr _ _) (by intro u hu; obtain rfl:=List.mem_singleton.1 hu; rfl) (by unfold maxLen; omega) (by omega) (by simp; omega) ?_; intro A5 c5 w5 hown5 hb5 hg5 i5 i6)
     have hfar5 : FarS w5 w.heap.size (ys ++ [x]):=((hfar.snoc hxf x2 x3).below hb45).keep hg5 hO
     have e5 : (ys ++ [x] : List RowB).length = ys.length + 1:=by simp
     have ec5 : rc ys ++ [.slice x.A x.l.length x.c] = rc (ys ++ [x]):=by rw [rc_app]; rfl
     rw [ec5] at hown5
     refine ⟨⟨k + 1,ys ++ [x],A5,c5,by go_num,by omega,by omega,by rw [e5],by rw [e5]; omega,by rw [e5]; exact hown5,hfar5,hys2,(hbel.trans (hb45.mono hs)).trans hb5⟩,by simp [intOf]; omega⟩
    ·have hfin2 : Hid (ys.map (·.l) = rawsL geS (l.map ObA.o) (ms.map (·.l))):=by
      unfold Hid rawsL
      rw [hys.out,HQ.out,← List.map_take]
      congr 1
      rw [← List.map_take]
      congr 1
      rcases (by omega : k = ms.length ∨ k = 4) with e | e
      ·rw [e,List.take_length,List.take_of_length_le (by omega)]
      ·rw [e]
     by_cases hkl : k < ms.length
     ·have d1 : decide ((k : Int) < (ms.length : Int)) = true:=decide_eq_true (by omega)
      have d1' : (k : Int) < (ms.length : Int):=by omega
      have d2 : decide ((k : Int) < 4) = false:=decide_eq_false (by omega)
      have d2' : ¬ (k : Int) < 4:=by omega
      clear h1 hys
      go_wp2_with fail
      go_ret
      exact ⟨ys,A1,c1,hfin2,rfl,hown,hfar,hbel,by omega⟩
     ·have d1 : decide ((k : Int) < (ms.length : Int)) = false:=decide_eq_false (by omega)
      have d1' : ¬ (k : Int) < (ms.length : Int):=by omega
      clear h1 hys
      go_wp2_with fail
      go_ret
      exact ⟨ys,A1,c1,hfin2,rfl,hown,hfar,hbel,by omega⟩
end Go.Proofs.YtnaakfnbmeimaaaGreat
