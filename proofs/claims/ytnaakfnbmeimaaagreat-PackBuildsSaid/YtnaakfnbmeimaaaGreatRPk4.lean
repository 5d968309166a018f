/- The walk of the document's Build. Conditions: at most 2^40 rows of bytes, each of at most 2^47 - 4096. -/
import Derived.Test.YtnaakfnbmeimaaaGreatRPk3
import Derived.Test.YtnaakfnbmeimaaaGreatRefNew
import Derived.Test.YtnaakfnbmeimaaaGreatPckBuild
import Derived.BigQuiet
import Derived.Deep.DeepCutAuto
import Derived.Test.YtnaakfnbmeimaaaGreatShort
set_option linter.unusedVariables false
namespace Go.Dol
open Go.RowKit
def mkP0 (y : RowB) : PtA:=⟨⟨sumOf y.l,0,0,0,y.l⟩,y.A,y.c⟩
theorem nextD_no {d k : Nat} (h : k ≤ 1) : nextD d k = 0:=by unfold nextD; rw [if_neg (by omega)]
theorem keepL_no {prev raw : List UInt8} {d : Nat} (h : mayTell prev d raw ≠ true) : keepL prev d raw = keep1 raw:=by unfold keepL; rw [if_neg (fun h2 => h h2.1)]
theorem heads_is {a b : List UInt8} (ha : 0 < a.length) (hb : 0 < b.length) : (b[0]'hb).toNat = (a[0]'ha).toNat ↔ a.head? = b.head?:=by
 cases a with
 | nil => cases ha
 | cons x a =>
  cases b with
  | nil => cases hb
  | cons y b =>
   simp only [List.getElem_cons_zero,List.head?_cons,Option.some.injEq]
   exact ⟨fun h => (UInt8.toNat_inj.1 h).symm,fun h => by rw [h]⟩
theorem set_get {l : List PtA} {k : Nat} {x : PtA} (h : l[k]? = some x) (x' : PtA) : (l.set k x')[k]? = some x':=by
 obtain ⟨hk,_⟩:=List.getElem?_eq_some_iff.1 h
 rw [List.getElem?_set_self hk]
theorem rpc_set {j : Nat} (hj : j < 5) : ∀ {l : List PtA} {k : Nat} {x x' : PtA} {u : Value},l[k]? = some x → x'.rcells = x.rcells.set j u → (rpc l).set (k * 5 + j) u = rpc (l.set k x')
 | [],k,x,x',u,h,_ => by simp at h
 | y :: l,0,x,x',u,h,e => by
  obtain rfl : y = x:=by simpa using h
  rw [rpc,List.flatMap_cons,Nat.zero_mul,Nat.zero_add,List.set_append_left _ _ (by show j < 5; exact hj),← e]
  rfl
 | y :: l,k + 1,x,x',u,h,e => by
  rw [rpc,List.flatMap_cons,List.set_append_right _ _ (by show 5 ≤ _; omega)]
  have e2 : (k + 1) * 5 + j - y.rcells.length = k * 5 + j:=by show (k + 1) * 5 + j - 5 = _; omega
  rw [e2]
  have:=rpc_set hj (l:=l) (k:=k) (x:=x) (x':=x') (u:=u) (by simpa using h) e
  unfold rpc at this
  rw [this]
  rfl
structure BPre (ys : List RowB) (ls : List PtA) (k : Nat) (pv : List UInt8) (d : Nat) : Prop where
 len : ls.length = ys.length
 all : ∀ (j : Nat) (y : RowB),ys[j]? = some y → ∃ x,ls[j]? = some x ∧ x.p.id = sumOf y.l ∧ x.p.raw = y.l ∧ x.A = y.A ∧ x.c = y.c ∧ (k < j → x.p.kind = 0 ∧ x.p.depth = 0)
 zero : k = 0 → pv = [] ∧ d = 0
 last : ∀ j,k = j + 1 → ∃ y x,ys[j]? = some y ∧ ls[j]? = some x ∧ pv = y.l ∧ x.p.depth = d
def BInv (ys : List RowB) (ls : List PtA) (k : Nat) (pv : List UInt8) (d : Nat) : Prop:=BPre ys ls k pv d ∧ ∀ x,ls[k]? = some x → x.p.kind = 0 ∧ x.p.depth = 0
section
variable {ys : List RowB} {ls : List PtA} {k : Nat} {pv : List UInt8} {d : Nat}
theorem BPre.prev (h : BPre ys ls k pv d) : (k = 0 ∧ pv = [] ∧ d = 0) ∨ ∃ j yp xp,k = j + 1 ∧ ys[j]? = some yp ∧ ls[j]? = some xp ∧ pv = yp.l ∧ Value.slice xp.A xp.p.raw.length xp.c = .slice yp.A yp.l.length yp.c ∧ True ∧ Value.int .i64 (xp.p.depth : Nat) = .int .i64 (d : Int):=by
 cases k with
 | zero => exact .inl ⟨rfl,h.zero rfl⟩
 | succ j =>
  obtain ⟨y,x,hy,hx,e1,e2⟩:=h.last j rfl
  obtain ⟨x',hx',_,e3,e4,e5,_⟩:=h.all j y hy
  rw [hx] at hx'
  obtain rfl:=Option.some.inj hx'
  exact .inr ⟨j,y,x,rfl,hy,hx,e1,by rw [e3,e4,e5],trivial,by rw [e2]⟩
theorem BPre.next (h : BPre ys ls k pv d) {y : RowB} {x : PtA} {d' : Nat} (hy : ys[k]? = some y) (hx : ls[k]? = some x) (hd : x.p.depth = d') : BInv ys ls (k + 1) y.l d':=by
 refine ⟨⟨h.len,fun j z hz => ?_,fun e => (by omega),fun j e => ?_⟩,fun z hz => ?_⟩
 ·obtain ⟨x',h1,h2,h3,h4,h5,h6⟩:=h.all j z hz
  exact ⟨x',h1,h2,h3,h4,h5,fun hj => h6 (by omega)⟩
 ·obtain rfl : k = j:=by omega
  exact ⟨y,x,hy,hx,rfl,hd⟩
 ·have hl:=(List.getElem?_eq_some_iff.1 hz).1
  have hl2:=h.len
  obtain ⟨x',h1,_,_,_,_,h6⟩:=h.all (k + 1) ys[k + 1] (List.getElem?_eq_getElem (by omega))
  rw [hz] at h1
  obtain rfl:=Option.some.inj h1
  exact h6 (by omega)
theorem BPre.set (h : BPre ys ls k pv d) {x x' : PtA} (hx : ls[k]? = some x) (e : x'.p.id = x.p.id ∧ x'.p.raw = x.p.raw ∧ x'.A = x.A ∧ x'.c = x.c) : BPre ys (ls.set k x') k pv d:=by
 obtain ⟨e1,e2,e3,e4⟩:=e
 refine ⟨by rw [List.length_set]; exact h.len,fun j z hz => ?_,h.zero,fun j ej => ?_⟩
 ·obtain ⟨x2,h1,h2,h3,h4,h5,h6⟩:=h.all j z hz
  by_cases hjk : k = j
  ·subst hjk
   rw [hx] at h1
   obtain rfl:=Option.some.inj h1
   exact ⟨x',set_get hx x',by rw [e1,h2],by rw [e2,h3],by rw [e3,h4],by rw [e4,h5],fun hj => by omega⟩
  ·exact ⟨x2,by rw [List.getElem?_set_ne hjk]; exact h1,h2,h3,h4,h5,h6⟩
 ·obtain ⟨y,x2,hy,hx2,h3,h4⟩:=h.last j ej
  exact ⟨y,x2,hy,by rw [List.getElem?_set_ne (by omega)]; exact hx2,h3,h4⟩
end
theorem start_inv (ys : List RowB) : BInv ys (ys.map mkP0) 0 [] 0:=by
 refine ⟨⟨by simp,fun j y hy => ⟨mkP0 y,by simp [hy],rfl,rfl,rfl,rfl,fun _ => ⟨rfl,rfl⟩⟩,fun _ => ⟨rfl,rfl⟩,fun j e => by omega⟩,fun x hx => ?_⟩
 rw [List.getElem?_map,Option.map_eq_some_iff] at hx
 obtain ⟨y,_,rfl⟩:=hx
 exact ⟨rfl,rfl⟩
section
variable {w w' : World} {base : Nat} {e : TypeId} {size n c g : Nat} {xs : List Value}
theorem own_drewN {v : Value} (h : w.ownsRow base e size v n xs) (k : Nat) : (w.drewN k).ownsRow base e size v n xs:=h
theorem own_form2 (h : w.ownsRow base e size (.slice (some ⟨g,0,none⟩) n c) n xs) : ∃ cur,base ≤ g ∧ w.heap[g]? = some (.cells cur e (0,0)) ∧ n ≤ c ∧ c ≤ maxLen ∧ cur.size = c * size ∧ cur.toList.take (n * size) = xs:=by
 rcases h.2 with ⟨h1,_⟩ | ⟨g',cap,cur,h1,h2⟩
 ·injection h1 with h1; cases h1
 ·injection h1 with hA _ hc
  injection hA with hA
  injection hA with hA _ _
  subst hA
  subst hc
  exact ⟨cur,h2⟩
theorem own_lt (h : w.ownsRow base e size (.slice (some ⟨g,0,none⟩) n c) n xs) : g < w.heap.size:=by
 obtain ⟨cur,_,h3,_⟩:=own_form2 h
 exact (Array.getElem?_eq_some_iff.1 h3).1
theorem own_ge (h : w.ownsRow base e size (.slice (some ⟨g,0,none⟩) n c) n xs) : base ≤ g:=by
 obtain ⟨cur,h2,_⟩:=own_form2 h
 exact h2
theorem own_cellN (h : w.ownsRow base e size (.slice (some ⟨g,0,none⟩) n c) n xs) {i : Nat} {u : Value} (hu : xs[i]? = some u) : w.cell? ⟨g,i,none⟩ = some u:=by
 obtain ⟨cur,_,h3,_,_,_,h7⟩:=own_form2 h
 have hB : Blk w g e cur.toList:=by unfold Blk; rw [h3]
 rw [hB.cell,← hu,← h7,List.getElem?_take,if_pos]
 have hi:=(List.getElem?_eq_some_iff.1 hu).1
 rw [← h7,List.length_take] at hi
 omega
theorem own_setN (h : w.ownsRow base e size (.slice (some ⟨g,0,none⟩) n c) n xs) {i : Nat} (hi : i < xs.length) (u : Value) :
  (w.setCell ⟨g,i,none⟩ u).ownsRow base e size (.slice (some ⟨g,0,none⟩) n c) n (xs.set i u) ∧ w.grownBy (w.setCell ⟨g,i,none⟩ u) (some g) ∧ w.frozen? ⟨g,i,none⟩ = false ∧ w.cell? ⟨g,i,none⟩ = xs[i]?:=by
 obtain ⟨cur,h2,h3,h4,h5,h6,h7⟩:=own_form2 h
 have hB : Blk w g e cur.toList:=by unfold Blk; rw [h3]
 have hB2:=hB.set i u
 refine ⟨⟨by rw [List.length_set]; exact h.1,.inr ⟨g,c,(cur.toList.set i u).toArray,rfl,h2,hB2,h4,h5,by simpa using h6,?_⟩⟩,grown_setCell (World.grownBy.refl w _) i u,hB.free i,?_⟩
 ·rw [← h7,List.take_set]
 ·obtain ⟨v,hv⟩ : ∃ v,xs[i]? = some v:=⟨xs[i],List.getElem?_eq_getElem hi⟩
  rw [hv]
  exact own_cellN h hv
theorem own_rows {v : Value} {base2 : Nat} {e2 : TypeId} {size2 m : Nat} {zs : List Value} (h1 : w.ownsRow base2 e2 size2 v m zs) (h2 : w.ownsRow base e size (.slice (some ⟨g,0,none⟩) n c) n xs) (he : e2 ≠ e) : v.ownBlock = none ∨ v.ownBlock ≠ some g:=by
 obtain ⟨cur,_,h3,_⟩:=own_form2 h2
 rcases h1.2 with ⟨rfl,_⟩ | ⟨k2,cap,cur2,rfl,_,hh2,_⟩
 ·exact .inl rfl
 ·refine .inr fun e' => ?_
  have e3 : k2 = g:=by simpa [Value.ownBlock] using e'
  rw [e3,h3] at hh2
  injection hh2 with hh2
  injection hh2 with _ hh2
  exact he hh2.symm
theorem own_atN {A : Option Addr} (h : w.ownsRow base e size (.slice A n c) n xs) (hn : 0 < n) : ∃ g,A = some ⟨g,0,none⟩:=by
 rcases h.2 with ⟨_,h0⟩ | ⟨g,cap,cur,h1,_⟩
 ·omega
 ·injection h1 with hA _ hc
  exact ⟨g,hA⟩
end
end Go.Dol
namespace Go.Proofs.YtnaakfnbmeimaaaGreat
open Go.RowKit Go.Dol
theorem _root_.Go.Dol.Seg.drewQ {w : World} {base : Nat} {e : TypeId} {size : Nat} {A : Option Addr} {n c : Nat} {xs : List Value} (h : Seg w base e size A n c xs) : Seg w.drew base e size A n c xs:=h
theorem own_seg {w w' : World} {base base2 : Nat} {e : TypeId} {size n m c : Nat} {v : Value} {xs ys : List Value} {A : Option Addr} (ho : w.ownsRow base e size v n xs) (hs : Seg w base2 5 1 A m c ys) (he : e ≠ 5) (hg : w.grownBy w' (segRow A c)) : w'.ownsRow base e size v n xs:=by
 refine ho.kept hg ?_
 rcases ho.2 with ⟨rfl,_⟩ | ⟨k2,cap,cur2,rfl,_,hh2,_⟩
 ·exact .inl rfl
 ·refine .inr fun e' => ?_
  have e2 : some k2 = segRow A c:=e'
  unfold segRow at e2
  split at e2
  ·rcases hs.2.2.2 with h4 | ⟨k',off,cur,rfl,_,hh,_⟩
   ·omega
   ·have hk' : k2 = k':=by simpa [segBlock] using e2
    rw [← hk',hh2] at hh
    injection hh with hh
    injection hh with _ hh
    exact he hh
  ·cases e2
theorem appStrSr {w : World} {ops : Array Oper} {o : Oper} {a : Act} {K : Act → World → Prop} {Q : Exit → Act → World → Prop} {E : Prop} (hgd : o.guard = none) (s xo : Operand)
  (ho : o.op = .call { callee:=.builtin .append,args:=#[s,xo],argTypes:=#[25,9] })
  (base : Nat) (A : Option Addr) (n c : Nat) (xs : List UInt8) (hs : a.eval s = .slice A n c) (hseg : Seg w base 5 1 A n c (bc xs))
  (st : List UInt8) (hx : a.eval xo = .string ⟨st.toArray⟩) (hlen : n + st.length ≤ 140737488355328) (hbase : base ≤ w.heap.size)
  (h : ∀ (l' : List UInt8) (A' : Option Addr) (c' : Nat) (w' : World),Hid (l' = xs ++ st) → Seg w' base 5 1 A' l'.length c' (bc l') → Below base w w' → w.grownBy w' (segRow A c) → ((A' = A ∧ c' = c) ∨ segBlock A' = some w.heap.size) →
   K (a.put o.dst (.slice A' l'.length c')) w') : if Region.wanted o (yielded ops a.tmps) = true then Oper.wp Tryz.prog o a w K Q else E:=by
 have hw : Region.wanted o (yielded ops a.tmps) = true:=by simp [Region.wanted,hgd]
 rw [if_pos hw]
 have hsz : (⟨st.toArray⟩ : ByteArray).size = st.length:=by simp [ByteArray.size]
 have hsrc:=Src.ofString (P:=Tryz.prog) (w:=w) Tryz.underlying9 ⟨st.toArray⟩
 rw [hsz,byteCells_bc] at hsrc
 refine wp_append_seg2 w s xo _ _ ho base _ _ 1 1 Tryz.underlying25 info_u8 rfl A n c (bc xs) hs hseg _ st.length (bc st) hx hsrc (by unfold maxLen; omega) (by omega) hbase ?_
 intro A' c' w' h1 h2 h3 _ _
 have e1 : n = xs.length:=by have:=hseg.1; rw [bc_length] at this; omega
 have e : n + st.length = (xs ++ st).length:=by rw [List.length_append]; omega
 rw [← bc_append,e] at h1
 rw [e]
 exact h _ A' c' w' rfl h1 ((Below.refl _ _).grown h2 hbase (fun k hk => (hseg.row k hk).1)) h2 (h3.imp id fun h => h.2)
theorem appBytesSr {w : World} {ops : Array Oper} {o : Oper} {a : Act} {K : Act → World → Prop} {Q : Exit → Act → World → Prop} {E : Prop} (hgd : o.guard = none) (s xo : Operand)
  (ho : o.op = .call { callee:=.builtin .append,args:=#[s,xo],argTypes:=#[25,25] })
  (base : Nat) (A : Option Addr) (n c : Nat) (xs : List UInt8) (hs : a.eval s = .slice A n c) (hseg : Seg w base 5 1 A n c (bc xs))
  (B : Nat) (A2 : Option Addr) (m c2 : Nat) (news : List UInt8) (hx : a.eval xo = .slice A2 m c2) (hr : Rd w B 1 A2 m (bc news))
  (hlen : n + m ≤ 140737488355328) (hbase : base ≤ w.heap.size)
  (h : ∀ (l' : List UInt8) (A' : Option Addr) (c' : Nat) (w' : World),Hid (l' = xs ++ news) → Seg w' base 5 1 A' l'.length c' (bc l') → Below base w w' → w.grownBy w' (segRow A c) → ((A' = A ∧ c' = c) ∨ segBlock A' = some w.heap.size) →
   K (a.put o.dst (.slice A' l'.length c')) w') : if Region.wanted o (yielded ops a.tmps) = true then Oper.wp Tryz.prog o a w K Q else E:=by
 have hw : Region.wanted o (yielded ops a.tmps) = true:=by simp [Region.wanted,hgd]
 rw [if_pos hw]
 refine wp_append_seg2 w s xo _ _ ho base _ _ 1 1 Tryz.underlying25 info_u8 rfl A n c (bc xs) hs hseg _ m (bc news) hx (Src.ofRd Tryz.underlying25 hr (bc_one _)) (by unfold maxLen; omega) (by omega) hbase ?_
 intro A' c' w' h1 h2 h3 _ _
 have e1 : n = xs.length:=by have:=hseg.1; rw [bc_length] at this; omega
 have e2 : m = news.length:=by have:=hr.len; rw [bc_length] at this; omega
 have e : n + m = (xs ++ news).length:=by rw [List.length_append]; omega
 rw [← bc_append,e] at h1
 rw [e]
 exact h _ A' c' w' rfl h1 ((Below.refl _ _).grown h2 hbase (fun k hk => (hseg.row k hk).1)) h2 (h3.imp id fun h => h.2)
def B1Rel (ys : List RowB) (w : World) (l i : Value) (wr : World) : Prop :=
 ∃ (k : Nat) (Al : Option Addr) (cl : Nat),i = .int .i64 k ∧ k ≤ ys.length ∧ l = .slice Al k cl ∧ wr.ownsRow w.heap.size 88 5 (.slice Al k cl) k (rpc ((ys.take k).map mkP0)) ∧ Hid (∀ y ∈ ys.take k,isObjL geS y.l = true) ∧ Below w.heap.size w wr
def B2Rel (ys : List RowB) (Al : Option Addr) (cl : Nat) (w : World) (o i : Value) (wr : World) : Prop :=
 ∃ (k : Nat) (out : List UInt8) (Ao : Option Addr) (co : Nat) (ls : List PtA) (pv : List UInt8) (d : Nat),i = .int .i64 k ∧ k ≤ ys.length ∧ o = .slice Ao out.length co ∧ wr.ownsRow w.heap.size 5 1 (.slice Ao out.length co) out.length (bc out) ∧
  wr.ownsRow w.heap.size 88 5 (.slice Al ys.length cl) ys.length (rpc ls) ∧ Hid (BInv ys ls k pv d) ∧ Hid (out ++ partsL pv d ((ys.drop k).map (·.l)) = bodyL (ys.map (·.l))) ∧ d ≤ 7 ∧ out.length ≤ 100 + k * 2097252 ∧ Below w.heap.size w wr
structure BMid (w wr wx : World) (ys : List RowB) (k g cl : Nat) (out : List UInt8) (Ao : Option Addr) (co : Nat) (pv : List UInt8) (d : Nat) (y : RowB) (sid : List UInt8) (kk : Nat) (b : List UInt8) (A : Option Addr) (ls : List PtA) (x : PtA) : Prop where
 hx : ls[k]? = some x
 L : wx.ownsRow w.heap.size 88 5 (.slice (some ⟨g,0,none⟩) ys.length cl) ys.length (rpc ls)
 own : wx.ownsRow w.heap.size 5 1 (.slice Ao out.length co) out.length (bc out)
 bel : Below w.heap.size w wx
 R : Rd wx wx.heap.size 1 A b.length (bc b)
 AP : 0 < b.length → ∀ j,segBlock A = some j → some j ≠ segRow Ao co
 inv : BPre ys ls k pv d
 id : Value.string (idS x.p.id) = .string ⟨sid.toArray⟩
 kd : x.p.kind = kk
 src : Value.slice x.A x.p.raw.length x.c = .slice y.A y.l.length y.c
 len : b.length ≤ 2097152
 wl : wr.heap.size ≤ wx.heap.size
theorem BMid.drewQ {w wr wx : World} {ys : List RowB} {k g cl : Nat} {out : List UInt8} {Ao : Option Addr} {co : Nat} {pv : List UInt8} {d : Nat} {y : RowB} {sid : List UInt8} {kk : Nat} {b : List UInt8} {A : Option Addr} {ls : List PtA} {x : PtA} (h : BMid w wr wx ys k g cl out Ao co pv d y sid kk b A ls x) (q : Nat) : BMid w wr (wx.drewN q) ys k g cl out Ao co pv d y sid kk b A ls x :=
 ⟨h.hx,own_drewN h.L q,own_drewN h.own q,h.bel.drewN' q,h.R.drewN q,h.AP,h.inv,h.id,h.kd,h.src,h.len,h.wl⟩
theorem rd_lt {w : World} {B n : Nat} {A : Option Addr} {xs : List Value} (h : Rd w B 1 A n xs) (h0 : 0 < n) {j : Nat} (hj : segBlock A = some j) : j < B:=by
 obtain ⟨b0,o0,e0,h9,_⟩:=h.at_ h0
 rw [e0] at hj
 injection hj with hj
 have e9 : b0 = j:=hj
 omega
set_option maxRecDepth 100000 in
set_option maxHeartbeats 6400000 in
theorem refBuild_calls (A : Option Addr) (ys : List RowB) (c : Nat) (w : World) (hr : Rd w w.heap.size 1 A ys.length (rc ys)) (hrs : Rws w w.heap.size ys) (hsz : ∀ x ∈ ys,x.l.length ≤ 140737488351232) :
  Calls Tryz.prog 13 #[.slice A ys.length c] w (RetBuild w (buildL geS (ys.map (·.l)))):=by
 obtain ⟨r,hre⟩ : ∃ r,r = buildL geS (ys.map (·.l)):=⟨_,rfl⟩
 rw [← hre]
 have HR:=Lib.hid hre
 have HSZ:=Lib.hid hsz
 clear hre hsz
 go_enter Tryz.func13,Tryz.ntmps13
 by_cases h4 : ys.length ≤ 4096
 ·have d0 : decide ((4096 : Int) < (ys.length : Int)) = false:=decide_eq_false (by omega)
  have d0' : ¬ (4096 : Int) < (ys.length : Int):=by omega
  go_wp2_with fail
  go_loopw [4,5] (fun l i wr => B1Rel ys w l i wr) (fun _ i _ => ys.length - (intOf i).toNat)
  case atStart => exact ⟨0,none,0,rfl,Nat.zero_le _,rfl,World.ownsRow_nil _ _ _ _,(fun y hy => by simp at hy),Below.refl _ _⟩
  case round =>
   obtain ⟨k,Al,cl,rfl,hk,rfl,hown,hobs,hbel⟩:=hrel
   have hs:=hbel.size
   have f1 : IntKind.i64.wrap ((k : Int) + 1) = (k : Int) + 1:=IntWalk.i64_in _ (by omega)
   by_cases h1 : k < ys.length
   ·have d1 : decide ((k : Int) < (ys.length : Int)) = true:=decide_eq_true (by omega)
    have d1n : decide (k < ys.length) = true:=decide_eq_true h1
    have d1' : (k : Int) < (ys.length : Int):=by omega
    have hk0 : (0 : Int) ≤ (k : Int):=by omega
    obtain ⟨y,hy⟩ : ∃ y,ys[k]? = some y:=⟨ys[k],List.getElem?_eq_getElem h1⟩
    obtain ⟨rb,ro,rfl,hrb,hcr⟩:=hr.at_ (by omega)
    have hym:=List.mem_of_getElem? hy
    obtain ⟨hyr,hyc,hycm⟩:=hrs y hym
    have hyl:=HSZ.out y hym
    have q0 : wr.cell? ⟨rb,ro + k,none⟩ = some (.slice y.A y.l.length y.c):=(hbel.cell (p:=⟨rb,ro + k,none⟩) hrb).trans (hcr k _ (rc_get hy))
    have hDec:=refDecode_calls y.A y.l y.c wr ((hyr.below hbel).more hs) hyc hycm hyl
    have HY:=Lib.hid hy
    clear hcr hy hym
    cases hdo : decO geS y.l with
    | none =>
     have hob : isObjL geS y.l = false:=by unfold isObjL; rw [hdo]; rfl
     have hr0 : Hid (r = none):=by unfold Hid; rw [HR.out]; exact not_ok HY.out (.inr hob)
     rw [hdo] at hDec
     have HDEC:=Lib.hid hDec
     clear hDec hdo hob
     go_wp2_with fail
     refine HDEC.out.mono ?_
     rintro e w8 ⟨rfl,hb8⟩
     go_wp2_with fail
     go_ret2
     rw [hr0.out]
     exact ⟨(hbel.next hb8).alloc (hbel.next hb8).size _,rfl⟩
    | some oo =>
     have hob : isObjL geS y.l = true:=by unfold isObjL; rw [hdo]; rfl
     have hobs2 : Hid (∀ z ∈ ys.take (k + 1),isObjL geS z.l = true):=fun z hz => by
      rw [List.take_succ_eq_append_getElem h1] at hz
      rcases List.mem_append.1 hz with hz | hz
      ·exact hobs.out z hz
      ·obtain rfl:=List.mem_singleton.1 hz
       obtain ⟨_,e⟩:=List.getElem?_eq_some_iff.1 HY.out
       rw [e]
       exact hob
     have hsucc : Hid (rpc ((ys.take (k + 1)).map mkP0) = rpc ((ys.take k).map mkP0) ++ (mkP0 y).rcells):=by
      unfold Hid
      obtain ⟨_,e⟩:=List.getElem?_eq_some_iff.1 HY.out
      rw [List.take_succ_eq_append_getElem h1,List.map_append,rpc_app,e]
      simp [rpc]
     rw [hdo] at hDec
     have HDEC:=Lib.hid hDec
     clear hDec hdo hob hobs
     go_wp2_with fail
     refine HDEC.out.mono ?_
     rintro e w7 ⟨k9,Ad,d,cd,Ae,en,ce,tr,Ap9,pa,cp9,ta,na,wh,st,te,ho,rfl,_,_,_,hb7,_,_,_⟩
     obtain ⟨v8,hv8⟩ : ∃ v8,v8 = w7.alloc (.cells #[.int .i64 k9,.slice Ad d.length cd,.slice Ae en.length ce,.string tr,.slice Ap9 pa.length cp9,.string ta,.string na,.string wh,.int .i64 st,.string te] 72):=⟨_,rfl⟩
     have hb78 : Below w7.heap.size w7 v8:=by rw [hv8]; exact (Below.refl _ _).alloc (Nat.le_refl _) _
     have hbel8:=(hbel.next hb7).next hb78
     have hown8:=own_belowW (own_belowW hown hb7) hb78
     have hs8:=hbel8.size
     have q8 : v8.cell? ⟨rb,ro + k,none⟩ = some (.slice y.A y.l.length y.c):=(hb78.cell (p:=⟨rb,ro + k,none⟩) (by show rb < _; have:=hb7.size; omega)).trans ((hb7.cell (p:=⟨rb,ro + k,none⟩) (by show rb < _; omega)).trans q0)
     have hrb8 : rb < v8.heap.size:=by omega
     have hrb0 : rb < w.heap.size:=hrb
     have hSum:=Lib.hid (refSum_calls y.A y.l y.c v8.drew ((hyr.below hbel8).more hs8).drew (by omega))
     clear HDEC hb7 hb78 ho hown q0
     go_upto_region 8 with (fail)
     rw [← hv8]
     clear hv8
     go_wp2_with fail
     refine wp_region_held_drew (S:=fun W => W.cell? ⟨rb,ro + k,none⟩ = some (.slice y.A y.l.length y.c)) (by kernel_rfl) (q8) (fun hHeld => ?_)
     refine tk 0 (.slice Al k cl) rfl (fun _ _ _ h => h) (Or.inl ⟨by rfl,fun w9 hS => ?_⟩) hHeld ?_
     ·have s0:=hS
      go_simp
     try simp only [Act.put,sA,sB,sC,sD,sF]
     refine tk 1 (.slice (some ⟨rb,ro,none⟩) ys.length c) rfl (fun _ _ _ h => h) (Or.inl ⟨by rfl,fun w9 hS => ?_⟩) hHeld ?_
     ·have s0:=hS
      go_simp
     try simp only [Act.put,sA,sB,sC,sD,sE,sF]
     refine tk 2 (.int .i64 (k : Int)) rfl (fun _ _ _ h => h) (Or.inl ⟨by rfl,fun w9 hS => ?_⟩) hHeld ?_
     ·have s0:=hS
      go_simp
     try simp only [Act.put,sA,sB,sC,sD,sE,sF]
     refine tk 3 (.pointer (some ⟨rb,ro + k,none⟩)) rfl (fun _ _ _ h => h) (Or.inl ⟨by rfl,fun w9 hS => ?_⟩) hHeld ?_
     ·have s0:=hS
      go_simp
     try simp only [Act.put,sA,sB,sC,sD,sE,sF]
     refine tk 4 (.slice y.A y.l.length y.c) rfl (fun _ _ _ h => h) (Or.inl ⟨by rfl,fun w9 hS => ?_⟩) hHeld ?_
     ·have s0:=hS
      go_simp
     try simp only [Act.put,sA,sB,sC,sD,sE,sF]
     refine tk 6 (.slice (some ⟨rb,ro,none⟩) ys.length c) rfl (fun _ _ _ h => h) (Or.inl ⟨by rfl,fun w9 hS => ?_⟩) hHeld ?_
     ·have s0:=hS
      go_simp
     try simp only [Act.put,sA,sB,sC,sD,sE,sF]
     refine tk 7 (.int .i64 (k : Int)) rfl (fun _ _ _ h => h) (Or.inl ⟨by rfl,fun w9 hS => ?_⟩) hHeld ?_
     ·have s0:=hS
      go_simp
     try simp only [Act.put,sA,sB,sC,sD,sE,sF]
     refine tk 8 (.pointer (some ⟨rb,ro + k,none⟩)) rfl (fun _ _ _ h => h) (Or.inl ⟨by rfl,fun w9 hS => ?_⟩) hHeld ?_
     ·have s0:=hS
      go_simp
     try simp only [Act.put,sA,sB,sC,sD,sE,sF]
     refine tk 9 (.slice y.A y.l.length y.c) rfl (fun _ _ _ h => h) (Or.inl ⟨by rfl,fun w9 hS => ?_⟩) hHeld ?_
     ·have s0:=hS
      go_simp
     try simp only [Act.put,sA,sB,sC,sD,sE,sF]
     refine wpAnyH_ready (rs:=[5]) (by kernel_rfl) (by simp) (AllReadyH.cons (o:=_) rfl (fun K hK => ?_) AllReadyH.nil)
     go_simp
     refine (hSum.out).mono ?_
     rintro e w9 ⟨sm,hsm,rfl,hb9⟩
     have hb9 : Below v8.heap.size v8 w9:=⟨hb9.os,hb9.tape,hb9.output,hb9.size,hb9.block⟩
     have q9:=(hb9.cell (p:=⟨rb,ro + k,none⟩) hrb8).trans q8
     refine hK.out _ _ q9 (fun hHeld => ?_)
     clear hK K
     try simp only [Act.put,sA,sB,sC,sD,sE,sF]
     refine tk 10 (.agg #[.string ⟨sm.toArray⟩,.int .i64 0,.int .i64 0,.int .i64 0,.slice y.A y.l.length y.c]) rfl (fun _ _ _ h => h) (Or.inl ⟨by rfl,fun w9 hS => ?_⟩) hHeld ?_
     ·have s0:=hS
      go_simp
     try simp only [Act.put,sA,sB,sC,sD,sE,sF]
     have hown10:=(own_belowW hown8 hb9).alloc (.cells #[.string ⟨sm.toArray⟩,.int .i64 0,.int .i64 0,.int .i64 0,.slice y.A y.l.length y.c] 88)
     have q10 : (w9.alloc (.cells #[.string ⟨sm.toArray⟩,.int .i64 0,.int .i64 0,.int .i64 0,.slice y.A y.l.length y.c] 88)).cell? ⟨rb,ro + k,none⟩ = some (.slice y.A y.l.length y.c):=(World.cell?_alloc_lt w9 _ _ (by show rb < _; have:=hb9.size; omega)).trans q9
     have hr10:=Rd.newS w9 88 [.string ⟨sm.toArray⟩,.int .i64 0,.int .i64 0,.int .i64 0,.slice y.A y.l.length y.c] 5 rfl
     have hb10 : Below w9.heap.size w9 (w9.alloc (.cells #[.string ⟨sm.toArray⟩,.int .i64 0,.int .i64 0,.int .i64 0,.slice y.A y.l.length y.c] 88)):=(Below.refl _ _).alloc (Nat.le_refl _) _
     have hxc : (mkP0 y).rcells = [.string ⟨sm.toArray⟩,.int .i64 0,.int .i64 0,.int .i64 0,.slice y.A y.l.length y.c]:=by unfold mkP0 PtA.rcells idS; rw [← hsm.out]; rfl
     have h1c:=rpc_one [mkP0 y]
     rw [show rpc [mkP0 y] = (mkP0 y).rcells by simp [rpc],hxc] at h1c
     have HXC:=Lib.hid hxc
     clear hxc
     refine wpAnyH_ready (rs:=[11]) (by kernel_rfl) (by simp) (AllReadyH.cons (o:=_) rfl (fun K hK => ?_) AllReadyH.nil)
     go_simp
     refine hK.out _ _ q10 (fun hHeld => ?_)
     clear hK K
     try simp only [Act.put,sA,sB,sC,sD,sE,sF]
     refine wpAnyH_ready (rs:=[12]) (by kernel_rfl) (by simp) (AllReadyH.cons (o:=_) rfl (fun K hK => ?_) AllReadyH.nil)
     refine appNr rfl (.tmp 32) (.tmp 43) 38 88 _ 5 64 rfl Tryz.underlying38 info_rpt rfl (by decide) w.heap.size _ k _ rfl hown10 _ _ 1 1 _ rfl hr10 h1c (by unfold maxLen; omega) (by omega) (by have:=hb9.size; have:=hb10.size; omega) ?_
     intro A5 c5 w13 hE13 hb13 hg13 i6 i7
     have q13:=(hb13.cell (p:=⟨rb,ro + k,none⟩) hrb0).trans q10
     refine hK.out _ _ q13 (fun hHeld => ?_)
     clear hK K
     try simp only [Act.put,sA,sB,sC,sD,sE,sF]
     refine tk 13 (.slice A5 (k + 1) c5) rfl (fun _ _ _ h => h) (Or.inl ⟨by rfl,fun w9 hS => ?_⟩) hHeld ?_
     ·have s0:=hS
      go_simp
     try simp only [Act.put,sA,sB,sC,sD,sE,sF]
     refine wpAnyH_done (by kernel_rfl) ?_ _
     have hb8 : Below w.heap.size w w13:=(hbel8.next (hb9.trans (hb10.mono (by have:=hb9.size; omega)))).trans hb13
     have hE : w13.ownsRow w.heap.size 88 5 (.slice A5 (k + 1) c5) (k + 1) (rpc ((ys.take (k + 1)).map mkP0)):=by rw [hsucc.out,HXC.out]; exact hE13
     clear hE13 hsucc HXC hown10 hr10 h1c hSum hown8 hb9 hb10 hb13 hg13 q8 q9 q10 q13
     go_wp2_with fail
     exact ⟨⟨k + 1,A5,c5,by go_num,by omega,rfl,hE,hobs2,hb8⟩,by simp [intOf]; omega⟩
   ·have d1 : decide ((k : Int) < (ys.length : Int)) = false:=decide_eq_false (by omega)
    have d1n : decide (k < ys.length) = false:=decide_eq_false h1
    have d1' : ¬ (k : Int) < (ys.length : Int):=by omega
    have hkl : k = ys.length:=by omega
    rw [hkl,List.take_length] at hown hobs
    rw [hkl] at d1 d1' d1n ⊢
    have hobj:=hobs
    have hlsl : (ys.map mkP0).length = ys.length:=by simp
    have hownL : wr.ownsRow w.heap.size 88 5 (.slice Al ys.length cl) ys.length (rpc (ys.map mkP0)):=hown
    have hTW:=twice_calls Al (ys.map mkP0) cl wr wr.heap.size (by rw [hlsl]; exact Rd.of_own hownL) (by rw [hlsl]; omega)
    rw [hlsl] at hTW
    have HTW:=Lib.hid hTW
    have HKL:=Lib.hid hkl
    clear hTW hkl hown f1 h1 hobs hk
    go_wp2_with fail
    refine HTW.out.mono ?_
    rintro e w6 ⟨bb,rfl,hbb,q6,hw6⟩
    have hb6 : Below wr.heap.size wr w6:=by rw [hw6]; exact (Below.refl _ _).drewN' _
    have hL6:=own_belowW hownL hb6
    have hbel6:=hbel.next hb6
    have hidsR : idsR (ys.map mkP0) = (ys.map (·.l)).map sumOf:=by simp [idsR,mkP0]
    clear hw6 HTW hownL hbel hb6
    cases bb with
    | true =>
     have hr0 : Hid (r = none):=by
      unfold Hid
      rw [HR.out]
      unfold buildL
      rw [if_neg (fun h => (hbb.out.1 rfl) (by rw [hidsR]; exact h.2.2))]
     clear hbb
     go_wp2_with fail
     go_ret2
     rw [hr0.out]
     exact ⟨hbel6,rfl⟩
    | false =>
     have HOK : Hid (packOk geS (ys.map (·.l))):=by
      refine ⟨by rw [List.length_map]; exact h4,fun x hx => ?_,Decidable.byContradiction fun h => ?_⟩
      ·obtain ⟨y,hy,rfl⟩:=List.mem_map.1 hx
       exact hobj.out y hy
      ·have:=hbb.out.2 (by rw [hidsR]; exact h)
       cases this
     have kc:=magic_conv w6
     have hbv : Below w.heap.size w (w6.alloc (.cells #[.int .u8 68,.int .u8 80,.int .u8 75,.int .u8 49] 5 (4,5))):=hbel6.alloc hbel6.size _
     have hPN:=RefPutNum_calls (some ⟨w6.heap.size,0,none⟩) mgL 4 ys.length (w6.alloc (.cells #[.int .u8 68,.int .u8 80,.int .u8 75,.int .u8 49] 5 (4,5))) ((magic_rd w6).more (by simp)) (by decide)
     have hcl : clampN (ys.length : Int) = ys.length:=by unfold clampN; omega
     rw [hcl] at hPN
     have HPN:=Lib.hid hPN
     clear hPN hcl hbb hidsR
     go_wp2_with fail
     refine HPN.out.mono ?_
     rintro e v1 ⟨o1,A1,c1,ho1,rfl,hO1,hb1,i1,i2⟩
     have hbv1:=hbv.next hb1
     have HO1 : Hid (o1 = mgL ++ num ys.length):=ho1
     have ho1n : o1.length ≤ 100:=by
      rw [HO1.out,List.length_append]
      have h1:=num_length_le 8 ys.length (by omega)
      have h2 : mgL.length = 4:=rfl
      omega
     have hL1:=own_belowW (hL6.alloc (.cells #[.int .u8 68,.int .u8 80,.int .u8 75,.int .u8 49] 5 (4,5))) hb1
     have hst : B2Rel ys Al cl w (.slice A1 o1.length c1) (.int .i64 0) v1:=⟨0,o1,A1,c1,ys.map mkP0,[],0,rfl,Nat.zero_le _,rfl,hO1.base hbv.size,hL1,start_inv ys,by unfold Hid bodyL; rw [HO1.out,List.length_map,List.drop_zero,List.append_assoc]; rfl,by omega,by omega,hbv1⟩
     have HST:=Lib.hid hst
     clear hst hL1 hbv1 hb1 hbv HPN kc hO1 hbel6 hL6
     go_wp2_with fail
     go_loopw [8,9] (fun o i wr => B2Rel ys Al cl w o i wr) (fun _ i _ => ys.length - (intOf i).toNat)
     case atStart => exact HST.out
     case round =>
      clear HST
      obtain ⟨k,out,Ao,co,ls,pv,d,rfl,hk,rfl,hown,hL,hinv,heq,hd,hol,hbel⟩:=hrel
      have hs:=hbel.size
      have f1 : IntKind.i64.wrap ((k : Int) + 1) = (k : Int) + 1:=IntWalk.i64_in _ (by omega)
      by_cases h1 : k < ys.length
      ·have d1 : decide ((k : Int) < (ys.length : Int)) = true:=decide_eq_true (by omega)
       have d1n : decide (k < ys.length) = true:=decide_eq_true h1
       have d1' : (k : Int) < (ys.length : Int):=by omega
       have hk0 : (0 : Int) ≤ (k : Int):=by omega
       obtain ⟨y,hy⟩ : ∃ y,ys[k]? = some y:=⟨ys[k],List.getElem?_eq_getElem h1⟩
       obtain ⟨g,rfl⟩:=own_atN hL (by omega)
       obtain ⟨hipre,hinew⟩:=hinv.out
       obtain ⟨x,hx,hxid0,hxraw,hxA,hxc,_⟩:=hipre.all k y hy
       obtain ⟨hxk0,hxd0⟩:=hinew x hx
       have hym:=List.mem_of_getElem? hy
       obtain ⟨hyr,hyc,hycm⟩:=hrs y hym
       have hyo:=hobj.out y hym
       have hy2:=obj_few y.l hyo
       obtain ⟨y0,yt,hy0⟩:=obj_head hyo
       have hyl : 0 < y.l.length:=by rw [hy0]; exact Nat.succ_pos _
       have hym:=hycm
       have hdr : Hid (ys.drop k = y :: ys.drop (k + 1)):=by
        obtain ⟨_,e⟩:=List.getElem?_eq_some_iff.1 hy
        unfold Hid
        rw [List.drop_eq_getElem_cons h1,e]
       have ck4 : wr.cell? ⟨g,k * 5 + 4,none⟩ = some (.slice y.A y.l.length y.c):=by
        rw [← hxraw,← hxA,← hxc]
        exact own_cellN hL (rpc_get hx 4 (by omega))
       have hPr:=Lib.hid (refPress_new y.A y.l y.c wr ((hyr.below hbel).more hs) (by omega) hyc)
       obtain ⟨sid,hsid⟩ : ∃ sid,sid = sumOf y.l:=⟨_,rfl⟩
       have hsidl : sid.length ≤ 32:=by rw [hsid,sumOf_length]; exact Nat.le_refl _
       have HSID:=Lib.hid hsid
       have hgw : w.heap.size ≤ g:=own_ge hL
       have hgl : g < wr.heap.size:=own_lt hL
       clear hsid hy0 hyo
       go_wp2_with fail
       refine hPr.out.mono ?_
       rintro e w5 ⟨p,Ap,cp,hp,rfl,hrp,hb5,j1,j2,hNp⟩
       have hown5:=own_belowW hown hb5
       have hL5:=own_belowW hL hb5
       have hbel5:=hbel.next hb5
       have hs5:=hb5.size
       have hsw5:=hbel5.size
       clear hPr
       obtain ⟨mt,hmt⟩ : ∃ mt,mt = mayTell pv d y.l:=⟨_,rfl⟩
       have HMT:=Lib.hid hmt
       have HYR:=Lib.hid hyr
       clear hmt
       go_upto_if 69 with (fail)
       go_cut [10] (fun bv wx => ∃ (kk1 : Nat) (b3 : List UInt8) (A3 : Option Addr) (c3 : Nat) (ls1 : List PtA) (x1 : PtA),bv = .slice A3 b3.length c3 ∧ kk1 ≤ 1 ∧ Hid (keep1 y.l = (kk1,b3)) ∧ x1.p.depth = 0 ∧ BMid w wr wx ys k g cl out Ao co pv d y sid kk1 b3 A3 ls1 x1)
       case first =>
        by_cases hlp : p.length < y.l.length
        ·have dp : decide ((p.length : Int) < (y.l.length : Int)) = true:=decide_eq_true (by omega)
         have dp' : (p.length : Int) < (y.l.length : Int):=by omega
         have dpn : decide (p.length < y.l.length) = true:=decide_eq_true hlp
         obtain ⟨m1,m2,m3,m4⟩:=own_setN hL5 (i:=k * 5 + 1) (by rw [rpc_length,hipre.len]; omega) (.int .i64 1)
         obtain ⟨x1,hx1e⟩ : ∃ x1 : PtA,x1 = { x with p:={ x.p with kind:=1 } }:=⟨_,rfl⟩
         rw [rpc_set (by omega) hx (x':=x1) (by rw [hx1e]; rfl)] at m1
         have hM : BMid w wr (w5.setCell ⟨g,k * 5 + 1,none⟩ (.int .i64 1)) ys k g cl out Ao co pv d y sid 1 p Ap (ls.set k x1) x1 :=
          ⟨set_get hx x1,m1,hown5.kept m2 (own_rows hown5 hL5 (by decide)),hbel5.trans (below_of_grown m2 hgw hsw5),(hrp.apartRow (Nat.le_refl _) m2 (fun h0 i hi e => by have:=hNp h0 i hi; injection e with e; omega)).more m2.size,
           fun h0 i hi e9 => by have h8:=(Seg.of_own hown).row i e9.symm; have:=hNp h0 i hi; omega,
           hipre.set hx (x':=x1) ⟨by rw [hx1e],by rw [hx1e],by rw [hx1e],by rw [hx1e]⟩,by rw [hx1e,HSID.out,← hxid0]; rfl,by rw [hx1e],by rw [hx1e,← hxraw,← hxA,← hxc],by omega,Nat.le_trans hs5 m2.size⟩
         have HM:=Lib.hid hM
         have hk1 : Hid (keep1 y.l = (1,p)):=by unfold Hid keep1; rw [← hp.out,if_pos hlp]
         have hx1d : x1.p.depth = 0:=by rw [hx1e]; exact hxd0
         have ck1 : w5.cell? ⟨g,k * 5 + 1,none⟩ = some (.int .i64 0):=by
          rw [m4]
          exact (rpc_get hx 1 (by omega)).trans (by show some (Value.int .i64 (x.p.kind : Nat)) = _; rw [hxk0]; rfl)
         clear hM m1 m2 m4 hx1e hown5 hL5 hbel5 hL hipre hinew hx hp hrp hNp
         go_wp2_with fail
         go_meet
         exact ⟨1,p,Ap,cp,_,x1,rfl,Nat.le_refl _,hk1,hx1d,HM.out⟩
        ·have dp : decide ((p.length : Int) < (y.l.length : Int)) = false:=decide_eq_false (by omega)
         have dp' : ¬ (p.length : Int) < (y.l.length : Int):=by omega
         have dpn : decide (p.length < y.l.length) = false:=decide_eq_false hlp
         have hk1 : Hid (keep1 y.l = (0,y.l)):=by unfold Hid keep1; rw [← hp.out,if_neg hlp]
         have hM : BMid w wr w5 ys k g cl out Ao co pv d y sid 0 y.l y.A ls x :=
          ⟨hx,hL5,hown5,hbel5,(HYR.out.below hbel5).more hbel5.size,fun h0 i hi e9 => by have h8:=(Seg.of_own hown).row i e9.symm; have:=rd_lt HYR.out h0 hi; omega,hipre,by rw [HSID.out,← hxid0]; rfl,hxk0,by rw [← hxraw,← hxA,← hxc],hy2,hs5⟩
         have HM:=Lib.hid hM
         clear hM hown5 hL5 hbel5 hL hipre hinew hp hrp hNp
         go_wp2_with fail
         go_meet
         exact ⟨0,y.l,y.A,y.c,ls,x,rfl,Nat.zero_le _,hk1,hxd0,HM.out⟩
       case rest =>
       obtain ⟨kk1,b3,A3,c3,ls1,x1,rfl,hkk1,hk1,hx1d,hM⟩:=hcut
       obtain ⟨v1,hv1⟩ : ∃ v1,v1 = wc:=⟨_,rfl⟩
       rw [← hv1] at hM ⊢
       clear hv1 hown5 hL5 hbel5 hL hipre hinew hx hp hrp hNp ck4 hxid0 hxraw hxA hxc hxk0 hxd0
       have ck4 : v1.cell? ⟨g,k * 5 + 4,none⟩ = some (.slice y.A y.l.length y.c):=by rw [← hM.src]; exact own_cellN hM.L (rpc_get hM.hx 4 (by omega))
       have HM:=Lib.hid hM
       have hbel1:=hM.bel
       clear hM
       go_upto_region 22 with (fail)
       go_cut [103] (fun v wx => v = .bool mt ∧ ∃ q,wx = v1.drewN q)
       case first =>
        rcases HM.out.inv.prev with ⟨hk0',hpv0,hd0⟩ | ⟨j,yp,xp,hkj,hyp,hxp,hpv,hxpA,_,hxpd⟩
        ·have hkz : decide ((k : Int) > 0) = false:=decide_eq_false (by omega)
         have hkz2 : ¬ ((0 : Int) < (k : Int)):=by omega
         have hkz3 : decide ((0 : Int) < (k : Int)) = false:=decide_eq_false (by omega)
         have hkz4 : decide (0 < k) = false:=decide_eq_false (by omega)
         have h4 : Hid (mt = false):=by unfold Hid; rw [HMT.out,hpv0]; rfl
         clear hk0' hpv0 hd0
         go_wp2_with fail
         go_quiet (fail)
         go_wp2_with fail
         go_meet
         exact ⟨by rw [h4.out],nq,rfl⟩
        ·have hkz : decide ((k : Int) > 0) = true:=decide_eq_true (by omega)
         have hkz2 : (0 : Int) < (k : Int):=by omega
         have hkz3 : decide ((0 : Int) < (k : Int)) = true:=decide_eq_true (by omega)
         have hkz4 : decide (0 < k) = true:=decide_eq_true (by omega)
         have wj : IntKind.i64.wrap ((k : Int) - 1) = (j : Int):=by rw [IntWalk.i64_in _ (by omega)]; omega
         have hj0 : (0 : Int) ≤ (j : Int):=by omega
         have hj1 : (j : Int) < (ys.length : Int):=by omega
         have hypm:=List.mem_of_getElem? hyp
         obtain ⟨ypr,ypc,ypm⟩:=hrs yp hypm
         obtain ⟨p0,pt0,hp0⟩:=obj_head (hobj.out yp hypm)
         have cj4 : v1.cell? ⟨g,j * 5 + 4,none⟩ = some (.slice yp.A yp.l.length yp.c):=by rw [← hxpA]; exact own_cellN HM.out.L (rpc_get hxp 4 (by omega))
         have cj2 : v1.cell? ⟨g,j * 5 + 2,none⟩ = some (.int .i64 (d : Int)):=by rw [← hxpd]; exact own_cellN HM.out.L (rpc_get hxp 2 (by omega))
         have hypl : 0 < yp.l.length:=by rw [hp0]; exact Nat.succ_pos _
         obtain ⟨pb,po,hpA,hpb,hpcell⟩:=(ypr.below hbel1).at_ hypl
         have cp0:=hpcell 0 _ (bc_get yp.l 0 hypl)
         obtain ⟨yb,yo,hyA,hyb,hycell⟩:=(HYR.out.below hbel1).at_ hyl
         have cy0:=hycell 0 _ (bc_get y.l 0 hyl)
         obtain ⟨u1,hu1⟩ : ∃ u1,u1 = (y.l[0]'hyl).toNat:=⟨_,rfl⟩
         obtain ⟨u2,hu2⟩ : ∃ u2,u2 = (yp.l[0]'hypl).toNat:=⟨_,rfl⟩
         rw [← hu1] at cy0
         rw [← hu2] at cp0
         have ixp : ∀ W : World,(Instr.indexAt 25 (.slice yp.A yp.l.length yp.c) (.int .i64 0)).run Tryz.prog W = .ok (.pointer (some ⟨pb,po + 0,none⟩)) W:=fun W => by rw [hpA]; exact idxN pb po yp.l.length yp.c 0 0 rfl W hypl
         have ixy : ∀ W : World,(Instr.indexAt 25 (.slice y.A y.l.length y.c) (.int .i64 0)).run Tryz.prog W = .ok (.pointer (some ⟨yb,yo + 0,none⟩)) W:=fun W => by rw [hyA]; exact idxN yb yo y.l.length y.c 0 0 rfl W hyl
         have hheads : u1 = u2 ↔ yp.l.head? = y.l.head?:=by
          rw [hu1,hu2]
          exact heads_is hypl hyl
         rw [Nat.add_zero] at cp0 cy0 ixp ixy
         have HHD:=Lib.hid hheads
         have HP0:=Lib.hid hypl
         have HPV : Hid (pv = yp.l):=hpv
         clear hpcell hycell hu1 hu2 hheads hkj hpv hyA hpA hp0 hxp hxpA hxpd hyp
         by_cases hhd : u1 = u2
         ·have e18 : ((u1 : Int) == (u2 : Int)) = true:=by rw [hhd]; exact beq_self_eq_true _
          have HHE : Hid (yp.l.head? = y.l.head?):=HHD.out.1 hhd
          subst hhd
          by_cases hd7 : d < 7
          ·have e27 : decide ((d : Int) < 7) = true:=decide_eq_true (by omega)
           have e27' : (d : Int) < 7:=by omega
           have h4 : Hid (mt = true):=by unfold Hid; rw [HMT.out,mayTell_is,HPV.out]; exact ⟨HP0.out,HHE.out,hd7⟩
           go_wp2_with fail
           go_quiet (fail)
           go_wp2_with fail
           go_meet
           exact ⟨by rw [h4.out],nq,rfl⟩
          ·have e27 : decide ((d : Int) < 7) = false:=decide_eq_false (by omega)
           have e27' : ¬ (d : Int) < 7:=by omega
           have h4 : Hid (mt = false):=by
            unfold Hid
            rw [HMT.out]
            exact Bool.eq_false_iff.2 fun h => hd7 (mayTell_is.1 h).2.2
           clear hd7
           go_wp2_with fail
           go_quiet (fail)
           go_wp2_with fail
           go_meet
           exact ⟨by rw [h4.out],nq,rfl⟩
         ·have e18 : ((u1 : Int) == (u2 : Int)) = false:=beq_eq_false_iff_ne.2 (by omega)
          have h4 : Hid (mt = false):=by
           unfold Hid
           rw [HMT.out]
           refine Bool.eq_false_iff.2 fun h => hhd (HHD.out.2 ?_)
           have:=(mayTell_is.1 h).2.1
           rw [HPV.out] at this
           exact this
          clear hhd
          go_wp2_with fail
          go_quiet (fail)
          go_wp2_with fail
          go_meet
          exact ⟨by rw [h4.out],nq,rfl⟩
       case rest =>
       obtain ⟨rfl,q2,hwx⟩:=hcut
       obtain ⟨v2,hv2⟩ : ∃ v2,v2 = wc:=⟨_,rfl⟩
       have HM2 : Hid (BMid w wr v2 ys k g cl out Ao co pv d y sid kk1 b3 A3 ls1 x1):=by rw [hv2,hwx]; exact HM.out.drewQ q2
       rw [← hv2]
       clear hv2 hwx HM ck4 hbel1 v1
       try go_upto_if 103 with (fail)
       go_cut [10,12] (fun bv dv wx => ∃ (kk : Nat) (b4 : List UInt8) (A4 : Option Addr) (c4 : Nat) (ls2 : List PtA) (x2 : PtA),bv = .slice A4 b4.length c4 ∧ kk ≤ 2 ∧ Hid (keepL pv d y.l = (kk,b4)) ∧ x2.p.depth = nextD d kk ∧ BMid w wr wx ys k g cl out Ao co pv d y sid kk b4 A4 ls2 x2)
       case first =>
        cases mt with
        | false =>
         have hkb : Hid (keepL pv d y.l = (kk1,b3)):=by unfold Hid; rw [keepL_no (by rw [← HMT.out]; simp),hk1.out]
         go_wp2_with fail
         go_meet
         exact ⟨kk1,b3,A3,c3,ls1,x1,rfl,by omega,hkb,by rw [hx1d,nextD_no hkk1],HM2.out⟩
        | true =>
         obtain ⟨j,yp,xp,hkj,hyp,hxp,hpv,hxpA,hxpd⟩ : ∃ j yp xp,k = j + 1 ∧ ys[j]? = some yp ∧ ls1[j]? = some xp ∧ pv = yp.l ∧ Value.slice xp.A xp.p.raw.length xp.c = .slice yp.A yp.l.length yp.c ∧ Value.int .i64 (xp.p.depth : Nat) = .int .i64 (d : Int):=by
          rcases HM2.out.inv.prev with ⟨_,hpv0,_⟩ | ⟨j,yp,xp,a1,a2,a3,a4,a5,_,a6⟩
          ·have:=HMT.out
           rw [hpv0] at this
           cases this
          ·exact ⟨j,yp,xp,a1,a2,a3,a4,a5,a6⟩
         have wj : IntKind.i64.wrap ((k : Int) - 1) = (j : Int):=by rw [IntWalk.i64_in _ (by omega)]; omega
         have hj0 : (0 : Int) ≤ (j : Int):=by omega
         have hj1 : (j : Int) < (ys.length : Int):=by omega
         have hypm:=List.mem_of_getElem? hyp
         obtain ⟨ypr,ypc,ypm⟩:=hrs yp hypm
         have hyp2:=obj_few yp.l (hobj.out yp hypm)
         have hg2 : g < v2.heap.size:=own_lt HM2.out.L
         have hs2:=HM2.out.bel.size
         have cj4 : v2.cell? ⟨g,j * 5 + 4,none⟩ = some (.slice yp.A yp.l.length yp.c):=by rw [← hxpA]; exact own_cellN HM2.out.L (rpc_get hxp 4 (by omega))
         have cj2 : v2.cell? ⟨g,j * 5 + 2,none⟩ = some (.int .i64 (d : Int)):=by rw [← hxpd]; exact own_cellN HM2.out.L (rpc_get hxp 2 (by omega))
         have ck4 : v2.cell? ⟨g,k * 5 + 4,none⟩ = some (.slice y.A y.l.length y.c):=by rw [← HM2.out.src]; exact own_cellN HM2.out.L (rpc_get HM2.out.hx 4 (by omega))
         have hEnc:=Lib.hid (refDEncode_new yp.A yp.l yp.c y.A y.l y.c v2.drew ((ypr.below HM2.out.bel).more hs2).drew ((HYR.out.below HM2.out.bel).more hs2).drew (by omega) (by omega) ypc ypm hyc hycm)
         have HPV : Hid (pv = yp.l):=hpv
         have HKJ:=Lib.hid hkj
         clear hpv hkj hxp hxpA hxpd hyp hypm ypr
         go_wp2_with fail
         refine wp_region_held_drew (S:=fun W => W.cell? ⟨g,j * 5 + 4,none⟩ = some (.slice yp.A yp.l.length yp.c) ∧ W.cell? ⟨g,k * 5 + 4,none⟩ = some (.slice y.A y.l.length y.c)) (by kernel_rfl) (⟨cj4,ck4⟩) (fun hHeld => ?_)
         refine tk 0 (.slice (some ⟨g,0,none⟩) ys.length cl) rfl (fun _ _ _ h => h) (Or.inl ⟨by rfl,fun w9 hS => ?_⟩) hHeld ?_
         ·obtain ⟨s0,s1⟩:=hS
          go_simp
         try simp only [Act.put,sA,sB,sC,sD,sF]
         refine tk 1 (.int .i64 (k : Int)) rfl (fun _ _ _ h => h) (Or.inl ⟨by rfl,fun w9 hS => ?_⟩) hHeld ?_
         ·obtain ⟨s0,s1⟩:=hS
          go_simp
         try simp only [Act.put,sA,sB,sC,sD,sE,sF]
         refine tk 2 (.int .i64 (j : Int)) rfl (fun _ _ _ h => h) (Or.inl ⟨by rfl,fun w9 hS => ?_⟩) hHeld ?_
         ·obtain ⟨s0,s1⟩:=hS
          go_simp
         try simp only [Act.put,sA,sB,sC,sD,sE,sF]
         refine tk 3 (.pointer (some ⟨g,j * 5,none⟩)) rfl (fun _ _ _ h => h) (Or.inl ⟨by rfl,fun w9 hS => ?_⟩) hHeld ?_
         ·obtain ⟨s0,s1⟩:=hS
          go_simp
         try simp only [Act.put,sA,sB,sC,sD,sE,sF]
         refine tk 4 (.pointer (some ⟨g,j * 5 + 4,none⟩)) rfl (fun _ _ _ h => h) (Or.inl ⟨by rfl,fun w9 hS => ?_⟩) hHeld ?_
         ·obtain ⟨s0,s1⟩:=hS
          go_simp
         try simp only [Act.put,sA,sB,sC,sD,sE,sF]
         refine tk 5 (.slice yp.A yp.l.length yp.c) rfl (fun _ _ _ h => h) (Or.inl ⟨by rfl,fun w9 hS => ?_⟩) hHeld ?_
         ·obtain ⟨s0,s1⟩:=hS
          go_simp
         try simp only [Act.put,sA,sB,sC,sD,sE,sF]
         refine tk 6 (.slice (some ⟨g,0,none⟩) ys.length cl) rfl (fun _ _ _ h => h) (Or.inl ⟨by rfl,fun w9 hS => ?_⟩) hHeld ?_
         ·obtain ⟨s0,s1⟩:=hS
          go_simp
         try simp only [Act.put,sA,sB,sC,sD,sE,sF]
         refine tk 7 (.int .i64 (k : Int)) rfl (fun _ _ _ h => h) (Or.inl ⟨by rfl,fun w9 hS => ?_⟩) hHeld ?_
         ·obtain ⟨s0,s1⟩:=hS
          go_simp
         try simp only [Act.put,sA,sB,sC,sD,sE,sF]
         refine tk 8 (.pointer (some ⟨g,k * 5,none⟩)) rfl (fun _ _ _ h => h) (Or.inl ⟨by rfl,fun w9 hS => ?_⟩) hHeld ?_
         ·obtain ⟨s0,s1⟩:=hS
          go_simp
         try simp only [Act.put,sA,sB,sC,sD,sE,sF]
         refine tk 9 (.pointer (some ⟨g,k * 5 + 4,none⟩)) rfl (fun _ _ _ h => h) (Or.inl ⟨by rfl,fun w9 hS => ?_⟩) hHeld ?_
         ·obtain ⟨s0,s1⟩:=hS
          go_simp
         try simp only [Act.put,sA,sB,sC,sD,sE,sF]
         refine tk 10 (.slice y.A y.l.length y.c) rfl (fun _ _ _ h => h) (Or.inl ⟨by rfl,fun w9 hS => ?_⟩) hHeld ?_
         ·obtain ⟨s0,s1⟩:=hS
          go_simp
         try simp only [Act.put,sA,sB,sC,sD,sE,sF]
         refine wpAnyH_ready (rs:=[11]) (by kernel_rfl) (by simp) (AllReadyH.cons (o:=_) rfl (fun K hK => ?_) AllReadyH.nil)
         go_simp
         refine (hEnc.out).mono ?_
         rintro e w6 ⟨d2,Ad2,cd2,hd2,rfl,hr6,hb6,j5,j6,hN6⟩
         have hb6 : Below v2.heap.size v2 w6:=⟨hb6.os,hb6.tape,hb6.output,hb6.size,hb6.block⟩
         have e4:=(hb6.cell (p:=⟨g,j * 5 + 4,none⟩) hg2).trans cj4
         have f4:=(hb6.cell (p:=⟨g,k * 5 + 4,none⟩) hg2).trans ck4
         refine hK.out _ _ ⟨e4,f4⟩ (fun hHeld => ?_)
         clear hK K
         try simp only [Act.put,sA,sB,sC,sD,sE,sF]
         refine tk 12 (.slice Ad2 d2.length cd2) rfl (fun _ _ _ h => h) (Or.inl ⟨by rfl,fun w9 hS => ?_⟩) hHeld ?_
         ·obtain ⟨s0,s1⟩:=hS
          go_simp
         try simp only [Act.put,sA,sB,sC,sD,sE,sF]
         refine wpAnyH_done (by kernel_rfl) ?_ _
         have hs6:=hb6.size
         obtain ⟨e1,e2,e3,e4',e5,e6,e7,e8,e9,e10,e11,e12⟩:=HM2.out
         have hL6:=own_belowW e2 hb6
         have hown6:=own_belowW e3 hb6
         have hbel6:=e4'.next hb6
         have cj26 : w6.cell? ⟨g,j * 5 + 2,none⟩ = some (.int .i64 (d : Int)):=(hb6.cell (p:=⟨g,j * 5 + 2,none⟩) hg2).trans cj2
         clear hEnc cj2 e4
         by_cases hlt : d2.length < b3.length
         ·have dl : decide ((d2.length : Int) < (b3.length : Int)) = true:=decide_eq_true (by omega)
          have dl' : (d2.length : Int) < (b3.length : Int):=by omega
          have dln : decide (d2.length < b3.length) = true:=decide_eq_true hlt
          have hkb : Hid (keepL pv d y.l = (2,d2)):=by
           unfold Hid keepL
           rw [if_pos ⟨HMT.out.symm,by rw [hk1.out,HPV.out,← hd2.out]; exact hlt⟩,HPV.out,← hd2.out]
          have wd : IntKind.i64.wrap ((d : Int) + 1) = (d : Int) + 1:=IntWalk.i64_in _ (by omega)
          obtain ⟨m1,m2,m3,m4⟩:=own_setN hL6 (i:=k * 5 + 1) (by rw [rpc_length,e7.len]; omega) (.int .i64 2)
          rw [rpc_set (by omega) e1 (x':={ x1 with p:={ x1.p with kind:=2 } }) rfl] at m1
          have hx7:=set_get e1 { x1 with p:={ x1.p with kind:=2 } }
          obtain ⟨n1,n2,n3,n4⟩:=own_setN m1 (i:=k * 5 + 2) (by rw [rpc_length,List.length_set,e7.len]; omega) (.int .i64 ((d : Int) + 1))
          obtain ⟨x2,hx2e⟩ : ∃ x2 : PtA,x2 = { x1 with p:={ x1.p with kind:=2,depth:=d + 1 } }:=⟨_,rfl⟩
          rw [rpc_set (by omega) hx7 (x':=x2) (by rw [hx2e]; rfl),List.set_set] at n1
          have cj27 : (w6.setCell ⟨g,k * 5 + 1,none⟩ (.int .i64 2)).cell? ⟨g,j * 5 + 2,none⟩ = some (.int .i64 (d : Int)):=(World.cell?_setCell_other w6 _ _ _ (fun e => by injection e with _ e _; have:=HKJ.out; omega)).trans cj26
          have hgw6 : w.heap.size ≤ g:=own_ge hL6
          have hsz7 : (w6.setCell ⟨g,k * 5 + 1,none⟩ (.int .i64 2)).heap.size = w6.heap.size:=by simp
          have hN : ∀ i,0 < d2.length → segBlock Ad2 = some i → v2.heap.size ≤ i:=fun i h0 hi => hN6 h0 i hi
          have hM : BMid w wr ((w6.setCell ⟨g,k * 5 + 1,none⟩ (.int .i64 2)).setCell ⟨g,k * 5 + 2,none⟩ (.int .i64 ((d : Int) + 1))) ys k g cl out Ao co pv d y sid 2 d2 Ad2 (ls1.set k x2) x2:=by
           have hK7:=hown6.kept m2 (own_rows hown6 hL6 (by decide))
           have hb67:=below_of_grown m2 hgw6 (by omega : w.heap.size ≤ w6.heap.size)
           refine ⟨set_get e1 x2,n1,hK7.kept n2 (own_rows hK7 m1 (by decide)),(hbel6.trans hb67).trans (below_of_grown n2 hgw6 (by omega)),?_,?_,e7.set e1 (x':=x2) ⟨by rw [hx2e],by rw [hx2e],by rw [hx2e],by rw [hx2e]⟩,by rw [hx2e]; exact e8,by rw [hx2e],by rw [hx2e]; exact e10,by omega,by simp; omega⟩
           ·have h8:=(hr6.apartRow (Nat.le_refl _) m2 (fun h0 i hi e => by have:=hN i h0 hi; injection e with e; omega)).apartRow (by omega) n2 (fun h0 i hi e => by have:=hN i h0 hi; injection e with e; omega)
            exact h8.more (by simp)
           ·intro h0 i hi e9
            have h8:=(Seg.of_own hown).row i e9.symm
            have:=hN i h0 hi
            omega
          have HM:=Lib.hid hM
          have hx2d : x2.p.depth = nextD d 2:=by rw [hx2e]; rfl
          have ck1 : w6.cell? ⟨g,k * 5 + 1,none⟩ = some (.int .i64 (x1.p.kind : Nat)):=own_cellN hL6 (rpc_get e1 1 (by omega))
          have ck2 : (w6.setCell ⟨g,k * 5 + 1,none⟩ (.int .i64 2)).cell? ⟨g,k * 5 + 2,none⟩ = some (.int .i64 (x1.p.depth : Nat)):=own_cellN m1 (rpc_get hx7 2 (by omega))
          clear hM m1 m2 m4 n1 n2 n4 hx7 hx2e e1 e2 e3 e4' e5 e6 e7 e8 e9 e10 hL6 hown6 hbel6 hr6 hN6 hk1 HM2 HMT hN hd2 hsz7 hb6
          go_wp2_with fail
          go_meet
          exact ⟨2,d2,Ad2,cd2,_,x2,rfl,Nat.le_refl _,hkb,hx2d,HM.out⟩
         ·have dl : decide ((d2.length : Int) < (b3.length : Int)) = false:=decide_eq_false (by omega)
          have dl' : ¬ (d2.length : Int) < (b3.length : Int):=by omega
          have dln : decide (d2.length < b3.length) = false:=decide_eq_false hlt
          have hkb : Hid (keepL pv d y.l = (kk1,b3)):=by
           unfold Hid keepL
           rw [if_neg (fun h => hlt (by have h2:=h.2; rw [hk1.out,HPV.out,← hd2.out] at h2; exact h2)),hk1.out]
          have hM : BMid w wr w6 ys k g cl out Ao co pv d y sid kk1 b3 A3 ls1 x1:=⟨e1,hL6,hown6,hbel6,(e5.below hb6).more hs6,e6,e7,e8,e9,e10,e11,Nat.le_trans e12 hs6⟩
          have HM:=Lib.hid hM
          clear hM e1 e2 e3 e4' e5 e6 e7 e8 e9 e10 hL6 hown6 hbel6 hr6 hN6 hk1 HM2 HMT hd2 hb6
          go_wp2_with fail
          go_meet
          exact ⟨kk1,b3,A3,c3,ls1,x1,rfl,by omega,hkb,by rw [hx1d,nextD_no hkk1],HM.out⟩
       case rest =>
       obtain ⟨kk,b4,A4,c4,lsT,xT,rfl,hkk2,hkb,hxd,hMT⟩:=hcut
       obtain ⟨vt,hvt⟩ : ∃ vt,vt = wc:=⟨_,rfl⟩
       rw [← hvt] at hMT ⊢
       obtain ⟨hxT,hLT,hownT,hbelT,hR3,hAP,hinvT,hxid,hxkd,_,hb4l,_⟩:=hMT
       have HAP:=Lib.hid hAP
       have HJ3 : Hid (0 < b4.length → ∀ j,segBlock A4 = some j → j < vt.heap.size):=fun h0 i hi => rd_lt hR3 h0 hi
       have hxkk : Value.int .i64 (xT.p.kind : Nat) = .int .i64 (kk : Int):=by rw [hxkd]
       have HINV : Hid (BInv ys lsT (k + 1) y.l (nextD d kk)):=hinvT.next hy hxT hxd
       clear hvt hAP hinvT hxd hxkd HM2 hk1 hx1d hkk1 HMT
       have hs0t:=hbelT.size
       have hsegT:=(Seg.of_own hownT).drewQ
       have hLTd : vt.drew.ownsRow w.heap.size 88 5 (.slice (some ⟨g,0,none⟩) ys.length cl) ys.length (rpc lsT):=hLT
       have HXID:=Lib.hid hxid
       have HXKK:=Lib.hid hxkk
       have ct0 : vt.cell? ⟨g,k * 5,none⟩ = some (.string ⟨sid.toArray⟩):=by rw [← HXID.out]; exact own_cellN hLT (rpc_get hxT 0 (by omega))
       have ct1 : vt.cell? ⟨g,k * 5 + 1,none⟩ = some (.int .i64 (kk : Int)):=by rw [← HXKK.out]; exact own_cellN hLT (rpc_get hxT 1 (by omega))
       have wu : IntKind.u8.wrap (kk : Int) = (kk : Int):=by
        unfold IntKind.wrap
        simp [IntKind.bits,IntKind.signed]
        omega
       have wu2 : (kk : Int) % 256 = (kk : Int):=by omega
       clear hxid hxkk
       go_upto_region 28 with (fail)
       go_cut [8] (fun v wx => ∃ (l6 : List UInt8) (A6 : Option Addr) (c6 : Nat),v = .slice A6 l6.length c6 ∧ l6.length ≤ out.length + 33 ∧ Hid (l6 = out ++ (sid ++ [UInt8.ofNat kk])) ∧ Seg wx w.heap.size 5 1 A6 l6.length c6 (bc l6) ∧ wx.ownsRow w.heap.size 88 5 (.slice (some ⟨g,0,none⟩) ys.length cl) ys.length (rpc lsT) ∧ Rd wx wx.heap.size 1 A4 b4.length (bc b4) ∧ Below w.heap.size w wx)
       case first =>
        refine wp_region_held_drew (S:=fun W => W.cell? ⟨g,k * 5,none⟩ = some (.string ⟨sid.toArray⟩) ∧ W.cell? ⟨g,k * 5 + 1,none⟩ = some (.int .i64 (kk : Int))) (by kernel_rfl) (⟨ct0,ct1⟩) (fun hHeld => ?_)
        refine tk 0 (.slice Ao out.length co) rfl (fun _ _ _ h => h) (Or.inl ⟨by rfl,fun w9 hS => ?_⟩) hHeld ?_
        ·obtain ⟨s0,s1⟩:=hS
         go_simp
        try simp only [Act.put,sA,sB,sC,sD,sF]
        refine tk 1 (.slice (some ⟨g,0,none⟩) ys.length cl) rfl (fun _ _ _ h => h) (Or.inl ⟨by rfl,fun w9 hS => ?_⟩) hHeld ?_
        ·obtain ⟨s0,s1⟩:=hS
         go_simp
        try simp only [Act.put,sA,sB,sC,sD,sE,sF]
        refine tk 2 (.int .i64 (k : Int)) rfl (fun _ _ _ h => h) (Or.inl ⟨by rfl,fun w9 hS => ?_⟩) hHeld ?_
        ·obtain ⟨s0,s1⟩:=hS
         go_simp
        try simp only [Act.put,sA,sB,sC,sD,sE,sF]
        refine tk 3 (.pointer (some ⟨g,k * 5,none⟩)) rfl (fun _ _ _ h => h) (Or.inl ⟨by rfl,fun w9 hS => ?_⟩) hHeld ?_
        ·obtain ⟨s0,s1⟩:=hS
         go_simp
        try simp only [Act.put,sA,sB,sC,sD,sE,sF]
        refine tk 4 (.pointer (some ⟨g,k * 5,none⟩)) rfl (fun _ _ _ h => h) (Or.inl ⟨by rfl,fun w9 hS => ?_⟩) hHeld ?_
        ·obtain ⟨s0,s1⟩:=hS
         go_simp
        try simp only [Act.put,sA,sB,sC,sD,sE,sF]
        refine tk 5 (.string ⟨sid.toArray⟩) rfl (fun _ _ _ h => h) (Or.inl ⟨by rfl,fun w9 hS => ?_⟩) hHeld ?_
        ·obtain ⟨s0,s1⟩:=hS
         go_simp
        try simp only [Act.put,sA,sB,sC,sD,sE,sF]
        refine tk 7 (.slice (some ⟨g,0,none⟩) ys.length cl) rfl (fun _ _ _ h => h) (Or.inl ⟨by rfl,fun w9 hS => ?_⟩) hHeld ?_
        ·obtain ⟨s0,s1⟩:=hS
         go_simp
        try simp only [Act.put,sA,sB,sC,sD,sE,sF]
        refine tk 8 (.int .i64 (k : Int)) rfl (fun _ _ _ h => h) (Or.inl ⟨by rfl,fun w9 hS => ?_⟩) hHeld ?_
        ·obtain ⟨s0,s1⟩:=hS
         go_simp
        try simp only [Act.put,sA,sB,sC,sD,sE,sF]
        refine tk 9 (.pointer (some ⟨g,k * 5,none⟩)) rfl (fun _ _ _ h => h) (Or.inl ⟨by rfl,fun w9 hS => ?_⟩) hHeld ?_
        ·obtain ⟨s0,s1⟩:=hS
         go_simp
        try simp only [Act.put,sA,sB,sC,sD,sE,sF]
        refine tk 10 (.pointer (some ⟨g,k * 5 + 1,none⟩)) rfl (fun _ _ _ h => h) (Or.inl ⟨by rfl,fun w9 hS => ?_⟩) hHeld ?_
        ·obtain ⟨s0,s1⟩:=hS
         go_simp
        try simp only [Act.put,sA,sB,sC,sD,sE,sF]
        refine tk 11 (.int .i64 (kk : Int)) rfl (fun _ _ _ h => h) (Or.inl ⟨by rfl,fun w9 hS => ?_⟩) hHeld ?_
        ·obtain ⟨s0,s1⟩:=hS
         go_simp
        try simp only [Act.put,sA,sB,sC,sD,sE,sF]
        refine tk 12 (.int .u8 (kk : Int)) rfl (fun _ _ _ h => h) (Or.inl ⟨by rfl,fun w9 hS => ?_⟩) hHeld ?_
        ·obtain ⟨s0,s1⟩:=hS
         go_simp
        try simp only [Act.put,sA,sB,sC,sD,sE,sF]
        refine wpAnyH_ready (rs:=[6,13]) (by kernel_rfl) (by simp) (AllReadyH.cons (o:=_) rfl (fun K hK => ?_) (AllReadyH.cons (o:=_) rfl (fun K hK => ?_) AllReadyH.nil))
        ·skip
         refine appStrSr rfl (.tmp 137) (.tmp 142) rfl w.heap.size Ao out.length co out rfl hsegT sid rfl (by omega) (by show w.heap.size ≤ vt.heap.size; omega) ?_
         intro l5 A5 c5 v5 hl5 hs5 hb5 hg5 hA5
         have hLT5:=own_seg hLTd hsegT (by decide) hg5
         have d50 : v5.cell? ⟨g,k * 5,none⟩ = some (.string ⟨sid.toArray⟩):=by rw [← HXID.out]; exact own_cellN hLT5 (rpc_get hxT 0 (by omega))
         have d51 : v5.cell? ⟨g,k * 5 + 1,none⟩ = some (.int .i64 (kk : Int)):=by rw [← HXKK.out]; exact own_cellN hLT5 (rpc_get hxT 1 (by omega))
         refine hK.out _ _ ⟨d50,d51⟩ (fun hHeld => ?_)
         clear hK K
         try simp only [Act.put,sA,sB,sC,sD,sE,sF]
         have hLT6:=hLT5.alloc (.cells #[.int .u8 (kk : Int)] 5)
         have d60 : (v5.alloc (.cells #[.int .u8 (kk : Int)] 5)).cell? ⟨g,k * 5,none⟩ = some (.string ⟨sid.toArray⟩):=by rw [← HXID.out]; exact own_cellN hLT6 (rpc_get hxT 0 (by omega))
         have d61 : (v5.alloc (.cells #[.int .u8 (kk : Int)] 5)).cell? ⟨g,k * 5 + 1,none⟩ = some (.int .i64 (kk : Int)):=by rw [← HXKK.out]; exact own_cellN hLT6 (rpc_get hxT 1 (by omega))
         refine wpAnyH_ready (rs:=[13]) (by kernel_rfl) (by simp) (AllReadyH.cons (o:=_) rfl (fun K hK => ?_) AllReadyH.nil)
         go_simp
         refine hK.out _ _ ⟨d60,d61⟩ (fun hHeld => ?_)
         clear hK K
         try simp only [Act.put,sA,sB,sC,sD,sE,sF]
         have hsz5 : vt.heap.size ≤ v5.heap.size:=hg5.size
         have hseg6:=hs5.alloc (.cells #[.int .u8 (kk : Int)] 5)
         have hone : Rd (v5.alloc (.cells #[.int .u8 (kk : Int)] 5)) (v5.heap.size + 1) 1 (some ⟨v5.heap.size,0,none⟩) 1 (bc [UInt8.ofNat kk]):=Rd.one v5 _ kk (by omega) (by omega)
         have hr5 : Rd v5 vt.heap.size 1 A4 b4.length (bc b4):=hR3.drew.apartRow (Nat.le_refl _) hg5 HAP.out
         have hr56:=hr5.alloc hsz5 (.cells #[.int .u8 (kk : Int)] 5)
         have hb56 : Below w.heap.size w (v5.alloc (.cells #[.int .u8 (kk : Int)] 5)):=(hbelT.drew.trans hb5).trans ((Below.refl _ _).alloc (by omega) _)
         have hA5n : 0 < b4.length → ∀ j,segBlock A4 = some j → some j ≠ segRow A5 c5:=fun h0 j hj e9 => hA5.elim (fun h9 => HAP.out h0 j hj (by rw [← h9.1,← h9.2]; exact e9)) (fun h9 => (by unfold segRow at e9; split at e9; (rw [h9] at e9; injection e9 with e9; have:=HJ3.out h0 j hj; have e8 : j = vt.heap.size:=e9; omega); cases e9))
         have hl5n : l5.length ≤ out.length + 32:=by rw [hl5.out,List.length_append]; omega
         have hwvt : w.heap.size ≤ v5.heap.size:=by omega
         refine wpAnyH_ready (rs:=[14]) (by kernel_rfl) (by simp) (AllReadyH.cons (o:=_) rfl (fun K hK => ?_) AllReadyH.nil)
         refine appBytesSr rfl (.tmp 143) (.tmp 150) rfl w.heap.size A5 l5.length c5 l5 rfl hseg6 _ _ 1 1 [UInt8.ofNat kk] rfl hone (by omega) (by first | omega | (simp; omega)) ?_
         intro l6 A6 c6 v6 hl6 hs6 hb6 hg6 hA6
         have hLT7:=own_seg hLT6 hseg6 (by decide) hg6
         have d70 : v6.cell? ⟨g,k * 5,none⟩ = some (.string ⟨sid.toArray⟩):=by rw [← HXID.out]; exact own_cellN hLT7 (rpc_get hxT 0 (by omega))
         have d71 : v6.cell? ⟨g,k * 5 + 1,none⟩ = some (.int .i64 (kk : Int)):=by rw [← HXKK.out]; exact own_cellN hLT7 (rpc_get hxT 1 (by omega))
         refine hK.out _ _ ⟨d70,d71⟩ (fun hHeld => ?_)
         clear hK K
         try simp only [Act.put,sA,sB,sC,sD,sE,sF]
         refine tk 15 (.slice A6 l6.length c6) rfl (fun _ _ _ h => h) (Or.inl ⟨by rfl,fun w9 hS => ?_⟩) hHeld ?_
         ·obtain ⟨s0,s1⟩:=hS
          go_simp
         try simp only [Act.put,sA,sB,sC,sD,sE,sF]
         refine wpAnyH_done (by kernel_rfl) ?_ _
         have hr6:=hr56.apartRow (by first | omega | (simp; omega)) hg6 hA5n
         have hl6n : l6.length ≤ out.length + 33:=by rw [hl6.out,List.length_append]; simp; omega
         have hl6e : Hid (l6 = out ++ (sid ++ [UInt8.ofNat kk])):=by unfold Hid; rw [hl6.out,hl5.out,List.append_assoc]
         have hvv : vt.heap.size ≤ v6.heap.size:=by have:=hg6.size; (try simp at this); omega
         clear d50 d51 d60 d61 d70 d71 ct0 ct1
         go_wp2_with fail
         go_meet
         exact ⟨l6,A6,c6,rfl,hl6n,hl6e,hs6,hLT7,hr6.more hvv,hb56.trans hb6⟩
        ·skip
         have hLT5:=hLTd.alloc (.cells #[.int .u8 (kk : Int)] 5)
         have d50 : (vt.drew.alloc (.cells #[.int .u8 (kk : Int)] 5)).cell? ⟨g,k * 5,none⟩ = some (.string ⟨sid.toArray⟩):=by rw [← HXID.out]; exact own_cellN hLT5 (rpc_get hxT 0 (by omega))
         have d51 : (vt.drew.alloc (.cells #[.int .u8 (kk : Int)] 5)).cell? ⟨g,k * 5 + 1,none⟩ = some (.int .i64 (kk : Int)):=by rw [← HXKK.out]; exact own_cellN hLT5 (rpc_get hxT 1 (by omega))
         go_simp
         refine hK.out _ _ ⟨d50,d51⟩ (fun hHeld => ?_)
         clear hK K
         try simp only [Act.put,sA,sB,sC,sD,sE,sF]
         have hsegD:=hsegT.alloc (.cells #[.int .u8 (kk : Int)] 5)
         refine wpAnyH_ready (rs:=[6]) (by kernel_rfl) (by simp) (AllReadyH.cons (o:=_) rfl (fun K hK => ?_) AllReadyH.nil)
         refine appStrSr rfl (.tmp 137) (.tmp 142) rfl w.heap.size Ao out.length co out rfl hsegD sid rfl (by omega) (by simp; omega) ?_
         intro l5 A5 c5 v5 hl5 hs5 hb5 hg5 hA5
         have hLT6:=own_seg hLT5 hsegD (by decide) hg5
         have d60 : v5.cell? ⟨g,k * 5,none⟩ = some (.string ⟨sid.toArray⟩):=by rw [← HXID.out]; exact own_cellN hLT6 (rpc_get hxT 0 (by omega))
         have d61 : v5.cell? ⟨g,k * 5 + 1,none⟩ = some (.int .i64 (kk : Int)):=by rw [← HXKK.out]; exact own_cellN hLT6 (rpc_get hxT 1 (by omega))
         refine hK.out _ _ ⟨d60,d61⟩ (fun hHeld => ?_)
         clear hK K
         try simp only [Act.put,sA,sB,sC,sD,sE,sF]
         have hsz5 : vt.heap.size + 1 ≤ v5.heap.size:=by have:=hg5.size; simpa using this
         have hrowlt : ∀ gO,segRow Ao co = some gO → gO < vt.heap.size:=fun gO h => (hsegT.row gO h).2
         have hone : Rd v5 (vt.heap.size + 1) 1 (some ⟨vt.heap.size,0,none⟩) 1 (bc [UInt8.ofNat kk]):=(Rd.one vt.drew _ kk (by omega) (by omega)).apartRow (by simp) hg5 (fun _ j hj e9 => (by injection hj with hj; have e8 : vt.heap.size = j:=hj; have:=hrowlt j e9.symm; omega))
         have hseg6:=hs5
         have hr56 : Rd v5 vt.heap.size 1 A4 b4.length (bc b4):=(hR3.drew.alloc (Nat.le_refl _) (.cells #[.int .u8 (kk : Int)] 5)).apartRow (by simp) hg5 HAP.out
         have hb56 : Below w.heap.size w v5:=(hbelT.drew.trans ((Below.refl _ _).alloc (by show w.heap.size ≤ vt.heap.size; omega) _)).trans hb5
         have hA5n : 0 < b4.length → ∀ j,segBlock A4 = some j → some j ≠ segRow A5 c5:=fun h0 j hj e9 => hA5.elim (fun h9 => HAP.out h0 j hj (by rw [← h9.1,← h9.2]; exact e9)) (fun h9 => (by unfold segRow at e9; split at e9; (rw [h9] at e9; injection e9 with e9; have:=HJ3.out h0 j hj; have e8 : j = (vt.drew.alloc (.cells #[.int .u8 (kk : Int)] 5)).heap.size:=e9; rw [World.size_alloc] at e8; have e7 : vt.drew.heap.size = vt.heap.size:=rfl; omega); cases e9))
         have hl5n : l5.length ≤ out.length + 32:=by rw [hl5.out,List.length_append]; omega
         have hwvt : w.heap.size ≤ v5.heap.size:=by omega
         refine wpAnyH_ready (rs:=[14]) (by kernel_rfl) (by simp) (AllReadyH.cons (o:=_) rfl (fun K hK => ?_) AllReadyH.nil)
         refine appBytesSr rfl (.tmp 143) (.tmp 150) rfl w.heap.size A5 l5.length c5 l5 rfl hseg6 _ _ 1 1 [UInt8.ofNat kk] rfl hone (by omega) (by first | omega | (simp; omega)) ?_
         intro l6 A6 c6 v6 hl6 hs6 hb6 hg6 hA6
         have hLT7:=own_seg hLT6 hseg6 (by decide) hg6
         have d70 : v6.cell? ⟨g,k * 5,none⟩ = some (.string ⟨sid.toArray⟩):=by rw [← HXID.out]; exact own_cellN hLT7 (rpc_get hxT 0 (by omega))
         have d71 : v6.cell? ⟨g,k * 5 + 1,none⟩ = some (.int .i64 (kk : Int)):=by rw [← HXKK.out]; exact own_cellN hLT7 (rpc_get hxT 1 (by omega))
         refine hK.out _ _ ⟨d70,d71⟩ (fun hHeld => ?_)
         clear hK K
         try simp only [Act.put,sA,sB,sC,sD,sE,sF]
         refine tk 15 (.slice A6 l6.length c6) rfl (fun _ _ _ h => h) (Or.inl ⟨by rfl,fun w9 hS => ?_⟩) hHeld ?_
         ·obtain ⟨s0,s1⟩:=hS
          go_simp
         try simp only [Act.put,sA,sB,sC,sD,sE,sF]
         refine wpAnyH_done (by kernel_rfl) ?_ _
         have hr6:=hr56.apartRow (by first | omega | (simp; omega)) hg6 hA5n
         have hl6n : l6.length ≤ out.length + 33:=by rw [hl6.out,List.length_append]; simp; omega
         have hl6e : Hid (l6 = out ++ (sid ++ [UInt8.ofNat kk])):=by unfold Hid; rw [hl6.out,hl5.out,List.append_assoc]
         have hvv : vt.heap.size ≤ v6.heap.size:=by have:=hg6.size; (try simp at this); omega
         clear d50 d51 d60 d61 d70 d71 ct0 ct1
         go_wp2_with fail
         go_meet
         exact ⟨l6,A6,c6,rfl,hl6n,hl6e,hs6,hLT7,hr6.more hvv,hb56.trans hb6⟩
       case rest =>
       obtain ⟨l6,A6,c6,rfl,hl6n,hl6,hs6,hLT7,hr6,hb06⟩:=hcut
       obtain ⟨v6,hv6⟩ : ∃ v6,v6 = wc:=⟨_,rfl⟩
       rw [← hv6] at hs6 hLT7 hr6 hb06 ⊢
       have hcv:=conv8f (c:=c4) hr6
       clear hv6 ct0 ct1
       have hbsz : (⟨b4.toArray⟩ : ByteArray).size = b4.length:=by simp [ByteArray.size]
       have hbT : (⟨b4.toArray⟩ : ByteArray).data.toList = b4:=by simp
       have hPT:=RefPutText_calls A6 l6 c6 ⟨b4.toArray⟩ v6 hs6.rd (by rw [hbsz]; omega)
       rw [hbT] at hPT
       have HPT:=Lib.hid hPT
       clear hPT
       go_wp2_with fail
       refine HPT.out.mono ?_
       rintro e v7 ⟨l7,A7,c7,hl7,rfl,ho7,hb7,i7,i8⟩
       have hL7:=own_belowW hLT7 hb7
       have hs6':=hb06.size
       have hbel7:=hb06.trans (hb7.mono hs6')
       have htl:=num_length_le 8 b4.length (by omega)
       have hl7n : l7.length ≤ l6.length + 9 + b4.length:=by rw [hl7.out,List.length_append]; unfold text; rw [List.length_append]; omega
       have HEQ : Hid (l7 ++ partsL y.l (nextD d kk) ((ys.drop (k + 1)).map (·.l)) = bodyL (ys.map (·.l))):=by
        unfold Hid
        rw [← heq.out,hdr.out,List.map_cons,partsL,hkb.out,hl7.out,hl6.out,HSID.out]
        unfold partL
        simp only [List.append_assoc,List.cons_append,List.nil_append]
       have hkd2 : nextD d kk ≤ 7:=by have:=keepL_depth (prev:=pv) (raw:=y.l) hd; rw [hkb.out] at this; exact this
       have hst : B2Rel ys (some ⟨g,0,none⟩) cl w (.slice A7 l7.length c7) (.int .i64 ((k + 1 : Nat) : Int)) v7 :=
        ⟨k + 1,l7,A7,c7,lsT,y.l,nextD d kk,rfl,by omega,rfl,ho7.base (by omega),hL7,HINV,HEQ,hkd2,by omega,hbel7⟩
       have HST:=Lib.hid hst
       clear hst hL7 hbel7 HEQ hkd2 hl7n htl hs6 hb7 hr6 hcv HJ3 HAP hsegT HPT ho7 hownT hLT hLT7 heq hdr hR3 hLTd hb06
       go_wp2_with fail
       exact ⟨by rw [show ((k : Int) + 1) = ((k + 1 : Nat) : Int) by omega]; exact HST.out,by simp [intOf]; omega⟩
      ·have d1 : decide ((k : Int) < (ys.length : Int)) = false:=decide_eq_false (by omega)
       have d1n : decide (k < ys.length) = false:=decide_eq_false h1
       have d1' : ¬ (k : Int) < (ys.length : Int):=by omega
       have hbody : Hid (out = bodyL (ys.map (·.l))):=by
        unfold Hid
        rw [← heq.out,List.drop_eq_nil_of_le (by omega),List.map_nil,partsL,List.append_nil]
       have hSum:=Lib.hid (refSum_calls Ao out co wr (Rd.of_own hown) (by omega))
       have hr0 : Hid (r = some (bodyL (ys.map (·.l)) ++ sumOf (bodyL (ys.map (·.l))))):=by unfold Hid; rw [HR.out]; unfold buildL; rw [if_pos HOK.out]
       clear heq hinv hL
       go_wp2_with (first
        | (go_at_call 31; refine hSum.out.mono ?_; rintro e v4 ⟨sm,hsm,rfl,hb4⟩; have hsm32 : sm.length ≤ 32:=(by rw [hsm.out,sumOf_length]; exact Nat.le_refl _); have hs4:=hb4.size)
        | (at_builtin; refine app8s rfl (.tmp 156) (.tmp 158) rfl w.heap.size _ out.length out rfl (own_belowW hown hb4) ⟨sm.toArray⟩ rfl (by show out.length + sm.toArray.size ≤ _; simp; omega) (by omega) ?_; intro l5 A5 c5 v5 hl5 hs5 hb5 hg5 i5 i6))
       go_ret2
       rw [hr0.out]
       exact ⟨(hbel.trans (hb4.mono hs)).trans hb5,l5,A5,c5,by unfold Hid; rw [hl5.out,hbody.out,hsm.out,hbody.out],rfl,hs5,i5,i6⟩
 ·have d0 : decide ((4096 : Int) < (ys.length : Int)) = true:=decide_eq_true (by omega)
  have d0' : (4096 : Int) < (ys.length : Int):=by omega
  have hr0 : Hid (r = none):=by unfold Hid; rw [HR.out]; unfold buildL; rw [if_neg (fun h => by have:=h.1; rw [List.length_map] at this; omega)]
  go_wp2_with fail
  go_ret2
  rw [hr0.out]
  exact ⟨Below.refl _ _,rfl⟩
end Go.Proofs.YtnaakfnbmeimaaaGreat
