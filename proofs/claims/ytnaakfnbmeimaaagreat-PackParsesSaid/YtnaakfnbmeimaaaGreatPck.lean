/- A pack in memory: its block, its row of parts, its map of bytes, its ids; the walks of Has, Get, Parts. Conditions: at most 2^40 parts. -/
import Derived.Test.YtnaakfnbmeimaaaGreatPackSpec
import Derived.Test.YtnaakfnbmeimaaaGreatMapOwn
set_option maxRecDepth 100000
set_option maxHeartbeats 800000
set_option linter.unusedVariables false
namespace Go.Dol
open Go.RowKit
structure PtA where
 p : Pt
 A : Option Addr
 c : Nat
def idS (l : List UInt8) : ByteArray:=⟨l.toArray⟩
def PtA.cells (x : PtA) : List Value:=[.string (idS x.p.id),.int .i64 (x.p.kind : Nat),.int .i64 (x.p.depth : Nat),.int .i64 (x.p.size : Nat)]
def ptc (l : List PtA) : List Value:=l.flatMap PtA.cells
def ptm (l : List PtA) : List (Value × Value):=l.map fun x => (.string (idS x.p.id),.slice x.A x.p.raw.length x.c)
def ptp (l : List PtA) : List Pt:=l.map PtA.p
theorem ptc_get : ∀ {l : List PtA} {i : Nat} {x : PtA},l[i]? = some x → ∀ j,j < 4 → (ptc l)[i * 4 + j]? = x.cells[j]?
 | [],i,x,h,_,_ => by simp at h
 | y :: l,0,x,h,j,hj => by
  have hx : y = x:=by simpa using h
  subst hx
  rw [ptc,List.flatMap_cons,Nat.zero_mul,Nat.zero_add,List.getElem?_append_left (by show j < 4; omega)]
 | y :: l,i + 1,x,h,j,hj => by
  rw [ptc,List.flatMap_cons,List.getElem?_append_right (by show 4 ≤ _; omega)]
  have e : (i + 1) * 4 + j - y.cells.length = i * 4 + j:=by show (i + 1) * 4 + j - 4 = _; omega
  rw [e]
  exact ptc_get (l:=l) (by simpa using h) j hj
theorem ptc_one (l : List PtA) : ∀ u ∈ ptc l,u.oneCell' = true:=by
 intro u hu
 obtain ⟨x,_,hx⟩:=List.mem_flatMap.1 hu
 simp only [PtA.cells,List.mem_cons,List.not_mem_nil,or_false] at hx
 rcases hx with rfl | rfl | rfl | rfl <;> rfl
theorem idS_toList (l : List UInt8) : (idS l).data.toList = l:=by simp [idS]
theorem idS_eq {l : List UInt8} {s : ByteArray} : idS l = s ↔ l = s.data.toList:=by
 constructor
 ·intro h; rw [← h]; simp [idS]
 ·intro h; rw [h]; cases s; simp [idS]
def lookP (l : List Pt) (s : List UInt8) : Option Pt:=l.find? fun p => decide (p.id = s)
def getP (l : List Pt) (s : ByteArray) : Except Int (List UInt8):=if s.size = 32 then (match lookP l s.data.toList with | none => .error 6 | some p => .ok p.raw) else .error 1
def sortL (l : List (List UInt8)) : List (List UInt8):=l.mergeSort fun x y => decide (x ≤ y)
def idsL (l : List Pt) : List ByteArray:=(sortL (l.map (·.id))).map idS
theorem idsL_length (l : List Pt) : (idsL l).length = l.length:=by simp [idsL,sortL,List.length_mergeSort]
theorem own_keepB {w w' : World} {base : Nat} {e : TypeId} {size : Nat} {v : Value} {n : Nat} {xs : List Value} (h : w.ownsRow base e size v n xs) (hk : ∀ k,base ≤ k → k < w.heap.size → w'.heap[k]? = w.heap[k]?) : w'.ownsRow base e size v n xs:=by
 refine ⟨h.1,?_⟩
 rcases h.2 with h1 | ⟨g,cap,cur,rfl,h2,h3,h4⟩
 ·exact .inl h1
 ·exact .inr ⟨g,cap,cur,rfl,h2,(hk g h2 (Array.getElem?_eq_some_iff.1 h3).1).trans h3,h4⟩
end Go.Dol
namespace Go.Proofs.YtnaakfnbmeimaaaGreat
open Go.RowKit Go.Dol
def B8 (w : World) (base : Nat) (A : Option Addr) (l : List UInt8) : Prop:=Far w 0 A l ∧ (0 < l.length → ∀ k,segBlock A = some k → base ≤ k)
theorem B8.nil {w : World} {base : Nat} {A : Option Addr} : B8 w base A []:=⟨Far.nil,fun h => absurd h (by decide)⟩
theorem B8.own {w : World} {base : Nat} {A : Option Addr} {l : List UInt8} {c : Nat} (h : w.ownsRow base 5 1 (.slice A l.length c) l.length (bc l)) : B8 w base A l:=by
 refine ⟨Far.of_seg (Seg.of_own h),fun hn k hk => ?_⟩
 rcases h.2 with ⟨h1,h0⟩ | ⟨g,cap,cur,h1,h2,_⟩
 ·omega
 ·injection h1 with h1
  rw [h1] at hk
  injection hk with hk
  have e : g = k:=hk
  omega
theorem B8.rd {w : World} {base : Nat} {A : Option Addr} {l : List UInt8} (h : B8 w base A l) : Rd w w.heap.size 1 A l.length (bc l):=h.1.1
theorem B8.lower {w : World} {base base' : Nat} {A : Option Addr} {l : List UInt8} (h : B8 w base A l) (hb : base' ≤ base) : B8 w base' A l:=⟨h.1,fun hn k hk => Nat.le_trans hb (h.2 hn k hk)⟩
theorem B8.grown {w w' : World} {base : Nat} {A : Option Addr} {l : List UInt8} (h : B8 w base A l) {row : Option Nat} (hg : w.grownBy w' row) (hr : Other w 0 row) : B8 w' base A l:=⟨h.1.keep hg hr,h.2⟩
theorem B8.keepB {w w' : World} {base : Nat} {A : Option Addr} {l : List UInt8} (h : B8 w base A l) (hk : ∀ k,base ≤ k → k < w.heap.size → w'.heap[k]? = w.heap[k]?) (hs : w.heap.size ≤ w'.heap.size) : B8 w' base A l:=by
 rcases Nat.eq_zero_or_pos l.length with h0 | h0
 ·obtain rfl : l = []:=List.eq_nil_of_length_eq_zero h0
  exact B8.nil
 obtain ⟨b,off,e,hb,hc⟩:=h.1.1.at_ h0
 have hsb : segBlock A = some b:=by rw [e]; rfl
 have hbb:=h.2 h0 b hsb
 refine ⟨⟨⟨h.1.1.len,fun _ => ⟨b,off,e,Nat.lt_of_lt_of_le hb hs,fun j u hu => (World.cell?_of_block (hk b hbb hb)).trans (hc j u hu)⟩⟩,fun _ k hk2 => ?_⟩,h.2⟩
 rw [hsb] at hk2
 injection hk2 with hk2
 subst hk2
 rw [hk b hbb hb]
 exact h.1.2 h0 b hsb
structure Pck (w : World) (base g : Nat) (l : List PtA) (A : Option Addr) (c m : Nat) (d : Int) (vi : Value) : Prop where
 blk : Blk w g 66 [.slice A l.length c,.map (some m),.int .u32 d,.int .i32 0,.int .u32 0,vi]
 gb : base ≤ g
 mb : base ≤ m
 parts : w.ownsRow base 50 4 (.slice A l.length c) l.length (ptc l)
 map : MapL Tryz.prog 9 w m (ptm l)
 raws : ∀ x ∈ l,B8 w base x.A x.p.raw ∧ x.p.raw.length ≤ x.c ∧ x.c ≤ maxLen
 ids : d = 0 ∧ vi = .slice none 0 0 ∨ d = 1 ∧ ∃ Ai ci,vi = .slice Ai l.length ci ∧ w.ownsRow base 9 1 (.slice Ai l.length ci) l.length (pc (idsL (ptp l)))
section
variable {w w' : World} {base g : Nat} {l : List PtA} {A : Option Addr} {c m : Nat} {d : Int} {vi : Value}
theorem Pck.keep (h : Pck w base g l A c m d vi) (hk : ∀ k,base ≤ k → k < w.heap.size → w'.heap[k]? = w.heap[k]?) (hs : w.heap.size ≤ w'.heap.size) : Pck w' base g l A c m d vi :=
 ⟨h.blk.keepB (hk g h.gb h.blk.lt),h.gb,h.mb,own_keepB h.parts hk,h.map.keepB (hk m h.mb h.map.lt),fun x hx => ⟨(h.raws x hx).1.keepB hk hs,(h.raws x hx).2⟩,by
  rcases h.ids with h1 | ⟨h1,Ai,ci,h2,h3⟩
  ·exact .inl h1
  ·exact .inr ⟨h1,Ai,ci,h2,own_keepB h3 hk⟩⟩
theorem Pck.below (h : Pck w base g l A c m d vi) (hb : Below w.heap.size w w') : Pck w' base g l A c m d vi:=h.keep (fun k _ hk => hb.block k hk) hb.size
theorem Pck.drewN (h : Pck w base g l A c m d vi) (n : Nat) : Pck (w.drewN n) base g l A c m d vi:=h.keep (fun k _ _ => rfl) (Nat.le_refl _)
theorem Pck.cells (h : Pck w base g l A c m d vi) : w.cell? ⟨g,0,none⟩ = some (.slice A l.length c) ∧ w.cell? ⟨g,1,none⟩ = some (.map (some m)) ∧ w.cell? ⟨g,2,none⟩ = some (.int .u32 d) ∧ w.cell? ⟨g,3,none⟩ = some (.int .i32 0) ∧ w.cell? ⟨g,5,none⟩ = some vi :=
 ⟨by rw [h.blk.cell]; rfl,by rw [h.blk.cell]; rfl,by rw [h.blk.cell]; rfl,by rw [h.blk.cell]; rfl,by rw [h.blk.cell]; rfl⟩
theorem zeroS8 (w : World) : (zeroValue 25).run Tryz.prog w = .ok (.slice none 0 0) w:=by kernel_rfl
theorem keyed_str : Go.Maps.Keyed Tryz.prog 9:=Go.Maps.string_keyed Tryz.underlying9
theorem ptm_mem {l : List PtA} {s : ByteArray} {v : Value} (hn : (l.map fun x => x.p.id).Nodup) (h : (Value.string s,v) ∈ ptm l) : ∃ x ∈ l,v = .slice x.A x.p.raw.length x.c ∧ lookP (ptp l) s.data.toList = some x.p:=by
 obtain ⟨x,hx,e⟩:=List.mem_map.1 h
 injection e with e1 e2
 injection e1 with e1
 refine ⟨x,hx,e2.symm,?_⟩
 have hid : x.p.id = s.data.toList:=idS_eq.1 e1
 clear h e1 e2
 induction l with
 | nil => cases hx
 | cons y l ih =>
  unfold lookP ptp
  rw [List.map_cons,List.find?_cons]
  rw [List.map_cons,List.nodup_cons] at hn
  rcases List.mem_cons.1 hx with rfl | hx
  ·rw [decide_eq_true hid]
  ·have : ¬ y.p.id = s.data.toList:=fun e => hn.1 (List.mem_map.2 ⟨x,hx,by rw [hid,e]⟩)
   rw [decide_eq_false this]
   exact ih hn.2 hx
theorem ptm_none {l : List PtA} {s : ByteArray} (h : ∀ p ∈ ptm l,p.1 ≠ Value.string s) : lookP (ptp l) s.data.toList = none:=by
 unfold lookP ptp
 rw [List.find?_eq_none]
 intro p hp
 obtain ⟨x,hx,rfl⟩:=List.mem_map.1 hp
 have:=h _ (List.mem_map.2 ⟨x,hx,rfl⟩)
 simp only [decide_eq_true_eq]
 intro e
 exact this (congrArg Value.string (idS_eq.2 e))
theorem Pck.nodup (h : Pck w base g l A c m d vi) : (l.map fun x => x.p.id).Nodup:=by
 have h1:=h.map.nodup
 unfold ptm at h1
 rw [List.map_map] at h1
 have h2 : (l.map fun x => x.p.id).map (fun s => Value.string (idS s)) = l.map (Prod.fst ∘ fun x => (Value.string (idS x.p.id),Value.slice x.A x.p.raw.length x.c)):=by rw [List.map_map]; rfl
 rw [← h2] at h1
 exact List.Pairwise.of_map _ (fun a b h e => h (congrArg (fun s => Value.string (idS s)) e)) h1
theorem Pck.look (h : Pck w base g l A c m d vi) (s : ByteArray) (hs : s.size ≤ maxLen) :
  (lookP (ptp l) s.data.toList = none ∧ (∀ w',w'.heap[m]? = w.heap[m]? → (Instr.lookup 52 (.map (some m)) (.string s) true).run Tryz.prog w' = .ok (.tuple #[.slice none 0 0,.bool false]) w')) ∨
  ∃ x ∈ l,lookP (ptp l) s.data.toList = some x.p ∧ (∀ w',w'.heap[m]? = w.heap[m]? → (Instr.lookup 52 (.map (some m)) (.string s) true).run Tryz.prog w' = .ok (.tuple #[.slice x.A x.p.raw.length x.c,.bool true]) w') ∧
   (∀ w',w'.heap[m]? = w.heap[m]? → (Instr.lookup 52 (.map (some m)) (.string s) false).run Tryz.prog w' = .ok (.slice x.A x.p.raw.length x.c) w'):=by
 have hkey:=WideMaps.keyOf_string_mk Tryz.underlying9 hs
 have hn:=h.nodup
 rcases h.map.look keyed_str Tryz.underlying52 (zeroS8 w) hkey true with ⟨h1,_⟩ | ⟨v,h1,_⟩
 ·refine .inl ⟨ptm_none h1,fun w' hw => ?_⟩
  rcases (h.map.keepB hw).look keyed_str Tryz.underlying52 (zeroS8 w') hkey true with ⟨_,h3⟩ | ⟨v,h3,_⟩
  ·exact h3
  ·exact absurd rfl (h1 _ h3)
 ·obtain ⟨x,hx,rfl,hl⟩:=ptm_mem hn h1
  refine .inr ⟨x,hx,hl,fun w' hw => ?_,fun w' hw => ?_⟩
  ·rcases (h.map.keepB hw).look keyed_str Tryz.underlying52 (zeroS8 w') hkey true with ⟨h3,_⟩ | ⟨v,h3,h4⟩
   ·exact absurd rfl (h3 _ h1)
   ·rw [Go.Proofs.YtnaakfnbmeimaaaGreat.key_one h.map.nodup h3 h1] at h4
    exact h4
  ·rcases (h.map.keepB hw).look keyed_str Tryz.underlying52 (zeroS8 w') hkey false with ⟨h3,_⟩ | ⟨v,h3,h4⟩
   ·exact absurd rfl (h3 _ h1)
   ·rw [Go.Proofs.YtnaakfnbmeimaaaGreat.key_one h.map.nodup h3 h1] at h4
    exact h4
theorem Has_calls (h : Pck w base g l A c m d vi) (s : ByteArray) (hs : s.size ≤ maxLen) : Calls Tryz.prog 21 #[.pointer (some ⟨g,0,none⟩),.string s] w fun e w' => e = .returned (.bool (lookP (ptp l) s.data.toList).isSome) ∧ w' = w:=by
 obtain ⟨k0,k1,_⟩:=h.cells
 rcases h.look s hs with ⟨hn,hl⟩ | ⟨x,hx,hn,hl,_⟩
 ·have hl0:=hl w rfl
  rw [hn]
  clear hl hn
  go_enter Tryz.func21,Tryz.ntmps21
  go_wp2_with fail
  go_ret
  exact ⟨rfl,rfl⟩
 ·have hl0:=hl w rfl
  rw [hn]
  clear hl hn
  go_enter Tryz.func21,Tryz.ntmps21
  go_wp2_with fail
  go_ret
  exact ⟨rfl,rfl⟩
def RetGet (w : World) (r : Except Int (List UInt8)) (e : Ending) (w' : World) : Prop :=
 Below w.heap.size w w' ∧ match r with
  | .error k => e = .returned (.tuple #[.slice none 0 0,.int .i64 k])
  | .ok p => ∃ (q : List UInt8) (A : Option Addr) (c : Nat),Hid (q = p) ∧ e = .returned (.tuple #[.slice A q.length c,.int .i64 0]) ∧ w'.ownsRow w.heap.size 5 1 (.slice A q.length c) q.length (bc q) ∧ q.length ≤ c ∧ c ≤ maxLen
theorem Get_calls (h : Pck w base g l A c m d vi) (s : ByteArray) (hs : s.size ≤ maxLen) (hsz : ∀ x ∈ l,x.p.raw.length ≤ 140737488351232) : Calls Tryz.prog 16 #[.pointer (some ⟨g,0,none⟩),.string s] w (RetGet w (getP (ptp l) s)):=by
 obtain ⟨k0,k1,_⟩:=h.cells
 have HH:=Lib.hid (Has_calls h s hs)
 unfold getP
 by_cases h32 : s.size = 32
 ·have d1 : ((s.size : Int) != 32) = false:=by simp; omega
  rw [if_pos h32]
  rcases h.look s hs with ⟨hn,hl⟩ | ⟨x,hx,hn,_,hl⟩
  ·rw [hn] at HH ⊢
   clear hl
   have d2 : (none : Option Pt).isSome = false:=rfl
   rw [d2] at HH
   go_enter Tryz.func16,Tryz.ntmps16
   go_wp2_with (go_at_call 21; refine HH.out.mono ?_; rintro e w' ⟨rfl,hw⟩; obtain rfl:=hw.symm)
   go_ret2
   exact ⟨Below.refl _ _,rfl⟩
  ·rw [hn] at HH ⊢
   have d2 : (some x.p).isSome = true:=rfl
   rw [d2] at HH
   have hl0:=hl w rfl
   have HC:=Lib.hid (Clone_calls x.A x.p.raw x.c w (h.raws x hx).1.rd (by have:=hsz x hx; omega))
   clear hl
   go_enter Tryz.func16,Tryz.ntmps16
   go_wp2_with (first | (go_at_call 21; refine HH.out.mono ?_; rintro e w' ⟨rfl,hw⟩; obtain rfl:=hw.symm) | (go_at_call 40; refine HC.out.mono ?_; rintro e w' ⟨q,A1,c1,hq,rfl,ho,hb,i1,i2⟩))
   go_ret2
   exact ⟨hb,q,A1,c1,hq,rfl,ho,i1,i2⟩
 ·have d1 : ((s.size : Int) != 32) = true:=by simp; omega
  rw [if_neg h32]
  go_enter Tryz.func16,Tryz.ntmps16
  go_wp2_with fail
  go_ret2
  exact ⟨Below.refl _ _,rfl⟩
end
end Go.Proofs.YtnaakfnbmeimaaaGreat
