/- The walks of the document's 'object', its sixth part: Decode. Conditions: bytes of at most 2^47 - 4096. -/
import Derived.Test.YtnaakfnbmeimaaaGreatObjD
import Derived.Test.YtnaakfnbmeimaaaGreatObjC
import Derived.Test.YtnaakfnbmeimaaaGreatWordsA
import Derived.Test.YtnaakfnbmeimaaaGreatShort
set_option maxRecDepth 100000
set_option maxHeartbeats 8000000
set_option linter.unusedVariables false
namespace Go.Proofs.YtnaakfnbmeimaaaGreat
open Go.RowKit Go.Dol
theorem Same_no (A1 : Option Addr) (l : List UInt8) (c1 : Nat) (A2 : Option Addr) (l2 : List UInt8) (c2 : Nat) (w : World) (B1 B2 : Nat) (h1 : Rd w B1 1 A1 l.length (bc l)) (h2 : Rd w B2 1 A2 l2.length (bc l2)) (he : ¬ l = l2) :
  Calls Tryz.prog 14 #[.slice A1 l.length c1,.slice A2 l2.length c2] w fun e w' => e = .returned (.bool false) ∧ w = w':=by
 have g1 : (l == l2) = false:=beq_eq_false_iff_ne.2 he
 clear he
 have v1 : (convert 25 9 (.slice A1 l.length c1)).run Tryz.prog w = .ok (.string ⟨l.toArray⟩) w:=conv8f h1
 have v2 : (convert 25 9 (.slice A2 l2.length c2)).run Tryz.prog w = .ok (.string ⟨l2.toArray⟩) w:=conv8f h2
 go_enter Tryz.func14,Tryz.ntmps14
 go_wp2_with fail
 go_ret
 exact ⟨rfl,rfl⟩
theorem refDecode0_calls (A : Option Addr) (c : Nat) (w : World) : Calls Tryz.prog 30 #[.slice A 0 c] w (RetDec w none):=by
 have hb1 : Below w.heap.size w (w.alloc (.cells #[.int .i64 0,.slice none 0 0,.slice none 0 0,.string ⟨#[]⟩,.slice none 0 0,.string ⟨#[]⟩,.string ⟨#[]⟩,.string ⟨#[]⟩,.int .i64 0,.string ⟨#[]⟩] 72)):=(Below.refl _ _).alloc (Nat.le_refl _) _
 have hB:=Blk.new w 72 zcells
 go_enter Tryz.func30,Tryz.ntmps30
 go_wp2_with ((refine wpList_store_blk (by rfl) _ (.tmp 2) (.tmp 16) rfl w.heap.size zcells rfl rfl 72 zcells hB (by kernel_rfl) rfl (by decide) ?_; intro w6 hB6 hg6))
 have hl:=Go.run_loadVar_row (P:=Tryz.prog) w6 w.heap.size 72 72 zcells.toArray (0,0) _ hB6 Tryz.underlying72 rfl (by kernel_rfl)
 refine bodyPost_ret (v:=.tuple #[.agg zcells.toArray,.int .i64 2]) ?_ rfl ⟨rfl,hb1.grown hg6 hb1.size (fun k hk => by cases hk; exact Nat.le_refl _)⟩
 simp [results,Tryz.results30,asAddr,hl]
def RTree (B g gx N : Nat) (l0 : List UInt8) (b0 : Bool) (L : Nat) (w : World) (i : Value) (wr : World) : Prop :=
 ∃ (k : Nat) (en : List Ent) (A : Option Addr) (c : Nat) (l : List UInt8) (b : Bool),i = .int .i64 k ∧ k ≤ N ∧ Blk wr gx 72 (ocells 2 (.slice none 0 0) (.slice A en.length c) ⟨#[]⟩ (.slice none 0 0) ⟨#[]⟩ ⟨#[]⟩ ⟨#[]⟩ 0 ⟨#[]⟩) ∧ wr.ownsRow B 124 3 (.slice A en.length c) en.length (ec en) ∧ Rr wr B g l b ∧
  Hid (Sofar takeEnt N l0 b0 en (N - k) l b) ∧ Below B w wr ∧ N ≤ 4611686018427387903 ∧ en.length ≤ L + 1 ∧ (b = false → en.length * 32 + l.length ≤ L) ∧ Hid (∀ e ∈ en,e.name.size ≤ maxLen)
def RCom (B g gx N : Nat) (t : ByteArray) (l0 : List UInt8) (b0 : Bool) (L : Nat) (w : World) (i : Value) (wr : World) : Prop :=
 ∃ (k : Nat) (pa : List ByteArray) (A : Option Addr) (c : Nat) (l : List UInt8) (b : Bool),i = .int .i64 k ∧ k ≤ N ∧ Blk wr gx 72 (ocells 3 (.slice none 0 0) (.slice none 0 0) t (.slice A pa.length c) ⟨#[]⟩ ⟨#[]⟩ ⟨#[]⟩ 0 ⟨#[]⟩) ∧ wr.ownsRow B 9 1 (.slice A pa.length c) pa.length (pc pa) ∧ Rr wr B g l b ∧
  Hid (Sofar takePar N l0 b0 pa (N - k) l b) ∧ Below B w wr ∧ N ≤ 4611686018427387903 ∧ pa.length ≤ L + 1 ∧ (b = false → pa.length * 32 + l.length ≤ L) ∧ Hid (∀ p ∈ pa,p.size ≤ 32)
theorem refDecode1_calls (A : Option Addr) (l : List UInt8) (n c : Nat) (w : World) (hn : n = l.length + 1) (hr : Rd w w.heap.size 1 A n (bc (1 :: l))) (hc : n ≤ c) (hcm : c ≤ maxLen) (hl : l.length ≤ 140737488351231) :
  Calls Tryz.prog 30 #[.slice A n c] w (RetDec w (decO geS (1 :: l))):=by
 have d0 : ((n : Int) == 0) = false:=beq_eq_false_iff_ne.2 (by omega)
 have hn0 : (0 : Int) < (n : Int):=by omega
 obtain ⟨m,A',c',em,jm,jm',⟨rm,km,km'⟩,_,_,_,sm⟩:=sl_from (k:=1) (l:=1 :: l) (c:=c) 1 rfl (by rw [List.length_cons,← hn]; exact hr) (by simp) (by simp; omega) hcm
 rw [List.length_cons,← hn] at sm jm
 obtain ⟨gb,off,rfl,hgb,hcell⟩:=hr.at_ (by omega)
 have hml : m = l:=by rw [em.out]; rfl
 have hb1 : Below w.heap.size w (w.alloc (.cells #[.int .i64 0,.slice none 0 0,.slice none 0 0,.string ⟨#[]⟩,.slice none 0 0,.string ⟨#[]⟩,.string ⟨#[]⟩,.string ⟨#[]⟩,.int .i64 0,.string ⟨#[]⟩] 72)):=(Below.refl _ _).alloc (Nat.le_refl _) _
 have hb2:=hb1.alloc hb1.size (.cells #[.slice A' m.length c',.bool false] 127)
 have hb3:=hb2.alloc hb2.size (.cells #[.int .i64 1,.slice none 0 0,.slice none 0 0,.string ⟨#[]⟩,.slice none 0 0,.string ⟨#[]⟩,.string ⟨#[]⟩,.string ⟨#[]⟩,.int .i64 0,.string ⟨#[]⟩] 72)
 have hB1:=Blk.new w 72 zcells
 have hB3:=(hB1.alloc (.cells #[.slice A' m.length c',.bool false] 127)).alloc (.cells #[.int .i64 1,.slice none 0 0,.slice none 0 0,.string ⟨#[]⟩,.slice none 0 0,.string ⟨#[]⟩,.string ⟨#[]⟩,.string ⟨#[]⟩,.int .i64 0,.string ⟨#[]⟩] 72)
 have s1 : (w.alloc (.cells #[.int .i64 0,.slice none 0 0,.slice none 0 0,.string ⟨#[]⟩,.slice none 0 0,.string ⟨#[]⟩,.string ⟨#[]⟩,.string ⟨#[]⟩,.int .i64 0,.string ⟨#[]⟩] 72)).heap.size = w.heap.size + 1:=by simp
 have s2 : ((w.alloc (.cells #[.int .i64 0,.slice none 0 0,.slice none 0 0,.string ⟨#[]⟩,.slice none 0 0,.string ⟨#[]⟩,.string ⟨#[]⟩,.string ⟨#[]⟩,.int .i64 0,.string ⟨#[]⟩] 72)).alloc (.cells #[.slice A' m.length c',.bool false] 127)).heap.size = w.heap.size + 2:=by simp
 have s3 : (((w.alloc (.cells #[.int .i64 0,.slice none 0 0,.slice none 0 0,.string ⟨#[]⟩,.slice none 0 0,.string ⟨#[]⟩,.string ⟨#[]⟩,.string ⟨#[]⟩,.int .i64 0,.string ⟨#[]⟩] 72)).alloc (.cells #[.slice A' m.length c',.bool false] 127)).alloc (.cells #[.int .i64 1,.slice none 0 0,.slice none 0 0,.string ⟨#[]⟩,.slice none 0 0,.string ⟨#[]⟩,.string ⟨#[]⟩,.string ⟨#[]⟩,.int .i64 0,.string ⟨#[]⟩] 72)).heap.size = w.heap.size + 3:=by simp
 have hR2:=(Blk.new (w.alloc (.cells #[.int .i64 0,.slice none 0 0,.slice none 0 0,.string ⟨#[]⟩,.slice none 0 0,.string ⟨#[]⟩,.string ⟨#[]⟩,.string ⟨#[]⟩,.int .i64 0,.string ⟨#[]⟩] 72)) 127 [.slice A' m.length c',.bool false]).alloc (.cells #[.int .i64 1,.slice none 0 0,.slice none 0 0,.string ⟨#[]⟩,.slice none 0 0,.string ⟨#[]⟩,.string ⟨#[]⟩,.string ⟨#[]⟩,.int .i64 0,.string ⟨#[]⟩] 72)
 have hX3 : Blk (((w.alloc (.cells #[.int .i64 0,.slice none 0 0,.slice none 0 0,.string ⟨#[]⟩,.slice none 0 0,.string ⟨#[]⟩,.string ⟨#[]⟩,.string ⟨#[]⟩,.int .i64 0,.string ⟨#[]⟩] 72)).alloc (.cells #[.slice A' m.length c',.bool false] 127)).alloc (.cells #[.int .i64 1,.slice none 0 0,.slice none 0 0,.string ⟨#[]⟩,.slice none 0 0,.string ⟨#[]⟩,.string ⟨#[]⟩,.string ⟨#[]⟩,.int .i64 0,.string ⟨#[]⟩] 72)) (w.heap.size + 2) 72 (ocells 1 (.slice none 0 0) (.slice none 0 0) ⟨#[]⟩ (.slice none 0 0) ⟨#[]⟩ ⟨#[]⟩ ⟨#[]⟩ 0 ⟨#[]⟩):=by
  have h:=Blk.new ((w.alloc (.cells #[.int .i64 0,.slice none 0 0,.slice none 0 0,.string ⟨#[]⟩,.slice none 0 0,.string ⟨#[]⟩,.string ⟨#[]⟩,.string ⟨#[]⟩,.int .i64 0,.string ⟨#[]⟩] 72)).alloc (.cells #[.slice A' m.length c',.bool false] 127)) 72 (ocells 1 (.slice none 0 0) (.slice none 0 0) ⟨#[]⟩ (.slice none 0 0) ⟨#[]⟩ ⟨#[]⟩ ⟨#[]⟩ 0 ⟨#[]⟩)
  rw [s2] at h
  exact h
 rw [s1] at hR2
 obtain ⟨B,hBe⟩ : ∃ B,B = w.heap.size + 1:=⟨_,rfl⟩
 have hRr : Rr (((w.alloc (.cells #[.int .i64 0,.slice none 0 0,.slice none 0 0,.string ⟨#[]⟩,.slice none 0 0,.string ⟨#[]⟩,.string ⟨#[]⟩,.string ⟨#[]⟩,.int .i64 0,.string ⟨#[]⟩] 72)).alloc (.cells #[.slice A' m.length c',.bool false] 127)).alloc (.cells #[.int .i64 1,.slice none 0 0,.slice none 0 0,.string ⟨#[]⟩,.slice none 0 0,.string ⟨#[]⟩,.string ⟨#[]⟩,.string ⟨#[]⟩,.int .i64 0,.string ⟨#[]⟩] 72)) B (w.heap.size + 1) m false:=⟨A',c',hR2,Far.of_rd ((rm.below hb3).more (by omega)) (by omega),km,km',by omega,by omega⟩
 have hx1 : w.cell? ⟨gb,off,none⟩ = some (.int .u8 1):=hcell 0 (.int .u8 1) rfl
 have hwx : IntKind.i64.wrap 1 = 1:=by rfl
 have hBr : Below B (((w.alloc (.cells #[.int .i64 0,.slice none 0 0,.slice none 0 0,.string ⟨#[]⟩,.slice none 0 0,.string ⟨#[]⟩,.string ⟨#[]⟩,.string ⟨#[]⟩,.int .i64 0,.string ⟨#[]⟩] 72)).alloc (.cells #[.slice A' m.length c',.bool false] 127)).alloc (.cells #[.int .i64 1,.slice none 0 0,.slice none 0 0,.string ⟨#[]⟩,.slice none 0 0,.string ⟨#[]⟩,.string ⟨#[]⟩,.string ⟨#[]⟩,.int .i64 0,.string ⟨#[]⟩] 72)) (((w.alloc (.cells #[.int .i64 0,.slice none 0 0,.slice none 0 0,.string ⟨#[]⟩,.slice none 0 0,.string ⟨#[]⟩,.string ⟨#[]⟩,.string ⟨#[]⟩,.int .i64 0,.string ⟨#[]⟩] 72)).alloc (.cells #[.slice A' m.length c',.bool false] 127)).alloc (.cells #[.int .i64 1,.slice none 0 0,.slice none 0 0,.string ⟨#[]⟩,.slice none 0 0,.string ⟨#[]⟩,.string ⟨#[]⟩,.string ⟨#[]⟩,.int .i64 0,.string ⟨#[]⟩] 72)):=Below.refl _ _
 have hBw : B ≤ (((w.alloc (.cells #[.int .i64 0,.slice none 0 0,.slice none 0 0,.string ⟨#[]⟩,.slice none 0 0,.string ⟨#[]⟩,.string ⟨#[]⟩,.string ⟨#[]⟩,.int .i64 0,.string ⟨#[]⟩] 72)).alloc (.cells #[.slice A' m.length c',.bool false] 127)).alloc (.cells #[.int .i64 1,.slice none 0 0,.slice none 0 0,.string ⟨#[]⟩,.slice none 0 0,.string ⟨#[]⟩,.string ⟨#[]⟩,.string ⟨#[]⟩,.int .i64 0,.string ⟨#[]⟩] 72)).heap.size:=by omega
 clear hcell
 have HN:=Lib.hid hn
 have HML:=Lib.hid hml
 have hmlen : Hid (m.length = l.length):=by unfold Hid; rw [hml]
 clear hn hml
 go_enter Tryz.func30,Tryz.ntmps30
 have y1 : (((w.alloc (.cells #[.int .i64 0,.slice none 0 0,.slice none 0 0,.string ⟨#[]⟩,.slice none 0 0,.string ⟨#[]⟩,.string ⟨#[]⟩,.string ⟨#[]⟩,.int .i64 0,.string ⟨#[]⟩] 72)).alloc (.cells #[.slice A' m.length c',.bool false] 127)).alloc (.cells #[.int .i64 1,.slice none 0 0,.slice none 0 0,.string ⟨#[]⟩,.slice none 0 0,.string ⟨#[]⟩,.string ⟨#[]⟩,.string ⟨#[]⟩,.int .i64 0,.string ⟨#[]⟩] 72)).cell? ⟨w.heap.size + 2,1,none⟩ = some (.slice none 0 0):=by rw [hX3.cell]; rfl
 have y2 : (((w.alloc (.cells #[.int .i64 0,.slice none 0 0,.slice none 0 0,.string ⟨#[]⟩,.slice none 0 0,.string ⟨#[]⟩,.string ⟨#[]⟩,.string ⟨#[]⟩,.int .i64 0,.string ⟨#[]⟩] 72)).alloc (.cells #[.slice A' m.length c',.bool false] 127)).alloc (.cells #[.int .i64 1,.slice none 0 0,.slice none 0 0,.string ⟨#[]⟩,.slice none 0 0,.string ⟨#[]⟩,.string ⟨#[]⟩,.string ⟨#[]⟩,.int .i64 0,.string ⟨#[]⟩] 72)).cell? ⟨w.heap.size + 1,0,none⟩ = some (.slice A' m.length c'):=by rw [hR2.cell]; rfl
 go_wp2_with fail
 refine wp_region_last (S:=fun w' => w'.cell? ⟨w.heap.size + 2,1,none⟩ = some (.slice none 0 0) ∧ w'.cell? ⟨w.heap.size + 1,0,none⟩ = some (.slice A' m.length c')) 8 _ (by kernel_rfl) rfl (by kernel_rfl) rfl rfl ⟨y1,y2⟩ (fun hHeld => ?_)
 simp only [List.setIfInBounds_toArray,List.set_cons_zero,List.set_cons_succ,idle,List.getElem_toArray,List.getElem_cons_succ,List.getElem_cons_zero]
 refine tk 0 (.pointer (some ⟨w.heap.size + 2,1,none⟩)) rfl (fun _ _ _ h => h) (Or.inl ⟨by rfl,fun w' hS => ?_⟩) hHeld ?_
 ·obtain ⟨s0,s1⟩:=hS
  go_simp
 try simp only [Act.put,sA,sB,sC,sD,sF]
 refine tk 1 (.slice none 0 0) rfl (fun _ _ _ h => h) (Or.inl ⟨by rfl,fun w' hS => ?_⟩) hHeld ?_
 ·obtain ⟨s0,s1⟩:=hS
  go_simp
 try simp only [Act.put,sA,sB,sC,sD,sE,sF]
 refine tk 2 (.pointer (some ⟨w.heap.size + 1,0,none⟩)) rfl (fun _ _ _ h => h) (Or.inl ⟨by rfl,fun w' hS => ?_⟩) hHeld ?_
 ·obtain ⟨s0,s1⟩:=hS
  go_simp
 try simp only [Act.put,sA,sB,sC,sD,sE,sF]
 refine tk 3 (.pointer (some ⟨w.heap.size + 1,0,none⟩)) rfl (fun _ _ _ h => h) (Or.inl ⟨by rfl,fun w' hS => ?_⟩) hHeld ?_
 ·obtain ⟨s0,s1⟩:=hS
  go_simp
 try simp only [Act.put,sA,sB,sC,sD,sE,sF]
 refine tk 4 (.pointer (some ⟨w.heap.size + 1,0,none⟩)) rfl (fun _ _ _ h => h) (Or.inl ⟨by rfl,fun w' hS => ?_⟩) hHeld ?_
 ·obtain ⟨s0,s1⟩:=hS
  go_simp
 try simp only [Act.put,sA,sB,sC,sD,sE,sF]
 refine tk 5 (.slice A' m.length c') rfl (fun _ _ _ h => h) (Or.inl ⟨by rfl,fun w' hS => ?_⟩) hHeld ?_
 ·obtain ⟨s0,s1⟩:=hS
  go_simp
 try simp only [Act.put,sA,sB,sC,sD,sE,sF]
 refine wpAnyH_ready (rs:=[6]) (by kernel_rfl) (by simp) (AllReadyH.cons (o:=_) rfl (fun K hK => ?_) AllReadyH.nil)
 refine appS8r (by rfl) (.tmp 31) (.tmp 35) (by rfl) B _ 0 [] (by rfl) (w:=World.drew _) (World.ownsRow_nil _ _ _ _) _ A' m.length c' m (by rfl) ((rm.below hb3).drew) (by have:=hmlen.out; omega) hBw ?_
 intro d Ad cd w5 e5 ho5 hb5 hg5 _ _ _
 have hX5:=hX3.drew.grown hg5 (by simp [Value.ownBlock])
 have hR5:=hRr.drew.keep hg5 (by simp [Value.ownBlock]) (fun k hk => by simp [Value.ownBlock] at hk)
 have hB5:=hB3.drew.grown hg5 (by simp [Value.ownBlock])
 obtain ⟨Ar5,cr5,hRb5,_⟩:=id hR5
 have hRc5:=hR2.drew.grown hg5 (by simp [Value.ownBlock])
 have z1 : w5.cell? ⟨w.heap.size + 2,1,none⟩ = some (.slice none 0 0):=by rw [hX5.cell]; rfl
 have z2 : w5.cell? ⟨w.heap.size + 1,0,none⟩ = some (.slice A' m.length c'):=by rw [hRc5.cell]; rfl
 refine hK.out _ _ ⟨z1,z2⟩ (fun hHeld => ?_)
 clear hK K
 try simp only [Act.put,sA,sB,sC,sD,sE,sF]
 refine tk 7 (.pointer (some ⟨w.heap.size + 2,1,none⟩)) rfl (fun _ _ _ h => h) (Or.inl ⟨by rfl,fun w' hS => ?_⟩) hHeld ?_
 ·obtain ⟨s0,s1⟩:=hS
  go_simp
 try simp only [Act.put,sA,sB,sC,sD,sE,sF]
 refine tk 8 (undef) rfl (fun _ _ _ h => h) (Or.inl ⟨by rfl,fun w' hS => ?_⟩) hHeld ?_
 ·obtain ⟨s0,s1⟩:=hS
  go_simp
 try simp only [Act.put,sD,sE,sF]
 refine wpAnyH_done (by kernel_rfl) ?_ _
 have f5:=hX5.free 1
 simp only [lastQ]
 go_simp
 have hgx : w5.grownBy (w5.setCell ⟨w.heap.size + 2,1,none⟩ (.slice Ad d.length cd)) (some (w.heap.size + 2)):=grown_setCell (World.grownBy.refl w5 _) 1 _
 have hX : Blk (w5.setCell ⟨w.heap.size + 2,1,none⟩ (.slice Ad d.length cd)) (w.heap.size + 2) 72 (ocells 1 (.slice Ad d.length cd) (.slice none 0 0) ⟨#[]⟩ (.slice none 0 0) ⟨#[]⟩ ⟨#[]⟩ ⟨#[]⟩ 0 ⟨#[]⟩):=hX5.set 1 _
 have hRx:=hR5.keep hgx (fun e => by injection e; omega) (Other.blk hX5 (by decide) (by omega))
 have hBx:=hB5.grown hgx (fun e => by injection e; omega)
 have hdn : RdN _ B 1 Ad d.length (bc d):=RdN.own (own_other ho5 hX5 (by decide) hgx)
 have hbx:=hBr.trans (((Below.refl B _).drew.trans hb5).trans (below_of_grown hgx (by omega) (Nat.le_trans hBw hg5.size)))
 have hPo : Hid (Parsed (parseK 1 l) (⟨1,d,[],⟨#[]⟩,[],⟨#[]⟩,⟨#[]⟩,⟨#[]⟩,0,⟨#[]⟩⟩ : Go.Dol.Obj) false):=Lib.hid (.inr ⟨rfl,by rw [parseK1,e5.out,List.nil_append,HML.out]; rfl⟩)
 obtain ⟨b3,hb3e⟩ : ∃ b3,b3 = false:=⟨_,rfl⟩
 rw [← hb3e] at hRx hPo
 clear hb3e hX5 hR5 hB5 hRb5 hRc5 ho5 z1 z2 y1 y2 f5 hHeld
 obtain ⟨wx,hwx'⟩ : ∃ wx,wx = w5.setCell ⟨w.heap.size + 2,1,none⟩ (.slice Ad d.length cd):=⟨_,rfl⟩
 rw [← hwx'] at hX hRx hBx hdn hbx ⊢
 clear hwx' hgx hg5 hb5
 -- from here on: world wx; hX : Blk wx gx [C]; hRx : Rr wx B g l3 b3; hBx : Blk wx of the result; hbx : Below B W2 wx
 obtain ⟨z0,z1,z2,z3,z4,z5,z6,z7,z8,z9⟩:=obj_cells hX
 have hE:=refEncode_calls 1 Ad d cd none [] 0 ⟨#[]⟩ none [] 0 ⟨#[]⟩ ⟨#[]⟩ ⟨#[]⟩ 0 ⟨#[]⟩ wx hdn.1 Rd.nil Rd.nil (Nat.zero_le _) (Nat.zero_le _) (Lib.hid (by simp))
 clear hRr hR2 hB1 hX3 hBr
 go_wp2_with fail
 refine hE.mono ?_
 rintro e w6 ⟨hb6,hR6⟩
 have hR7:=hRx.below hb6
 have hB7:=hBx.below hb6 hBx.lt
 have hO7:=hX.below hb6 hX.lt
 have hsx:=hbx.size
 have hbe : Below w.heap.size w w6:=hb3.trans ((hbx.mono (by omega)).trans (hb6.mono (by omega)))
 obtain ⟨Ar,cr,hRb,_⟩:=id hR7
 have e1 : w6.cell? ⟨w.heap.size + 1,1,none⟩ = some (.bool b3):=by rw [hRb.cell]; rfl
 clear z0 z1 z2 z3 z4 z5 z6 z7 z8 z9 hE
 have hDec:=dec_of (ge:=geS) hPo.out
 rcases hR6 with ⟨hck,lo,Ao,co,el,rfl,ho6⟩ | ⟨hck,rfl⟩
 ·have HCK:=Lib.hid hck
  cases b3 with
  | true =>
   have HD : Hid (decO geS (1 :: l) = none):=by
    unfold Hid
    rw [hDec,if_neg (by simp)]
   clear hDec hck
   go_wp2_with ((refine wpList_store_blk (by rfl) _ (.tmp 2) (.tmp 141) rfl w.heap.size zcells rfl rfl 72 zcells hB7 (by kernel_rfl) rfl (by decide) ?_; intro w8 hB8 hg8))
   have hl:=Go.run_loadVar_row (P:=Tryz.prog) w8 w.heap.size 72 72 zcells.toArray (0,0) _ hB8 Tryz.underlying72 rfl (by kernel_rfl)
   rw [HD.out]
   refine bodyPost_ret (v:=.tuple #[.agg zcells.toArray,.int .i64 2]) ?_ rfl ⟨rfl,hbe.grown hg8 hbe.size (fun k hk => by cases hk; exact Nat.le_refl _)⟩
   simp [results,Tryz.results30,asAddr,hl]
  | false =>
   have hr6:=Rd.of_own ho6
   have hrb : Rd w6 w6.heap.size 1 (some ⟨gb,off,none⟩) (1 :: l).length (bc (1 :: l)):=by
    have:=(hr.below hbe).more hbe.size
    rwa [HN.out] at this
   have hnl : n = (1 :: l).length:=by rw [List.length_cons]; exact HN.out
   by_cases heq : lo = 1 :: l
   ·have HD : Hid (decO geS (1 :: l) = some ⟨1,d,[],⟨#[]⟩,[],⟨#[]⟩,⟨#[]⟩,⟨#[]⟩,0,⟨#[]⟩⟩):=by
     unfold Hid
     rw [hDec,if_pos ⟨rfl,HCK.out,by rw [← el.out]; exact heq⟩]
    have hq:=Same_calls Ao lo co (some ⟨gb,off,none⟩) (1 :: l) c w6 _ _ hr6 hrb (Lib.hid heq)
    rw [← hnl] at hq
    have HQ:=Lib.hid heq
    obtain ⟨z0,z1,z2,z3,z4,z5,z6,z7,z8,z9⟩:=obj_cells hO7
    clear hDec heq hr hrb hr6 hck hnl
    go_wp2_with ((first
     | (go_at_call 14; refine hq.mono ?_; rintro e w7 ⟨rfl,rfl⟩)
     | (refine wpList_store_blk (by rfl) _ (.tmp 2) (.tmp 142) rfl w.heap.size [.int .i64 1,.slice Ad d.length cd,.slice none 0 0,.string ⟨#[]⟩,.slice none 0 0,.string ⟨#[]⟩,.string ⟨#[]⟩,.string ⟨#[]⟩,.int .i64 0,.string ⟨#[]⟩] rfl rfl 72 zcells hB7 (by kernel_rfl) rfl (o_one _ _ _ _ _ _ _ _ _ _ rfl rfl rfl) ?_; intro w8 hB8 hg8)))
    have hl:=Go.run_loadVar_row (P:=Tryz.prog) w8 w.heap.size 72 72 #[.int .i64 1,.slice Ad d.length cd,.slice none 0 0,.string ⟨#[]⟩,.slice none 0 0,.string ⟨#[]⟩,.string ⟨#[]⟩,.string ⟨#[]⟩,.int .i64 0,.string ⟨#[]⟩] (0,0) _ hB8 Tryz.underlying72 rfl (by kernel_rfl)
    rw [HD.out]
    have hb9 : Below w.heap.size w w8:=hbe.grown hg8 hbe.size (fun k hk => by cases hk; exact Nat.le_refl _)
    refine bodyPost_ret (v:=.tuple #[.agg #[.int .i64 1,.slice Ad d.length cd,.slice none 0 0,.string ⟨#[]⟩,.slice none 0 0,.string ⟨#[]⟩,.string ⟨#[]⟩,.string ⟨#[]⟩,.int .i64 0,.string ⟨#[]⟩],.int .i64 0]) ?_ rfl ⟨1,Ad,d,cd,none,[],0,⟨#[]⟩,none,[],0,⟨#[]⟩,⟨#[]⟩,⟨#[]⟩,0,⟨#[]⟩,rfl,rfl,(((hdn.below hb6).apart hg8 (by omega)).lower (by omega)),RdN.nil,RdN.nil,hb9,(Nat.zero_le _),(Nat.zero_le _),(Lib.hid (by simp))⟩
    simp [results,Tryz.results30,asAddr,hl]
   ·have HD : Hid (decO geS (1 :: l) = none):=by
     unfold Hid
     rw [hDec,if_neg (by rintro ⟨_,_,h⟩; exact heq (by rw [el.out,h]))]
    have hq:=Same_no Ao lo co (some ⟨gb,off,none⟩) (1 :: l) c w6 _ _ hr6 hrb heq
    rw [← hnl] at hq
    clear hDec heq hr hrb hr6 hck hnl
    go_wp2_with ((first
     | (go_at_call 14; refine hq.mono ?_; rintro e w7 ⟨rfl,rfl⟩)
     | (refine wpList_store_blk (by rfl) _ (.tmp 2) (.tmp 141) rfl w.heap.size zcells rfl rfl 72 zcells hB7 (by kernel_rfl) rfl (by decide) ?_; intro w8 hB8 hg8)))
    have hl:=Go.run_loadVar_row (P:=Tryz.prog) w8 w.heap.size 72 72 zcells.toArray (0,0) _ hB8 Tryz.underlying72 rfl (by kernel_rfl)
    rw [HD.out]
    refine bodyPost_ret (v:=.tuple #[.agg zcells.toArray,.int .i64 2]) ?_ rfl ⟨rfl,hbe.grown hg8 hbe.size (fun k hk => by cases hk; exact Nat.le_refl _)⟩
    simp [results,Tryz.results30,asAddr,hl]
 ·have HD : Hid (decO geS (1 :: l) = none):=by
   unfold Hid
   rw [hDec,if_neg (by rw [hck]; simp)]
  clear hDec hck
  cases b3 with
  | true =>
   go_wp2_with ((refine wpList_store_blk (by rfl) _ (.tmp 2) (.tmp 141) rfl w.heap.size zcells rfl rfl 72 zcells hB7 (by kernel_rfl) rfl (by decide) ?_; intro w8 hB8 hg8))
   have hl:=Go.run_loadVar_row (P:=Tryz.prog) w8 w.heap.size 72 72 zcells.toArray (0,0) _ hB8 Tryz.underlying72 rfl (by kernel_rfl)
   rw [HD.out]
   refine bodyPost_ret (v:=.tuple #[.agg zcells.toArray,.int .i64 2]) ?_ rfl ⟨rfl,hbe.grown hg8 hbe.size (fun k hk => by cases hk; exact Nat.le_refl _)⟩
   simp [results,Tryz.results30,asAddr,hl]
  | false =>
   go_wp2_with ((refine wpList_store_blk (by rfl) _ (.tmp 2) (.tmp 141) rfl w.heap.size zcells rfl rfl 72 zcells hB7 (by kernel_rfl) rfl (by decide) ?_; intro w8 hB8 hg8))
   have hl:=Go.run_loadVar_row (P:=Tryz.prog) w8 w.heap.size 72 72 zcells.toArray (0,0) _ hB8 Tryz.underlying72 rfl (by kernel_rfl)
   rw [HD.out]
   refine bodyPost_ret (v:=.tuple #[.agg zcells.toArray,.int .i64 2]) ?_ rfl ⟨rfl,hbe.grown hg8 hbe.size (fun k hk => by cases hk; exact Nat.le_refl _)⟩
   simp [results,Tryz.results30,asAddr,hl]
theorem refDecode4_calls (A : Option Addr) (l : List UInt8) (n c : Nat) (w : World) (hn : n = l.length + 1) (hr : Rd w w.heap.size 1 A n (bc (4 :: l))) (hc : n ≤ c) (hcm : c ≤ maxLen) (hl : l.length ≤ 140737488351231) :
  Calls Tryz.prog 30 #[.slice A n c] w (RetDec w (decO geS (4 :: l))):=by
 have d0 : ((n : Int) == 0) = false:=beq_eq_false_iff_ne.2 (by omega)
 have hn0 : (0 : Int) < (n : Int):=by omega
 obtain ⟨m,A',c',em,jm,jm',⟨rm,km,km'⟩,_,_,_,sm⟩:=sl_from (k:=1) (l:=4 :: l) (c:=c) 1 rfl (by rw [List.length_cons,← hn]; exact hr) (by simp) (by simp; omega) hcm
 rw [List.length_cons,← hn] at sm jm
 obtain ⟨gb,off,rfl,hgb,hcell⟩:=hr.at_ (by omega)
 have hml : m = l:=by rw [em.out]; rfl
 have hb1 : Below w.heap.size w (w.alloc (.cells #[.int .i64 0,.slice none 0 0,.slice none 0 0,.string ⟨#[]⟩,.slice none 0 0,.string ⟨#[]⟩,.string ⟨#[]⟩,.string ⟨#[]⟩,.int .i64 0,.string ⟨#[]⟩] 72)):=(Below.refl _ _).alloc (Nat.le_refl _) _
 have hb2:=hb1.alloc hb1.size (.cells #[.slice A' m.length c',.bool false] 127)
 have hb3:=hb2.alloc hb2.size (.cells #[.int .i64 4,.slice none 0 0,.slice none 0 0,.string ⟨#[]⟩,.slice none 0 0,.string ⟨#[]⟩,.string ⟨#[]⟩,.string ⟨#[]⟩,.int .i64 0,.string ⟨#[]⟩] 72)
 have hB1:=Blk.new w 72 zcells
 have hB3:=(hB1.alloc (.cells #[.slice A' m.length c',.bool false] 127)).alloc (.cells #[.int .i64 4,.slice none 0 0,.slice none 0 0,.string ⟨#[]⟩,.slice none 0 0,.string ⟨#[]⟩,.string ⟨#[]⟩,.string ⟨#[]⟩,.int .i64 0,.string ⟨#[]⟩] 72)
 have s1 : (w.alloc (.cells #[.int .i64 0,.slice none 0 0,.slice none 0 0,.string ⟨#[]⟩,.slice none 0 0,.string ⟨#[]⟩,.string ⟨#[]⟩,.string ⟨#[]⟩,.int .i64 0,.string ⟨#[]⟩] 72)).heap.size = w.heap.size + 1:=by simp
 have s2 : ((w.alloc (.cells #[.int .i64 0,.slice none 0 0,.slice none 0 0,.string ⟨#[]⟩,.slice none 0 0,.string ⟨#[]⟩,.string ⟨#[]⟩,.string ⟨#[]⟩,.int .i64 0,.string ⟨#[]⟩] 72)).alloc (.cells #[.slice A' m.length c',.bool false] 127)).heap.size = w.heap.size + 2:=by simp
 have s3 : (((w.alloc (.cells #[.int .i64 0,.slice none 0 0,.slice none 0 0,.string ⟨#[]⟩,.slice none 0 0,.string ⟨#[]⟩,.string ⟨#[]⟩,.string ⟨#[]⟩,.int .i64 0,.string ⟨#[]⟩] 72)).alloc (.cells #[.slice A' m.length c',.bool false] 127)).alloc (.cells #[.int .i64 4,.slice none 0 0,.slice none 0 0,.string ⟨#[]⟩,.slice none 0 0,.string ⟨#[]⟩,.string ⟨#[]⟩,.string ⟨#[]⟩,.int .i64 0,.string ⟨#[]⟩] 72)).heap.size = w.heap.size + 3:=by simp
 have hR2:=(Blk.new (w.alloc (.cells #[.int .i64 0,.slice none 0 0,.slice none 0 0,.string ⟨#[]⟩,.slice none 0 0,.string ⟨#[]⟩,.string ⟨#[]⟩,.string ⟨#[]⟩,.int .i64 0,.string ⟨#[]⟩] 72)) 127 [.slice A' m.length c',.bool false]).alloc (.cells #[.int .i64 4,.slice none 0 0,.slice none 0 0,.string ⟨#[]⟩,.slice none 0 0,.string ⟨#[]⟩,.string ⟨#[]⟩,.string ⟨#[]⟩,.int .i64 0,.string ⟨#[]⟩] 72)
 have hX3 : Blk (((w.alloc (.cells #[.int .i64 0,.slice none 0 0,.slice none 0 0,.string ⟨#[]⟩,.slice none 0 0,.string ⟨#[]⟩,.string ⟨#[]⟩,.string ⟨#[]⟩,.int .i64 0,.string ⟨#[]⟩] 72)).alloc (.cells #[.slice A' m.length c',.bool false] 127)).alloc (.cells #[.int .i64 4,.slice none 0 0,.slice none 0 0,.string ⟨#[]⟩,.slice none 0 0,.string ⟨#[]⟩,.string ⟨#[]⟩,.string ⟨#[]⟩,.int .i64 0,.string ⟨#[]⟩] 72)) (w.heap.size + 2) 72 (ocells 4 (.slice none 0 0) (.slice none 0 0) ⟨#[]⟩ (.slice none 0 0) ⟨#[]⟩ ⟨#[]⟩ ⟨#[]⟩ 0 ⟨#[]⟩):=by
  have h:=Blk.new ((w.alloc (.cells #[.int .i64 0,.slice none 0 0,.slice none 0 0,.string ⟨#[]⟩,.slice none 0 0,.string ⟨#[]⟩,.string ⟨#[]⟩,.string ⟨#[]⟩,.int .i64 0,.string ⟨#[]⟩] 72)).alloc (.cells #[.slice A' m.length c',.bool false] 127)) 72 (ocells 4 (.slice none 0 0) (.slice none 0 0) ⟨#[]⟩ (.slice none 0 0) ⟨#[]⟩ ⟨#[]⟩ ⟨#[]⟩ 0 ⟨#[]⟩)
  rw [s2] at h
  exact h
 rw [s1] at hR2
 obtain ⟨B,hBe⟩ : ∃ B,B = w.heap.size + 1:=⟨_,rfl⟩
 have hRr : Rr (((w.alloc (.cells #[.int .i64 0,.slice none 0 0,.slice none 0 0,.string ⟨#[]⟩,.slice none 0 0,.string ⟨#[]⟩,.string ⟨#[]⟩,.string ⟨#[]⟩,.int .i64 0,.string ⟨#[]⟩] 72)).alloc (.cells #[.slice A' m.length c',.bool false] 127)).alloc (.cells #[.int .i64 4,.slice none 0 0,.slice none 0 0,.string ⟨#[]⟩,.slice none 0 0,.string ⟨#[]⟩,.string ⟨#[]⟩,.string ⟨#[]⟩,.int .i64 0,.string ⟨#[]⟩] 72)) B (w.heap.size + 1) m false:=⟨A',c',hR2,Far.of_rd ((rm.below hb3).more (by omega)) (by omega),km,km',by omega,by omega⟩
 have hx1 : w.cell? ⟨gb,off,none⟩ = some (.int .u8 4):=hcell 0 (.int .u8 4) rfl
 have hwx : IntKind.i64.wrap 4 = 4:=by rfl
 have hBr : Below B (((w.alloc (.cells #[.int .i64 0,.slice none 0 0,.slice none 0 0,.string ⟨#[]⟩,.slice none 0 0,.string ⟨#[]⟩,.string ⟨#[]⟩,.string ⟨#[]⟩,.int .i64 0,.string ⟨#[]⟩] 72)).alloc (.cells #[.slice A' m.length c',.bool false] 127)).alloc (.cells #[.int .i64 4,.slice none 0 0,.slice none 0 0,.string ⟨#[]⟩,.slice none 0 0,.string ⟨#[]⟩,.string ⟨#[]⟩,.string ⟨#[]⟩,.int .i64 0,.string ⟨#[]⟩] 72)) (((w.alloc (.cells #[.int .i64 0,.slice none 0 0,.slice none 0 0,.string ⟨#[]⟩,.slice none 0 0,.string ⟨#[]⟩,.string ⟨#[]⟩,.string ⟨#[]⟩,.int .i64 0,.string ⟨#[]⟩] 72)).alloc (.cells #[.slice A' m.length c',.bool false] 127)).alloc (.cells #[.int .i64 4,.slice none 0 0,.slice none 0 0,.string ⟨#[]⟩,.slice none 0 0,.string ⟨#[]⟩,.string ⟨#[]⟩,.string ⟨#[]⟩,.int .i64 0,.string ⟨#[]⟩] 72)):=Below.refl _ _
 have hBw : B ≤ (((w.alloc (.cells #[.int .i64 0,.slice none 0 0,.slice none 0 0,.string ⟨#[]⟩,.slice none 0 0,.string ⟨#[]⟩,.string ⟨#[]⟩,.string ⟨#[]⟩,.int .i64 0,.string ⟨#[]⟩] 72)).alloc (.cells #[.slice A' m.length c',.bool false] 127)).alloc (.cells #[.int .i64 4,.slice none 0 0,.slice none 0 0,.string ⟨#[]⟩,.slice none 0 0,.string ⟨#[]⟩,.string ⟨#[]⟩,.string ⟨#[]⟩,.int .i64 0,.string ⟨#[]⟩] 72)).heap.size:=by omega
 clear hcell
 have HN:=Lib.hid hn
 have HML:=Lib.hid hml
 have hmlen : Hid (m.length = l.length):=by unfold Hid; rw [hml]
 clear hn hml
 go_enter Tryz.func30,Tryz.ntmps30
 go_wp2_with fail
 refine (rrBytes_calls B (w.heap.size + 1) 32 32 rfl m false _ hRr).mono ?_
 rintro e wa1 ⟨v1,la1,ba1,rfl,ra1,t1,ga1,qa1,va1⟩
 obtain ⟨Ax1,cx1,Rb1,_⟩:=id hRr
 have Xa1:=hX3.grown ga1 (blk_apart hX3 Rb1 (by decide))
 have Ba1:=hB3.grown ga1 (blk_apart hB3 Rb1 (by decide))
 have ha1:=hBr.trans (below_of_grown ga1 (by omega) (Nat.le_trans hBw hBr.size))
 obtain ⟨k10,k11,k12,k13,k14,k15,k16,k17,k18,k19⟩:=obj_cells Xa1
 have fr1:=Xa1.free 5
 have gs1 : wa1.grownBy (wa1.setCell ⟨w.heap.size + 2,5,none⟩ (.string ⟨v1.toArray⟩)) (some (w.heap.size + 2)):=grown_setCell (World.grownBy.refl _ _) 5 _
 have Xs1 : Blk (wa1.setCell ⟨w.heap.size + 2,5,none⟩ (.string ⟨v1.toArray⟩)) (w.heap.size + 2) 72 (ocells 4 (.slice none 0 0) (.slice none 0 0) ⟨#[]⟩ (.slice none 0 0) ⟨v1.toArray⟩ ⟨#[]⟩ ⟨#[]⟩ 0 ⟨#[]⟩):=Xa1.set 5 _
 have rs1:=ra1.keep gs1 (fun e => by injection e; omega) (Other.blk Xa1 (by decide) (by omega))
 have Bs1:=Ba1.grown gs1 (fun e => by injection e; omega)
 have hs1:=ha1.trans (below_of_grown gs1 (by omega) (Nat.le_trans hBw ha1.size))
 unfold mkS
 go_wp2_with fail
 refine (rrText_calls B (w.heap.size + 1) la1 ba1 _ rs1).mono ?_
 rintro e wa2 ⟨v2,la2,ba2,rfl,ra2,t2,ga2,qa2,va2⟩
 obtain ⟨Ax2,cx2,Rb2,_⟩:=id rs1
 have Xa2:=Xs1.grown ga2 (blk_apart Xs1 Rb2 (by decide))
 have Ba2:=Bs1.grown ga2 (blk_apart Bs1 Rb2 (by decide))
 have ha2:=hs1.trans (below_of_grown ga2 (by omega) (Nat.le_trans hBw hs1.size))
 obtain ⟨k20,k21,k22,k23,k24,k25,k26,k27,k28,k29⟩:=obj_cells Xa2
 have fr2:=Xa2.free 6
 have gs2 : wa2.grownBy (wa2.setCell ⟨w.heap.size + 2,6,none⟩ (.string ⟨v2.toArray⟩)) (some (w.heap.size + 2)):=grown_setCell (World.grownBy.refl _ _) 6 _
 have Xs2 : Blk (wa2.setCell ⟨w.heap.size + 2,6,none⟩ (.string ⟨v2.toArray⟩)) (w.heap.size + 2) 72 (ocells 4 (.slice none 0 0) (.slice none 0 0) ⟨#[]⟩ (.slice none 0 0) ⟨v1.toArray⟩ ⟨v2.toArray⟩ ⟨#[]⟩ 0 ⟨#[]⟩):=Xa2.set 6 _
 have rs2:=ra2.keep gs2 (fun e => by injection e; omega) (Other.blk Xa2 (by decide) (by omega))
 have Bs2:=Ba2.grown gs2 (fun e => by injection e; omega)
 have hs2:=ha2.trans (below_of_grown gs2 (by omega) (Nat.le_trans hBw ha2.size))
 unfold mkS
 go_wp2_with fail
 refine (rrText_calls B (w.heap.size + 1) la2 ba2 _ rs2).mono ?_
 rintro e wa3 ⟨v3,la3,ba3,rfl,ra3,t3,ga3,qa3,va3⟩
 obtain ⟨Ax3,cx3,Rb3,_⟩:=id rs2
 have Xa3:=Xs2.grown ga3 (blk_apart Xs2 Rb3 (by decide))
 have Ba3:=Bs2.grown ga3 (blk_apart Bs2 Rb3 (by decide))
 have ha3:=hs2.trans (below_of_grown ga3 (by omega) (Nat.le_trans hBw hs2.size))
 obtain ⟨k30,k31,k32,k33,k34,k35,k36,k37,k38,k39⟩:=obj_cells Xa3
 have fr3:=Xa3.free 7
 have gs3 : wa3.grownBy (wa3.setCell ⟨w.heap.size + 2,7,none⟩ (.string ⟨v3.toArray⟩)) (some (w.heap.size + 2)):=grown_setCell (World.grownBy.refl _ _) 7 _
 have Xs3 : Blk (wa3.setCell ⟨w.heap.size + 2,7,none⟩ (.string ⟨v3.toArray⟩)) (w.heap.size + 2) 72 (ocells 4 (.slice none 0 0) (.slice none 0 0) ⟨#[]⟩ (.slice none 0 0) ⟨v1.toArray⟩ ⟨v2.toArray⟩ ⟨v3.toArray⟩ 0 ⟨#[]⟩):=Xa3.set 7 _
 have rs3:=ra3.keep gs3 (fun e => by injection e; omega) (Other.blk Xa3 (by decide) (by omega))
 have Bs3:=Ba3.grown gs3 (fun e => by injection e; omega)
 have hs3:=ha3.trans (below_of_grown gs3 (by omega) (Nat.le_trans hBw ha3.size))
 unfold mkS
 go_wp2_with fail
 refine (rrNum_calls B (w.heap.size + 1) la3 ba3 _ rs3).mono ?_
 rintro e wa4 ⟨v4,la4,ba4,rfl,ra4,t4,ga4,qa4,va4⟩
 obtain ⟨Ax4,cx4,Rb4,_⟩:=id rs3
 have Xa4:=Xs3.grown ga4 (blk_apart Xs3 Rb4 (by decide))
 have Ba4:=Bs3.grown ga4 (blk_apart Bs3 Rb4 (by decide))
 have ha4:=hs3.trans (below_of_grown ga4 (by omega) (Nat.le_trans hBw hs3.size))
 obtain ⟨k40,k41,k42,k43,k44,k45,k46,k47,k48,k49⟩:=obj_cells Xa4
 have fr4:=Xa4.free 8
 have gs4 : wa4.grownBy (wa4.setCell ⟨w.heap.size + 2,8,none⟩ (.int .i64 (v4 : Nat))) (some (w.heap.size + 2)):=grown_setCell (World.grownBy.refl _ _) 8 _
 have Xs4 : Blk (wa4.setCell ⟨w.heap.size + 2,8,none⟩ (.int .i64 (v4 : Nat))) (w.heap.size + 2) 72 (ocells 4 (.slice none 0 0) (.slice none 0 0) ⟨#[]⟩ (.slice none 0 0) ⟨v1.toArray⟩ ⟨v2.toArray⟩ ⟨v3.toArray⟩ (v4 : Nat) ⟨#[]⟩):=Xa4.set 8 _
 have rs4:=ra4.keep gs4 (fun e => by injection e; omega) (Other.blk Xa4 (by decide) (by omega))
 have Bs4:=Ba4.grown gs4 (fun e => by injection e; omega)
 have hs4:=ha4.trans (below_of_grown gs4 (by omega) (Nat.le_trans hBw ha4.size))
 unfold mkN
 go_wp2_with fail
 refine (rrText_calls B (w.heap.size + 1) la4 ba4 _ rs4).mono ?_
 rintro e wa5 ⟨v5,la5,ba5,rfl,ra5,t5,ga5,qa5,va5⟩
 obtain ⟨Ax5,cx5,Rb5,_⟩:=id rs4
 have Xa5:=Xs4.grown ga5 (blk_apart Xs4 Rb5 (by decide))
 have Ba5:=Bs4.grown ga5 (blk_apart Bs4 Rb5 (by decide))
 have ha5:=hs4.trans (below_of_grown ga5 (by omega) (Nat.le_trans hBw hs4.size))
 obtain ⟨k50,k51,k52,k53,k54,k55,k56,k57,k58,k59⟩:=obj_cells Xa5
 have fr5:=Xa5.free 9
 have gs5 : wa5.grownBy (wa5.setCell ⟨w.heap.size + 2,9,none⟩ (.string ⟨v5.toArray⟩)) (some (w.heap.size + 2)):=grown_setCell (World.grownBy.refl _ _) 9 _
 have Xs5 : Blk (wa5.setCell ⟨w.heap.size + 2,9,none⟩ (.string ⟨v5.toArray⟩)) (w.heap.size + 2) 72 (ocells 4 (.slice none 0 0) (.slice none 0 0) ⟨#[]⟩ (.slice none 0 0) ⟨v1.toArray⟩ ⟨v2.toArray⟩ ⟨v3.toArray⟩ (v4 : Nat) ⟨v5.toArray⟩):=Xa5.set 9 _
 have rs5:=ra5.keep gs5 (fun e => by injection e; omega) (Other.blk Xa5 (by decide) (by omega))
 have Bs5:=Ba5.grown gs5 (fun e => by injection e; omega)
 have hs5:=ha5.trans (below_of_grown gs5 (by omega) (Nat.le_trans hBw ha5.size))
 unfold mkS
 have hPo : Hid (Parsed (parseK 4 l) (⟨4,[],[],⟨#[]⟩,[],⟨v1.toArray⟩,⟨v2.toArray⟩,⟨v3.toArray⟩,(v4 : Nat),⟨v5.toArray⟩⟩ : Go.Dol.Obj) ba5):=Lib.hid (by
  have h:=parsed_tag t1.out t2.out (took_told t3.out t4.out t5.out)
  rw [HML.out] at h
  rw [parseK4]
  exact h)
 obtain ⟨ta,hta⟩ : ∃ ta : ByteArray,ta = ⟨v1.toArray⟩:=⟨_,rfl⟩
 obtain ⟨na,hna⟩ : ∃ na : ByteArray,na = ⟨v2.toArray⟩:=⟨_,rfl⟩
 obtain ⟨wh,hwh⟩ : ∃ wh : ByteArray,wh = ⟨v3.toArray⟩:=⟨_,rfl⟩
 obtain ⟨st,hst⟩ : ∃ st : Int,st = ((v4 : Nat) : Int):=⟨_,rfl⟩
 obtain ⟨te,hte⟩ : ∃ te : ByteArray,te = ⟨v5.toArray⟩:=⟨_,rfl⟩
 rw [← hta,← hna,← hwh,← hst,← hte] at Xs5 hPo ⊢
 rw [← hte] at rs5 Bs5 hs5
 obtain ⟨b3,hb3e⟩ : ∃ b3,b3 = ba5:=⟨_,rfl⟩
 rw [← hb3e] at rs5 hPo
 have hX:=Xs5
 have hRx:=rs5
 have hBx:=Bs5
 have hbx:=hs5
 clear hta hna hwh hst hte hb3e Xs5 rs5 Bs5 hs5 Xa1 Xa2 Xa3 Xa4 Ba1 Ba2 Ba3 Ba4 Xs1 Xs2 Xs3 Xs4 rs1 rs2 rs3 rs4 Bs1 Bs2 Bs3 Bs4 ra1 ra2 ra3 ra4 ra5 Rb1 Rb2 Rb3 Rb4 Rb5 t1 t2 t3 t4 t5 ha1 ha2 ha3 ha4 hs1 hs2 hs3 hs4 k10 k11 k12 k13 k14 k15 k16 k17 k18 k19 k20 k21 k22 k23 k24 k25 k26 k27 k28 k29 k30 k31 k32 k33 k34 k35 k36 k37 k38 k39 k40 k41 k42 k43 k44 k45 k46 k47 k48 k49
 -- from here on: world wx; hX : Blk (wa5.setCell ⟨w.heap.size + 2, 9, none⟩ (.string te)) gx [C]; hRx : Rr (wa5.setCell ⟨w.heap.size + 2, 9, none⟩ (.string te)) B g l3 b3; hBx : Blk (wa5.setCell ⟨w.heap.size + 2, 9, none⟩ (.string te)) of the result; hbx : Below B W2 wx
 obtain ⟨z0,z1,z2,z3,z4,z5,z6,z7,z8,z9⟩:=obj_cells hX
 have hE:=refEncode_calls 4 none [] 0 none [] 0 ⟨#[]⟩ none [] 0 ta na wh st te (wa5.setCell ⟨w.heap.size + 2,9,none⟩ (.string te)) Rd.nil Rd.nil Rd.nil (Nat.zero_le _) (Nat.zero_le _) (Lib.hid (by simp))
 clear hRr hR2 hB1 hX3 hBr
 go_wp2_with fail
 refine hE.mono ?_
 rintro e w6 ⟨hb6,hR6⟩
 have hR7:=hRx.below hb6
 have hB7:=hBx.below hb6 hBx.lt
 have hO7:=hX.below hb6 hX.lt
 have hsx:=hbx.size
 have hbe : Below w.heap.size w w6:=hb3.trans ((hbx.mono (by omega)).trans (hb6.mono (by omega)))
 obtain ⟨Ar,cr,hRb,_⟩:=id hR7
 have e1 : w6.cell? ⟨w.heap.size + 1,1,none⟩ = some (.bool b3):=by rw [hRb.cell]; rfl
 clear z0 z1 z2 z3 z4 z5 z6 z7 z8 z9 hE
 have hDec:=dec_of (ge:=geS) hPo.out
 rcases hR6 with ⟨hck,lo,Ao,co,el,rfl,ho6⟩ | ⟨hck,rfl⟩
 ·have HCK:=Lib.hid hck
  cases b3 with
  | true =>
   have HD : Hid (decO geS (4 :: l) = none):=by
    unfold Hid
    rw [hDec,if_neg (by simp)]
   clear hDec hck
   go_wp2_with ((refine wpList_store_blk (by rfl) _ (.tmp 2) (.tmp 141) rfl w.heap.size zcells rfl rfl 72 zcells hB7 (by kernel_rfl) rfl (by decide) ?_; intro w8 hB8 hg8))
   have hl:=Go.run_loadVar_row (P:=Tryz.prog) w8 w.heap.size 72 72 zcells.toArray (0,0) _ hB8 Tryz.underlying72 rfl (by kernel_rfl)
   rw [HD.out]
   refine bodyPost_ret (v:=.tuple #[.agg zcells.toArray,.int .i64 2]) ?_ rfl ⟨rfl,hbe.grown hg8 hbe.size (fun k hk => by cases hk; exact Nat.le_refl _)⟩
   simp [results,Tryz.results30,asAddr,hl]
  | false =>
   have hr6:=Rd.of_own ho6
   have hrb : Rd w6 w6.heap.size 1 (some ⟨gb,off,none⟩) (4 :: l).length (bc (4 :: l)):=by
    have:=(hr.below hbe).more hbe.size
    rwa [HN.out] at this
   have hnl : n = (4 :: l).length:=by rw [List.length_cons]; exact HN.out
   by_cases heq : lo = 4 :: l
   ·have HD : Hid (decO geS (4 :: l) = some ⟨4,[],[],⟨#[]⟩,[],ta,na,wh,st,te⟩):=by
     unfold Hid
     rw [hDec,if_pos ⟨rfl,HCK.out,by rw [← el.out]; exact heq⟩]
    have hq:=Same_calls Ao lo co (some ⟨gb,off,none⟩) (4 :: l) c w6 _ _ hr6 hrb (Lib.hid heq)
    rw [← hnl] at hq
    have HQ:=Lib.hid heq
    obtain ⟨z0,z1,z2,z3,z4,z5,z6,z7,z8,z9⟩:=obj_cells hO7
    clear hDec heq hr hrb hr6 hck hnl
    go_wp2_with ((first
     | (go_at_call 14; refine hq.mono ?_; rintro e w7 ⟨rfl,rfl⟩)
     | (refine wpList_store_blk (by rfl) _ (.tmp 2) (.tmp 142) rfl w.heap.size [.int .i64 4,.slice none 0 0,.slice none 0 0,.string ⟨#[]⟩,.slice none 0 0,.string ta,.string na,.string wh,.int .i64 st,.string te] rfl rfl 72 zcells hB7 (by kernel_rfl) rfl (o_one _ _ _ _ _ _ _ _ _ _ rfl rfl rfl) ?_; intro w8 hB8 hg8)))
    have hl:=Go.run_loadVar_row (P:=Tryz.prog) w8 w.heap.size 72 72 #[.int .i64 4,.slice none 0 0,.slice none 0 0,.string ⟨#[]⟩,.slice none 0 0,.string ta,.string na,.string wh,.int .i64 st,.string te] (0,0) _ hB8 Tryz.underlying72 rfl (by kernel_rfl)
    rw [HD.out]
    have hb9 : Below w.heap.size w w8:=hbe.grown hg8 hbe.size (fun k hk => by cases hk; exact Nat.le_refl _)
    refine bodyPost_ret (v:=.tuple #[.agg #[.int .i64 4,.slice none 0 0,.slice none 0 0,.string ⟨#[]⟩,.slice none 0 0,.string ta,.string na,.string wh,.int .i64 st,.string te],.int .i64 0]) ?_ rfl ⟨4,none,[],0,none,[],0,⟨#[]⟩,none,[],0,ta,na,wh,st,te,rfl,rfl,RdN.nil,RdN.nil,RdN.nil,hb9,(Nat.zero_le _),(Nat.zero_le _),(Lib.hid (by simp))⟩
    simp [results,Tryz.results30,asAddr,hl]
   ·have HD : Hid (decO geS (4 :: l) = none):=by
     unfold Hid
     rw [hDec,if_neg (by rintro ⟨_,_,h⟩; exact heq (by rw [el.out,h]))]
    have hq:=Same_no Ao lo co (some ⟨gb,off,none⟩) (4 :: l) c w6 _ _ hr6 hrb heq
    rw [← hnl] at hq
    clear hDec heq hr hrb hr6 hck hnl
    go_wp2_with ((first
     | (go_at_call 14; refine hq.mono ?_; rintro e w7 ⟨rfl,rfl⟩)
     | (refine wpList_store_blk (by rfl) _ (.tmp 2) (.tmp 141) rfl w.heap.size zcells rfl rfl 72 zcells hB7 (by kernel_rfl) rfl (by decide) ?_; intro w8 hB8 hg8)))
    have hl:=Go.run_loadVar_row (P:=Tryz.prog) w8 w.heap.size 72 72 zcells.toArray (0,0) _ hB8 Tryz.underlying72 rfl (by kernel_rfl)
    rw [HD.out]
    refine bodyPost_ret (v:=.tuple #[.agg zcells.toArray,.int .i64 2]) ?_ rfl ⟨rfl,hbe.grown hg8 hbe.size (fun k hk => by cases hk; exact Nat.le_refl _)⟩
    simp [results,Tryz.results30,asAddr,hl]
 ·have HD : Hid (decO geS (4 :: l) = none):=by
   unfold Hid
   rw [hDec,if_neg (by rw [hck]; simp)]
  clear hDec hck
  cases b3 with
  | true =>
   go_wp2_with ((refine wpList_store_blk (by rfl) _ (.tmp 2) (.tmp 141) rfl w.heap.size zcells rfl rfl 72 zcells hB7 (by kernel_rfl) rfl (by decide) ?_; intro w8 hB8 hg8))
   have hl:=Go.run_loadVar_row (P:=Tryz.prog) w8 w.heap.size 72 72 zcells.toArray (0,0) _ hB8 Tryz.underlying72 rfl (by kernel_rfl)
   rw [HD.out]
   refine bodyPost_ret (v:=.tuple #[.agg zcells.toArray,.int .i64 2]) ?_ rfl ⟨rfl,hbe.grown hg8 hbe.size (fun k hk => by cases hk; exact Nat.le_refl _)⟩
   simp [results,Tryz.results30,asAddr,hl]
  | false =>
   go_wp2_with ((refine wpList_store_blk (by rfl) _ (.tmp 2) (.tmp 141) rfl w.heap.size zcells rfl rfl 72 zcells hB7 (by kernel_rfl) rfl (by decide) ?_; intro w8 hB8 hg8))
   have hl:=Go.run_loadVar_row (P:=Tryz.prog) w8 w.heap.size 72 72 zcells.toArray (0,0) _ hB8 Tryz.underlying72 rfl (by kernel_rfl)
   rw [HD.out]
   refine bodyPost_ret (v:=.tuple #[.agg zcells.toArray,.int .i64 2]) ?_ rfl ⟨rfl,hbe.grown hg8 hbe.size (fun k hk => by cases hk; exact Nat.le_refl _)⟩
   simp [results,Tryz.results30,asAddr,hl]
theorem refDecode2_calls (A : Option Addr) (l : List UInt8) (n c : Nat) (w : World) (hn : n = l.length + 1) (hr : Rd w w.heap.size 1 A n (bc (2 :: l))) (hc : n ≤ c) (hcm : c ≤ maxLen) (hl : l.length ≤ 140737488351231) :
  Calls Tryz.prog 30 #[.slice A n c] w (RetDec w (decO geS (2 :: l))):=by
 have d0 : ((n : Int) == 0) = false:=beq_eq_false_iff_ne.2 (by omega)
 have hn0 : (0 : Int) < (n : Int):=by omega
 obtain ⟨m,A',c',em,jm,jm',⟨rm,km,km'⟩,_,_,_,sm⟩:=sl_from (k:=1) (l:=2 :: l) (c:=c) 1 rfl (by rw [List.length_cons,← hn]; exact hr) (by simp) (by simp; omega) hcm
 rw [List.length_cons,← hn] at sm jm
 obtain ⟨gb,off,rfl,hgb,hcell⟩:=hr.at_ (by omega)
 have hml : m = l:=by rw [em.out]; rfl
 have hb1 : Below w.heap.size w (w.alloc (.cells #[.int .i64 0,.slice none 0 0,.slice none 0 0,.string ⟨#[]⟩,.slice none 0 0,.string ⟨#[]⟩,.string ⟨#[]⟩,.string ⟨#[]⟩,.int .i64 0,.string ⟨#[]⟩] 72)):=(Below.refl _ _).alloc (Nat.le_refl _) _
 have hb2:=hb1.alloc hb1.size (.cells #[.slice A' m.length c',.bool false] 127)
 have hb3:=hb2.alloc hb2.size (.cells #[.int .i64 2,.slice none 0 0,.slice none 0 0,.string ⟨#[]⟩,.slice none 0 0,.string ⟨#[]⟩,.string ⟨#[]⟩,.string ⟨#[]⟩,.int .i64 0,.string ⟨#[]⟩] 72)
 have hB1:=Blk.new w 72 zcells
 have hB3:=(hB1.alloc (.cells #[.slice A' m.length c',.bool false] 127)).alloc (.cells #[.int .i64 2,.slice none 0 0,.slice none 0 0,.string ⟨#[]⟩,.slice none 0 0,.string ⟨#[]⟩,.string ⟨#[]⟩,.string ⟨#[]⟩,.int .i64 0,.string ⟨#[]⟩] 72)
 have s1 : (w.alloc (.cells #[.int .i64 0,.slice none 0 0,.slice none 0 0,.string ⟨#[]⟩,.slice none 0 0,.string ⟨#[]⟩,.string ⟨#[]⟩,.string ⟨#[]⟩,.int .i64 0,.string ⟨#[]⟩] 72)).heap.size = w.heap.size + 1:=by simp
 have s2 : ((w.alloc (.cells #[.int .i64 0,.slice none 0 0,.slice none 0 0,.string ⟨#[]⟩,.slice none 0 0,.string ⟨#[]⟩,.string ⟨#[]⟩,.string ⟨#[]⟩,.int .i64 0,.string ⟨#[]⟩] 72)).alloc (.cells #[.slice A' m.length c',.bool false] 127)).heap.size = w.heap.size + 2:=by simp
 have s3 : (((w.alloc (.cells #[.int .i64 0,.slice none 0 0,.slice none 0 0,.string ⟨#[]⟩,.slice none 0 0,.string ⟨#[]⟩,.string ⟨#[]⟩,.string ⟨#[]⟩,.int .i64 0,.string ⟨#[]⟩] 72)).alloc (.cells #[.slice A' m.length c',.bool false] 127)).alloc (.cells #[.int .i64 2,.slice none 0 0,.slice none 0 0,.string ⟨#[]⟩,.slice none 0 0,.string ⟨#[]⟩,.string ⟨#[]⟩,.string ⟨#[]⟩,.int .i64 0,.string ⟨#[]⟩] 72)).heap.size = w.heap.size + 3:=by simp
 have hR2:=(Blk.new (w.alloc (.cells #[.int .i64 0,.slice none 0 0,.slice none 0 0,.string ⟨#[]⟩,.slice none 0 0,.string ⟨#[]⟩,.string ⟨#[]⟩,.string ⟨#[]⟩,.int .i64 0,.string ⟨#[]⟩] 72)) 127 [.slice A' m.length c',.bool false]).alloc (.cells #[.int .i64 2,.slice none 0 0,.slice none 0 0,.string ⟨#[]⟩,.slice none 0 0,.string ⟨#[]⟩,.string ⟨#[]⟩,.string ⟨#[]⟩,.int .i64 0,.string ⟨#[]⟩] 72)
 have hX3 : Blk (((w.alloc (.cells #[.int .i64 0,.slice none 0 0,.slice none 0 0,.string ⟨#[]⟩,.slice none 0 0,.string ⟨#[]⟩,.string ⟨#[]⟩,.string ⟨#[]⟩,.int .i64 0,.string ⟨#[]⟩] 72)).alloc (.cells #[.slice A' m.length c',.bool false] 127)).alloc (.cells #[.int .i64 2,.slice none 0 0,.slice none 0 0,.string ⟨#[]⟩,.slice none 0 0,.string ⟨#[]⟩,.string ⟨#[]⟩,.string ⟨#[]⟩,.int .i64 0,.string ⟨#[]⟩] 72)) (w.heap.size + 2) 72 (ocells 2 (.slice none 0 0) (.slice none 0 0) ⟨#[]⟩ (.slice none 0 0) ⟨#[]⟩ ⟨#[]⟩ ⟨#[]⟩ 0 ⟨#[]⟩):=by
  have h:=Blk.new ((w.alloc (.cells #[.int .i64 0,.slice none 0 0,.slice none 0 0,.string ⟨#[]⟩,.slice none 0 0,.string ⟨#[]⟩,.string ⟨#[]⟩,.string ⟨#[]⟩,.int .i64 0,.string ⟨#[]⟩] 72)).alloc (.cells #[.slice A' m.length c',.bool false] 127)) 72 (ocells 2 (.slice none 0 0) (.slice none 0 0) ⟨#[]⟩ (.slice none 0 0) ⟨#[]⟩ ⟨#[]⟩ ⟨#[]⟩ 0 ⟨#[]⟩)
  rw [s2] at h
  exact h
 rw [s1] at hR2
 obtain ⟨B,hBe⟩ : ∃ B,B = w.heap.size + 1:=⟨_,rfl⟩
 have hRr : Rr (((w.alloc (.cells #[.int .i64 0,.slice none 0 0,.slice none 0 0,.string ⟨#[]⟩,.slice none 0 0,.string ⟨#[]⟩,.string ⟨#[]⟩,.string ⟨#[]⟩,.int .i64 0,.string ⟨#[]⟩] 72)).alloc (.cells #[.slice A' m.length c',.bool false] 127)).alloc (.cells #[.int .i64 2,.slice none 0 0,.slice none 0 0,.string ⟨#[]⟩,.slice none 0 0,.string ⟨#[]⟩,.string ⟨#[]⟩,.string ⟨#[]⟩,.int .i64 0,.string ⟨#[]⟩] 72)) B (w.heap.size + 1) m false:=⟨A',c',hR2,Far.of_rd ((rm.below hb3).more (by omega)) (by omega),km,km',by omega,by omega⟩
 have hx1 : w.cell? ⟨gb,off,none⟩ = some (.int .u8 2):=hcell 0 (.int .u8 2) rfl
 have hwx : IntKind.i64.wrap 2 = 2:=by rfl
 have hBr : Below B (((w.alloc (.cells #[.int .i64 0,.slice none 0 0,.slice none 0 0,.string ⟨#[]⟩,.slice none 0 0,.string ⟨#[]⟩,.string ⟨#[]⟩,.string ⟨#[]⟩,.int .i64 0,.string ⟨#[]⟩] 72)).alloc (.cells #[.slice A' m.length c',.bool false] 127)).alloc (.cells #[.int .i64 2,.slice none 0 0,.slice none 0 0,.string ⟨#[]⟩,.slice none 0 0,.string ⟨#[]⟩,.string ⟨#[]⟩,.string ⟨#[]⟩,.int .i64 0,.string ⟨#[]⟩] 72)) (((w.alloc (.cells #[.int .i64 0,.slice none 0 0,.slice none 0 0,.string ⟨#[]⟩,.slice none 0 0,.string ⟨#[]⟩,.string ⟨#[]⟩,.string ⟨#[]⟩,.int .i64 0,.string ⟨#[]⟩] 72)).alloc (.cells #[.slice A' m.length c',.bool false] 127)).alloc (.cells #[.int .i64 2,.slice none 0 0,.slice none 0 0,.string ⟨#[]⟩,.slice none 0 0,.string ⟨#[]⟩,.string ⟨#[]⟩,.string ⟨#[]⟩,.int .i64 0,.string ⟨#[]⟩] 72)):=Below.refl _ _
 have hBw : B ≤ (((w.alloc (.cells #[.int .i64 0,.slice none 0 0,.slice none 0 0,.string ⟨#[]⟩,.slice none 0 0,.string ⟨#[]⟩,.string ⟨#[]⟩,.string ⟨#[]⟩,.int .i64 0,.string ⟨#[]⟩] 72)).alloc (.cells #[.slice A' m.length c',.bool false] 127)).alloc (.cells #[.int .i64 2,.slice none 0 0,.slice none 0 0,.string ⟨#[]⟩,.slice none 0 0,.string ⟨#[]⟩,.string ⟨#[]⟩,.string ⟨#[]⟩,.int .i64 0,.string ⟨#[]⟩] 72)).heap.size:=by omega
 clear hcell
 have HN:=Lib.hid hn
 have HML:=Lib.hid hml
 have hmlen : Hid (m.length = l.length):=by unfold Hid; rw [hml]
 clear hn hml
 go_enter Tryz.func30,Tryz.ntmps30
 go_wp2_with fail
 refine (rrNum_calls B (w.heap.size + 1) m false _ hRr).mono ?_
 rintro e wa0 ⟨N,la0,ba0,rfl,ra0,t0,ga0,qa0,hN⟩
 obtain ⟨Ax0,cx0,Rb0,_⟩:=id hRr
 have Xa0:=hX3.grown ga0 (blk_apart hX3 Rb0 (by decide))
 have Ba0:=hB3.grown ga0 (blk_apart hB3 Rb0 (by decide))
 have ha0:=hBr.trans (below_of_grown ga0 (by omega) (Nat.le_trans hBw hBr.size))
 have sa0:=ha0.size
 unfold mkN
 go_wp2_with fail
 go_loopw [7] (fun i wr => RTree B (w.heap.size + 1) (w.heap.size + 2) N la0 ba0 m.length wa0 i wr) (fun i _ => N - (intOf i).toNat)
 case atStart => exact ⟨0,[],none,0,la0,ba0,rfl,Nat.zero_le _,Xa0,World.ownsRow_nil _ _ _ _,ra0,Lib.hid (Sofar.start _ _ _ _),Below.refl _ _,hN,by simp,fun _ => by simp; omega,Lib.hid (by simp)⟩
 case round =>
  clear Xa0 ra0
  obtain ⟨k',en,Ae,ce,l3,b3,rfl,hk,hX,hE,hR,hT,hb,hN',hv1,hv2,hns⟩:=hrel
  obtain ⟨Arr,crr,hRb,_⟩:=id hR
  have z1 : wr.cell? ⟨w.heap.size + 1,1,none⟩ = some (.bool b3):=by rw [hRb.cell]; rfl
  have sr:=hb.size
  by_cases h0 : k' < N
  ·have d1 : decide ((k' : Int) < (N : Int)) = true:=decide_eq_true (by omega)
   have d1' : (k' : Int) < (N : Int):=by omega
   cases b3 with
   | true =>
    clear hRb
    have hX':=hX
    have hRx:=hR
    have hBx:=Ba0.below hb (by omega)
    have hbx:=ha0.trans hb
    have hen : RdN wr B 3 Ae en.length (ec en):=RdN.own hE
    have hel : en.length ≤ 140737488355328:=by have:=hmlen.out; omega
    have hPo : Hid (Parsed (parseK 2 l) (⟨2,[],en,⟨#[]⟩,[],⟨#[]⟩,⟨#[]⟩,⟨#[]⟩,0,⟨#[]⟩⟩ : Go.Dol.Obj) true):=Lib.hid (by
     have h:=parsed_tree (took_many t0.out (hT.out.done (.inr rfl)))
     rw [HML.out] at h
     rw [parseK2]
     exact h)
    clear hE hT hb hv1 hv2 hR
    -- from here on: world wx; hX : Blk wr gx [C]; hRx : Rr wr B g l3 b3; hBx : Blk wr of the result; hbx : Below B W2 wx
    obtain ⟨z0,z1,z2,z3,z4,z5,z6,z7,z8,z9⟩:=obj_cells hX
    have hE:=refEncode_calls 2 none [] 0 Ae en ce ⟨#[]⟩ none [] 0 ⟨#[]⟩ ⟨#[]⟩ ⟨#[]⟩ 0 ⟨#[]⟩ wr Rd.nil hen.1 Rd.nil hel (Nat.zero_le _) hns
    clear hRr hR2 hB1 hX3 hBr
    go_wp2_with fail
    refine hE.mono ?_
    rintro e w6 ⟨hb6,hR6⟩
    have hR7:=hRx.below hb6
    have hB7:=hBx.below hb6 hBx.lt
    have hO7:=hX.below hb6 hX.lt
    have hsx:=hbx.size
    have hbe : Below w.heap.size w w6:=hb3.trans ((hbx.mono (by omega)).trans (hb6.mono (by omega)))
    obtain ⟨Ar,cr,hRb,_⟩:=id hR7
    have e1 : w6.cell? ⟨w.heap.size + 1,1,none⟩ = some (.bool true):=by rw [hRb.cell]; rfl
    clear z0 z1 z2 z3 z4 z5 z6 z7 z8 z9 hE
    have hDec:=dec_of (ge:=geS) hPo.out
    rcases hR6 with ⟨hck,lo,Ao,co,el,rfl,ho6⟩ | ⟨hck,rfl⟩
    ·have HCK:=Lib.hid hck
     have HD : Hid (decO geS (2 :: l) = none):=by
      unfold Hid
      rw [hDec,if_neg (by simp)]
     clear hDec hck
     go_wp2_with ((refine wpList_store_blk (by rfl) _ (.tmp 2) (.tmp 141) rfl w.heap.size zcells rfl rfl 72 zcells hB7 (by kernel_rfl) rfl (by decide) ?_; intro w8 hB8 hg8))
     have hl:=Go.run_loadVar_row (P:=Tryz.prog) w8 w.heap.size 72 72 zcells.toArray (0,0) _ hB8 Tryz.underlying72 rfl (by kernel_rfl)
     rw [HD.out]
     refine bodyPost_ret (v:=.tuple #[.agg zcells.toArray,.int .i64 2]) ?_ rfl ⟨rfl,hbe.grown hg8 hbe.size (fun k hk => by cases hk; exact Nat.le_refl _)⟩
     simp [results,Tryz.results30,asAddr,hl]
    ·have HD : Hid (decO geS (2 :: l) = none):=by
      unfold Hid
      rw [hDec,if_neg (by rw [hck]; simp)]
     clear hDec hck
     go_wp2_with ((refine wpList_store_blk (by rfl) _ (.tmp 2) (.tmp 141) rfl w.heap.size zcells rfl rfl 72 zcells hB7 (by kernel_rfl) rfl (by decide) ?_; intro w8 hB8 hg8))
     have hl:=Go.run_loadVar_row (P:=Tryz.prog) w8 w.heap.size 72 72 zcells.toArray (0,0) _ hB8 Tryz.underlying72 rfl (by kernel_rfl)
     rw [HD.out]
     refine bodyPost_ret (v:=.tuple #[.agg zcells.toArray,.int .i64 2]) ?_ rfl ⟨rfl,hbe.grown hg8 hbe.size (fun k hk => by cases hk; exact Nat.le_refl _)⟩
     simp [results,Tryz.results30,asAddr,hl]
   | false =>
    have f1 : IntKind.i64.wrap ((k' : Int) + 1) = (k' : Int) + 1:=IntWalk.i64_in _ (by omega)
    have hv2':=hv2 rfl
    have hmb : m.length ≤ 140737488351231:=by have:=hmlen.out; omega
    go_wp2_with fail
    refine (rrText_calls B (w.heap.size + 1) l3 false wr hR).mono ?_
    rintro e w3 ⟨nm,l4,b4,rfl,r3,t3,g3,q3,hnm⟩
    unfold mkS
    have X3:=hX.grown g3 (blk_apart hX hRb (by decide))
    have E3:=own_other hE hRb (by decide) g3
    have s3':=g3.size
    have h3 : Below B wr w3:=below_of_grown g3 (by omega) (by omega)
    have hbA : Below w3.heap.size w3 (w3.alloc (.cells #[.string ⟨nm.toArray⟩,.bool false,.string ⟨#[]⟩] 124)):=(Below.refl _ _).alloc (Nat.le_refl _) _
    have rA:=r3.below hbA
    have GA:=Blk.new w3 124 [.string ⟨nm.toArray⟩,.bool false,.string ⟨#[]⟩]
    have XA:=X3.alloc (.cells #[.string ⟨nm.toArray⟩,.bool false,.string ⟨#[]⟩] 124)
    have EA:=E3.alloc (.cells #[.string ⟨nm.toArray⟩,.bool false,.string ⟨#[]⟩] 124)
    obtain ⟨_,_,RbA,_⟩:=id rA
    have hO3 : ∀ k,(Value.slice Ae en.length ce).ownBlock = some k → k < w3.heap.size:=fun k hk => (E3.lt k hk).2
    go_wp2_with fail
    refine (rrBytes_calls B (w.heap.size + 1) 1 1 rfl l4 b4 _ rA).mono ?_
    rintro e w4 ⟨dd,l5,b5,rfl,r4,t4,g4,q4,_⟩
    unfold mkS
    have G4:=GA.grown g4 (blk_apart GA RbA (by decide))
    have X4:=XA.grown g4 (blk_apart XA RbA (by decide))
    have E4:=own_other EA RbA (by decide) g4
    have s4 : w3.heap.size + 1 ≤ w4.heap.size:=by have:=g4.size; simp at this; omega
    have h4 : Below B wr w4:=h3.trans ((hbA.mono (by omega)).trans (below_of_grown g4 (by omega) (Nat.le_trans (by omega) hbA.size)))
    have gs4 : w4.grownBy (w4.setCell ⟨w3.heap.size,1,none⟩ (.bool (dd == [1]))) (some w3.heap.size):=grown_setCell (World.grownBy.refl _ _) 1 _
    have G4' : Blk (w4.setCell ⟨w3.heap.size,1,none⟩ (.bool (dd == [1]))) w3.heap.size 124 [.string ⟨nm.toArray⟩,.bool (dd == [1]),.string ⟨#[]⟩]:=G4.set 1 _
    have X4':=X4.grown gs4 (blk_apart X4 G4 (by decide))
    have E4':=E4.kept gs4 (.inr fun e => by have:=hO3 _ e; omega)
    obtain ⟨_,_,Rb4,_⟩:=id r4
    have r4':=r4.keep gs4 (blk_apart Rb4 G4 (by decide)) (Other.blk G4 (by decide) (by omega))
    have h4' : Below B wr (w4.setCell ⟨w3.heap.size,1,none⟩ (.bool (dd == [1]))):=h4.trans (below_of_grown gs4 (by omega) (by omega))
    have e40 : w4.cell? ⟨w3.heap.size,0,none⟩ = some (.string ⟨nm.toArray⟩):=by rw [G4.cell]; rfl
    have e41 : w4.cell? ⟨w3.heap.size,1,none⟩ = some (.bool false):=by rw [G4.cell]; rfl
    have f41:=G4.free 1
    obtain ⟨_,_,Rb4',_⟩:=id r4'
    go_wp2_with fail
    refine (rrBytes_calls B (w.heap.size + 1) 32 32 rfl l5 b5 _ r4').mono ?_
    rintro e w5 ⟨ii,l6,b6,rfl,r5,t5,g5,q5,_⟩
    unfold mkS
    have G5:=G4'.grown g5 (blk_apart G4' Rb4' (by decide))
    have X5:=X4'.grown g5 (blk_apart X4' Rb4' (by decide))
    have E5:=own_other E4' Rb4' (by decide) g5
    have s5 : w4.heap.size ≤ w5.heap.size:=by have:=g5.size; simpa [World.setCell] using this
    have h5 : Below B wr w5:=h4'.trans (below_of_grown g5 (by omega) (Nat.le_trans (by omega) h4'.size))
    have gs5 : w5.grownBy (w5.setCell ⟨w3.heap.size,2,none⟩ (.string ⟨ii.toArray⟩)) (some w3.heap.size):=grown_setCell (World.grownBy.refl _ _) 2 _
    have G5' : Blk (w5.setCell ⟨w3.heap.size,2,none⟩ (.string ⟨ii.toArray⟩)) w3.heap.size 124 [.string ⟨nm.toArray⟩,.bool (dd == [1]),.string ⟨ii.toArray⟩]:=G5.set 2 _
    have X5':=X5.grown gs5 (blk_apart X5 G5 (by decide))
    have E5':=E5.kept gs5 (.inr fun e => by have:=hO3 _ e; omega)
    obtain ⟨_,_,Rb5,_⟩:=id r5
    have r5':=r5.keep gs5 (blk_apart Rb5 G5 (by decide)) (Other.blk G5 (by decide) (by omega))
    have h5' : Below B wr (w5.setCell ⟨w3.heap.size,2,none⟩ (.string ⟨ii.toArray⟩)):=h5.trans (below_of_grown gs5 (by omega) (by omega))
    have e50 : w5.cell? ⟨w3.heap.size,0,none⟩ = some (.string ⟨nm.toArray⟩):=by rw [G5.cell]; rfl
    have e51 : w5.cell? ⟨w3.heap.size,1,none⟩ = some (.bool (dd == [1])):=by rw [G5.cell]; rfl
    have e52 : w5.cell? ⟨w3.heap.size,2,none⟩ = some (.string ⟨#[]⟩):=by rw [G5.cell]; rfl
    have f52:=G5.free 2
    have x52 : w5.cell? ⟨w.heap.size + 2,2,none⟩ = some (.slice Ae en.length ce):=by rw [X5.cell]; rfl
    have hEa:=E5'.alloc (.cells #[.string ⟨nm.toArray⟩,.bool (dd == [1]),.string ⟨ii.toArray⟩] 124)
    have hXa:=X5'.alloc (.cells #[.string ⟨nm.toArray⟩,.bool (dd == [1]),.string ⟨ii.toArray⟩] 124)
    have hr6:=Rd.new3 (w5.setCell ⟨w3.heap.size,2,none⟩ (.string ⟨ii.toArray⟩)) 124 (.string ⟨nm.toArray⟩) (.bool (dd == [1])) (.string ⟨ii.toArray⟩)
    have hb6 : Below (w5.setCell ⟨w3.heap.size,2,none⟩ (.string ⟨ii.toArray⟩)).heap.size (w5.setCell ⟨w3.heap.size,2,none⟩ (.string ⟨ii.toArray⟩)) ((w5.setCell ⟨w3.heap.size,2,none⟩ (.string ⟨ii.toArray⟩)).alloc (.cells #[.string ⟨nm.toArray⟩,.bool (dd == [1]),.string ⟨ii.toArray⟩] 124)):=(Below.refl _ _).alloc (Nat.le_refl _) _
    have r6:=r5'.below hb6
    have sz5 : (w5.setCell ⟨w3.heap.size,2,none⟩ (.string ⟨ii.toArray⟩)).heap.size = w5.heap.size:=by simp [World.setCell]
    rw [sz5] at hr6
    have h6:=h5'.trans (hb6.mono (Nat.le_trans (by omega) h5'.size))
    have h16 : ∀ u ∈ [Value.string ⟨nm.toArray⟩,.bool (dd == [1]),.string ⟨ii.toArray⟩],u.oneCell' = true:=by
     intro u hu
     simp only [List.mem_cons,List.not_mem_nil,or_false] at hu
     rcases hu with rfl | rfl | rfl <;> rfl
    clear X3 E3 XA EA GA G4 X4 E4 rA r3 r4 RbA Rb4 Rb4' E4' X4' hRb
    go_wp2_with (at_builtin; refine appNl rfl (.tmp 65) (.tmp 67) 70 124 _ 3 40 rfl Tryz.underlying70 info_ent rfl (by decide) B _ en.length (ec en) rfl hEa _ _ 1 1 _ rfl hr6 h16 (by unfold maxLen; omega) (by omega) (Nat.le_trans (by omega) h6.size) ?_)
    intro A7 c7 w7 E7 b7 g7 _ _
    rw [← hBe] at E7 b7
    have n7 : some (w.heap.size + 2) ≠ (Value.slice Ae en.length ce).ownBlock:=fun e => own_ne hEa hXa (by decide) e.symm
    have X7:=hXa.grown g7 n7
    have x72 : w7.cell? ⟨w.heap.size + 2,2,none⟩ = some (.slice Ae en.length ce):=by rw [X7.cell]; rfl
    have f72:=X7.free 2
    obtain ⟨_,_,Rb6,_⟩:=id r6
    have r7:=r6.keep g7 (fun e => own_ne hEa Rb6 (by decide) e.symm) (Other.own hEa (by decide) (Nat.le_refl _))
    have h7 : Below B wr w7:=h6.trans b7
    have gs7 : w7.grownBy (w7.setCell ⟨w.heap.size + 2,2,none⟩ (.slice A7 (en.length + 1) c7)) (some (w.heap.size + 2)):=grown_setCell (World.grownBy.refl _ _) 2 _
    have Xz : Blk (w7.setCell ⟨w.heap.size + 2,2,none⟩ (.slice A7 (en.length + 1) c7)) (w.heap.size + 2) 72 (ocells 2 (.slice none 0 0) (.slice A7 (en.length + 1) c7) ⟨#[]⟩ (.slice none 0 0) ⟨#[]⟩ ⟨#[]⟩ ⟨#[]⟩ 0 ⟨#[]⟩):=X7.set 2 _
    have rz:=r7.keep gs7 (fun e => by injection e; omega) (Other.blk X7 (by decide) (by omega))
    have Ez:=own_other E7 X7 (by decide) gs7
    have hz : Below B wr (w7.setCell ⟨w.heap.size + 2,2,none⟩ (.slice A7 (en.length + 1) c7)):=h7.trans (below_of_grown gs7 (by omega) (by have:=h7.size; omega))
    clear hXa hEa X7 E7 r6 r7 h6 hr6
    go_wp2_with fail
    obtain ⟨wz,hwz⟩ : ∃ wz,wz = w7.setCell ⟨w.heap.size + 2,2,none⟩ (.slice A7 (en.length + 1) c7):=⟨_,rfl⟩
    rw [← hwz] at Xz rz Ez hz ⊢
    have e1 : en.length + 1 = (en ++ [(⟨⟨nm.toArray⟩,decide (dd = [1]),⟨ii.toArray⟩⟩ : Ent)]).length:=by simp
    have hec : ec en ++ [Value.string ⟨nm.toArray⟩,.bool (dd == [1]),.string ⟨ii.toArray⟩] = ec (en ++ [(⟨⟨nm.toArray⟩,decide (dd = [1]),⟨ii.toArray⟩⟩ : Ent)]):=by
     rw [ec_append]
     have hdd : (dd == [1]) = decide (dd = [1]):=by by_cases h : dd = [1] <;> simp [h]
     rw [hdd]
     rfl
    rw [hec] at Ez
    rw [e1] at Xz Ez
    have ht:=took_ent t3.out t4.out t5.out
    have hT2:=hT.out
    rw [show N - k' = (N - (k' + 1)) + 1 by omega] at hT2
    refine ⟨⟨k' + 1,_,A7,c7,l6,b6,by go_num,by omega,Xz,Ez,rz,Lib.hid (hT2.step ht),hb.trans hz,hN',by simp; omega,fun hb0 => ?_,Lib.hid ?_⟩,by simp [intOf]; omega⟩
    ·have h9:=takeEnt_less (ht.good hb0).2
     simp only [List.length_append,List.length_singleton]
     omega
    ·intro e he
     rcases List.mem_append.1 he with he | he
     ·exact hns.out e he
     ·obtain rfl:=List.mem_singleton.1 he
      show nm.toArray.size ≤ maxLen
      unfold maxLen
      simp
      omega
  ·have d1 : decide ((k' : Int) < (N : Int)) = false:=decide_eq_false (by omega)
   have d1' : ¬ (k' : Int) < (N : Int):=by omega
   clear hRb
   have hX':=hX
   have hRx:=hR
   have hBx:=Ba0.below hb (by omega)
   have hbx:=ha0.trans hb
   have hen : RdN wr B 3 Ae en.length (ec en):=RdN.own hE
   have hel : en.length ≤ 140737488355328:=by have:=hmlen.out; omega
   have hPo : Hid (Parsed (parseK 2 l) (⟨2,[],en,⟨#[]⟩,[],⟨#[]⟩,⟨#[]⟩,⟨#[]⟩,0,⟨#[]⟩⟩ : Go.Dol.Obj) b3):=Lib.hid (by
    have h:=parsed_tree (took_many t0.out (hT.out.done (.inl (by omega))))
    rw [HML.out] at h
    rw [parseK2]
    exact h)
   clear hE hT hb hv1 hv2 hR
   -- from here on: world wx; hX : Blk wr gx [C]; hRx : Rr wr B g l3 b3; hBx : Blk wr of the result; hbx : Below B W2 wx
   obtain ⟨z0,z1,z2,z3,z4,z5,z6,z7,z8,z9⟩:=obj_cells hX
   have hE:=refEncode_calls 2 none [] 0 Ae en ce ⟨#[]⟩ none [] 0 ⟨#[]⟩ ⟨#[]⟩ ⟨#[]⟩ 0 ⟨#[]⟩ wr Rd.nil hen.1 Rd.nil hel (Nat.zero_le _) hns
   clear hRr hR2 hB1 hX3 hBr
   go_wp2_with fail
   refine hE.mono ?_
   rintro e w6 ⟨hb6,hR6⟩
   have hR7:=hRx.below hb6
   have hB7:=hBx.below hb6 hBx.lt
   have hO7:=hX.below hb6 hX.lt
   have hsx:=hbx.size
   have hbe : Below w.heap.size w w6:=hb3.trans ((hbx.mono (by omega)).trans (hb6.mono (by omega)))
   obtain ⟨Ar,cr,hRb,_⟩:=id hR7
   have e1 : w6.cell? ⟨w.heap.size + 1,1,none⟩ = some (.bool b3):=by rw [hRb.cell]; rfl
   clear z0 z1 z2 z3 z4 z5 z6 z7 z8 z9 hE
   have hDec:=dec_of (ge:=geS) hPo.out
   rcases hR6 with ⟨hck,lo,Ao,co,el,rfl,ho6⟩ | ⟨hck,rfl⟩
   ·have HCK:=Lib.hid hck
    cases b3 with
    | true =>
     have HD : Hid (decO geS (2 :: l) = none):=by
      unfold Hid
      rw [hDec,if_neg (by simp)]
     clear hDec hck
     go_wp2_with ((refine wpList_store_blk (by rfl) _ (.tmp 2) (.tmp 141) rfl w.heap.size zcells rfl rfl 72 zcells hB7 (by kernel_rfl) rfl (by decide) ?_; intro w8 hB8 hg8))
     have hl:=Go.run_loadVar_row (P:=Tryz.prog) w8 w.heap.size 72 72 zcells.toArray (0,0) _ hB8 Tryz.underlying72 rfl (by kernel_rfl)
     rw [HD.out]
     refine bodyPost_ret (v:=.tuple #[.agg zcells.toArray,.int .i64 2]) ?_ rfl ⟨rfl,hbe.grown hg8 hbe.size (fun k hk => by cases hk; exact Nat.le_refl _)⟩
     simp [results,Tryz.results30,asAddr,hl]
    | false =>
     have hr6:=Rd.of_own ho6
     have hrb : Rd w6 w6.heap.size 1 (some ⟨gb,off,none⟩) (2 :: l).length (bc (2 :: l)):=by
      have:=(hr.below hbe).more hbe.size
      rwa [HN.out] at this
     have hnl : n = (2 :: l).length:=by rw [List.length_cons]; exact HN.out
     by_cases heq : lo = 2 :: l
     ·have HD : Hid (decO geS (2 :: l) = some ⟨2,[],en,⟨#[]⟩,[],⟨#[]⟩,⟨#[]⟩,⟨#[]⟩,0,⟨#[]⟩⟩):=by
       unfold Hid
       rw [hDec,if_pos ⟨rfl,HCK.out,by rw [← el.out]; exact heq⟩]
      have hq:=Same_calls Ao lo co (some ⟨gb,off,none⟩) (2 :: l) c w6 _ _ hr6 hrb (Lib.hid heq)
      rw [← hnl] at hq
      have HQ:=Lib.hid heq
      obtain ⟨z0,z1,z2,z3,z4,z5,z6,z7,z8,z9⟩:=obj_cells hO7
      clear hDec heq hr hrb hr6 hck hnl
      go_wp2_with ((first
       | (go_at_call 14; refine hq.mono ?_; rintro e w7 ⟨rfl,rfl⟩)
       | (refine wpList_store_blk (by rfl) _ (.tmp 2) (.tmp 142) rfl w.heap.size [.int .i64 2,.slice none 0 0,.slice Ae en.length ce,.string ⟨#[]⟩,.slice none 0 0,.string ⟨#[]⟩,.string ⟨#[]⟩,.string ⟨#[]⟩,.int .i64 0,.string ⟨#[]⟩] rfl rfl 72 zcells hB7 (by kernel_rfl) rfl (o_one _ _ _ _ _ _ _ _ _ _ rfl rfl rfl) ?_; intro w8 hB8 hg8)))
      have hl:=Go.run_loadVar_row (P:=Tryz.prog) w8 w.heap.size 72 72 #[.int .i64 2,.slice none 0 0,.slice Ae en.length ce,.string ⟨#[]⟩,.slice none 0 0,.string ⟨#[]⟩,.string ⟨#[]⟩,.string ⟨#[]⟩,.int .i64 0,.string ⟨#[]⟩] (0,0) _ hB8 Tryz.underlying72 rfl (by kernel_rfl)
      rw [HD.out]
      have hb9 : Below w.heap.size w w8:=hbe.grown hg8 hbe.size (fun k hk => by cases hk; exact Nat.le_refl _)
      refine bodyPost_ret (v:=.tuple #[.agg #[.int .i64 2,.slice none 0 0,.slice Ae en.length ce,.string ⟨#[]⟩,.slice none 0 0,.string ⟨#[]⟩,.string ⟨#[]⟩,.string ⟨#[]⟩,.int .i64 0,.string ⟨#[]⟩],.int .i64 0]) ?_ rfl ⟨2,none,[],0,Ae,en,ce,⟨#[]⟩,none,[],0,⟨#[]⟩,⟨#[]⟩,⟨#[]⟩,0,⟨#[]⟩,rfl,rfl,RdN.nil,(((hen.below hb6).apart hg8 (by omega)).lower (by omega)),RdN.nil,hb9,hel,(Nat.zero_le _),(Lib.hid (by simp))⟩
      simp [results,Tryz.results30,asAddr,hl]
     ·have HD : Hid (decO geS (2 :: l) = none):=by
       unfold Hid
       rw [hDec,if_neg (by rintro ⟨_,_,h⟩; exact heq (by rw [el.out,h]))]
      have hq:=Same_no Ao lo co (some ⟨gb,off,none⟩) (2 :: l) c w6 _ _ hr6 hrb heq
      rw [← hnl] at hq
      clear hDec heq hr hrb hr6 hck hnl
      go_wp2_with ((first
       | (go_at_call 14; refine hq.mono ?_; rintro e w7 ⟨rfl,rfl⟩)
       | (refine wpList_store_blk (by rfl) _ (.tmp 2) (.tmp 141) rfl w.heap.size zcells rfl rfl 72 zcells hB7 (by kernel_rfl) rfl (by decide) ?_; intro w8 hB8 hg8)))
      have hl:=Go.run_loadVar_row (P:=Tryz.prog) w8 w.heap.size 72 72 zcells.toArray (0,0) _ hB8 Tryz.underlying72 rfl (by kernel_rfl)
      rw [HD.out]
      refine bodyPost_ret (v:=.tuple #[.agg zcells.toArray,.int .i64 2]) ?_ rfl ⟨rfl,hbe.grown hg8 hbe.size (fun k hk => by cases hk; exact Nat.le_refl _)⟩
      simp [results,Tryz.results30,asAddr,hl]
   ·have HD : Hid (decO geS (2 :: l) = none):=by
     unfold Hid
     rw [hDec,if_neg (by rw [hck]; simp)]
    clear hDec hck
    cases b3 with
    | true =>
     go_wp2_with ((refine wpList_store_blk (by rfl) _ (.tmp 2) (.tmp 141) rfl w.heap.size zcells rfl rfl 72 zcells hB7 (by kernel_rfl) rfl (by decide) ?_; intro w8 hB8 hg8))
     have hl:=Go.run_loadVar_row (P:=Tryz.prog) w8 w.heap.size 72 72 zcells.toArray (0,0) _ hB8 Tryz.underlying72 rfl (by kernel_rfl)
     rw [HD.out]
     refine bodyPost_ret (v:=.tuple #[.agg zcells.toArray,.int .i64 2]) ?_ rfl ⟨rfl,hbe.grown hg8 hbe.size (fun k hk => by cases hk; exact Nat.le_refl _)⟩
     simp [results,Tryz.results30,asAddr,hl]
    | false =>
     go_wp2_with ((refine wpList_store_blk (by rfl) _ (.tmp 2) (.tmp 141) rfl w.heap.size zcells rfl rfl 72 zcells hB7 (by kernel_rfl) rfl (by decide) ?_; intro w8 hB8 hg8))
     have hl:=Go.run_loadVar_row (P:=Tryz.prog) w8 w.heap.size 72 72 zcells.toArray (0,0) _ hB8 Tryz.underlying72 rfl (by kernel_rfl)
     rw [HD.out]
     refine bodyPost_ret (v:=.tuple #[.agg zcells.toArray,.int .i64 2]) ?_ rfl ⟨rfl,hbe.grown hg8 hbe.size (fun k hk => by cases hk; exact Nat.le_refl _)⟩
     simp [results,Tryz.results30,asAddr,hl]
theorem refDecode3_calls (A : Option Addr) (l : List UInt8) (n c : Nat) (w : World) (hn : n = l.length + 1) (hr : Rd w w.heap.size 1 A n (bc (3 :: l))) (hc : n ≤ c) (hcm : c ≤ maxLen) (hl : l.length ≤ 140737488351231) :
  Calls Tryz.prog 30 #[.slice A n c] w (RetDec w (decO geS (3 :: l))):=by
 have d0 : ((n : Int) == 0) = false:=beq_eq_false_iff_ne.2 (by omega)
 have hn0 : (0 : Int) < (n : Int):=by omega
 obtain ⟨m,A',c',em,jm,jm',⟨rm,km,km'⟩,_,_,_,sm⟩:=sl_from (k:=1) (l:=3 :: l) (c:=c) 1 rfl (by rw [List.length_cons,← hn]; exact hr) (by simp) (by simp; omega) hcm
 rw [List.length_cons,← hn] at sm jm
 obtain ⟨gb,off,rfl,hgb,hcell⟩:=hr.at_ (by omega)
 have hml : m = l:=by rw [em.out]; rfl
 have hb1 : Below w.heap.size w (w.alloc (.cells #[.int .i64 0,.slice none 0 0,.slice none 0 0,.string ⟨#[]⟩,.slice none 0 0,.string ⟨#[]⟩,.string ⟨#[]⟩,.string ⟨#[]⟩,.int .i64 0,.string ⟨#[]⟩] 72)):=(Below.refl _ _).alloc (Nat.le_refl _) _
 have hb2:=hb1.alloc hb1.size (.cells #[.slice A' m.length c',.bool false] 127)
 have hb3:=hb2.alloc hb2.size (.cells #[.int .i64 3,.slice none 0 0,.slice none 0 0,.string ⟨#[]⟩,.slice none 0 0,.string ⟨#[]⟩,.string ⟨#[]⟩,.string ⟨#[]⟩,.int .i64 0,.string ⟨#[]⟩] 72)
 have hB1:=Blk.new w 72 zcells
 have hB3:=(hB1.alloc (.cells #[.slice A' m.length c',.bool false] 127)).alloc (.cells #[.int .i64 3,.slice none 0 0,.slice none 0 0,.string ⟨#[]⟩,.slice none 0 0,.string ⟨#[]⟩,.string ⟨#[]⟩,.string ⟨#[]⟩,.int .i64 0,.string ⟨#[]⟩] 72)
 have s1 : (w.alloc (.cells #[.int .i64 0,.slice none 0 0,.slice none 0 0,.string ⟨#[]⟩,.slice none 0 0,.string ⟨#[]⟩,.string ⟨#[]⟩,.string ⟨#[]⟩,.int .i64 0,.string ⟨#[]⟩] 72)).heap.size = w.heap.size + 1:=by simp
 have s2 : ((w.alloc (.cells #[.int .i64 0,.slice none 0 0,.slice none 0 0,.string ⟨#[]⟩,.slice none 0 0,.string ⟨#[]⟩,.string ⟨#[]⟩,.string ⟨#[]⟩,.int .i64 0,.string ⟨#[]⟩] 72)).alloc (.cells #[.slice A' m.length c',.bool false] 127)).heap.size = w.heap.size + 2:=by simp
 have s3 : (((w.alloc (.cells #[.int .i64 0,.slice none 0 0,.slice none 0 0,.string ⟨#[]⟩,.slice none 0 0,.string ⟨#[]⟩,.string ⟨#[]⟩,.string ⟨#[]⟩,.int .i64 0,.string ⟨#[]⟩] 72)).alloc (.cells #[.slice A' m.length c',.bool false] 127)).alloc (.cells #[.int .i64 3,.slice none 0 0,.slice none 0 0,.string ⟨#[]⟩,.slice none 0 0,.string ⟨#[]⟩,.string ⟨#[]⟩,.string ⟨#[]⟩,.int .i64 0,.string ⟨#[]⟩] 72)).heap.size = w.heap.size + 3:=by simp
 have hR2:=(Blk.new (w.alloc (.cells #[.int .i64 0,.slice none 0 0,.slice none 0 0,.string ⟨#[]⟩,.slice none 0 0,.string ⟨#[]⟩,.string ⟨#[]⟩,.string ⟨#[]⟩,.int .i64 0,.string ⟨#[]⟩] 72)) 127 [.slice A' m.length c',.bool false]).alloc (.cells #[.int .i64 3,.slice none 0 0,.slice none 0 0,.string ⟨#[]⟩,.slice none 0 0,.string ⟨#[]⟩,.string ⟨#[]⟩,.string ⟨#[]⟩,.int .i64 0,.string ⟨#[]⟩] 72)
 have hX3 : Blk (((w.alloc (.cells #[.int .i64 0,.slice none 0 0,.slice none 0 0,.string ⟨#[]⟩,.slice none 0 0,.string ⟨#[]⟩,.string ⟨#[]⟩,.string ⟨#[]⟩,.int .i64 0,.string ⟨#[]⟩] 72)).alloc (.cells #[.slice A' m.length c',.bool false] 127)).alloc (.cells #[.int .i64 3,.slice none 0 0,.slice none 0 0,.string ⟨#[]⟩,.slice none 0 0,.string ⟨#[]⟩,.string ⟨#[]⟩,.string ⟨#[]⟩,.int .i64 0,.string ⟨#[]⟩] 72)) (w.heap.size + 2) 72 (ocells 3 (.slice none 0 0) (.slice none 0 0) ⟨#[]⟩ (.slice none 0 0) ⟨#[]⟩ ⟨#[]⟩ ⟨#[]⟩ 0 ⟨#[]⟩):=by
  have h:=Blk.new ((w.alloc (.cells #[.int .i64 0,.slice none 0 0,.slice none 0 0,.string ⟨#[]⟩,.slice none 0 0,.string ⟨#[]⟩,.string ⟨#[]⟩,.string ⟨#[]⟩,.int .i64 0,.string ⟨#[]⟩] 72)).alloc (.cells #[.slice A' m.length c',.bool false] 127)) 72 (ocells 3 (.slice none 0 0) (.slice none 0 0) ⟨#[]⟩ (.slice none 0 0) ⟨#[]⟩ ⟨#[]⟩ ⟨#[]⟩ 0 ⟨#[]⟩)
  rw [s2] at h
  exact h
 rw [s1] at hR2
 obtain ⟨B,hBe⟩ : ∃ B,B = w.heap.size + 1:=⟨_,rfl⟩
 have hRr : Rr (((w.alloc (.cells #[.int .i64 0,.slice none 0 0,.slice none 0 0,.string ⟨#[]⟩,.slice none 0 0,.string ⟨#[]⟩,.string ⟨#[]⟩,.string ⟨#[]⟩,.int .i64 0,.string ⟨#[]⟩] 72)).alloc (.cells #[.slice A' m.length c',.bool false] 127)).alloc (.cells #[.int .i64 3,.slice none 0 0,.slice none 0 0,.string ⟨#[]⟩,.slice none 0 0,.string ⟨#[]⟩,.string ⟨#[]⟩,.string ⟨#[]⟩,.int .i64 0,.string ⟨#[]⟩] 72)) B (w.heap.size + 1) m false:=⟨A',c',hR2,Far.of_rd ((rm.below hb3).more (by omega)) (by omega),km,km',by omega,by omega⟩
 have hx1 : w.cell? ⟨gb,off,none⟩ = some (.int .u8 3):=hcell 0 (.int .u8 3) rfl
 have hwx : IntKind.i64.wrap 3 = 3:=by rfl
 have hBr : Below B (((w.alloc (.cells #[.int .i64 0,.slice none 0 0,.slice none 0 0,.string ⟨#[]⟩,.slice none 0 0,.string ⟨#[]⟩,.string ⟨#[]⟩,.string ⟨#[]⟩,.int .i64 0,.string ⟨#[]⟩] 72)).alloc (.cells #[.slice A' m.length c',.bool false] 127)).alloc (.cells #[.int .i64 3,.slice none 0 0,.slice none 0 0,.string ⟨#[]⟩,.slice none 0 0,.string ⟨#[]⟩,.string ⟨#[]⟩,.string ⟨#[]⟩,.int .i64 0,.string ⟨#[]⟩] 72)) (((w.alloc (.cells #[.int .i64 0,.slice none 0 0,.slice none 0 0,.string ⟨#[]⟩,.slice none 0 0,.string ⟨#[]⟩,.string ⟨#[]⟩,.string ⟨#[]⟩,.int .i64 0,.string ⟨#[]⟩] 72)).alloc (.cells #[.slice A' m.length c',.bool false] 127)).alloc (.cells #[.int .i64 3,.slice none 0 0,.slice none 0 0,.string ⟨#[]⟩,.slice none 0 0,.string ⟨#[]⟩,.string ⟨#[]⟩,.string ⟨#[]⟩,.int .i64 0,.string ⟨#[]⟩] 72)):=Below.refl _ _
 have hBw : B ≤ (((w.alloc (.cells #[.int .i64 0,.slice none 0 0,.slice none 0 0,.string ⟨#[]⟩,.slice none 0 0,.string ⟨#[]⟩,.string ⟨#[]⟩,.string ⟨#[]⟩,.int .i64 0,.string ⟨#[]⟩] 72)).alloc (.cells #[.slice A' m.length c',.bool false] 127)).alloc (.cells #[.int .i64 3,.slice none 0 0,.slice none 0 0,.string ⟨#[]⟩,.slice none 0 0,.string ⟨#[]⟩,.string ⟨#[]⟩,.string ⟨#[]⟩,.int .i64 0,.string ⟨#[]⟩] 72)).heap.size:=by omega
 clear hcell
 have HN:=Lib.hid hn
 have HML:=Lib.hid hml
 have hmlen : Hid (m.length = l.length):=by unfold Hid; rw [hml]
 clear hn hml
 go_enter Tryz.func30,Tryz.ntmps30
 go_wp2_with fail
 refine (rrBytes_calls B (w.heap.size + 1) 32 32 rfl m false _ hRr).mono ?_
 rintro e wa1 ⟨v1,la1,ba1,rfl,ra1,t1,ga1,qa1,va1⟩
 obtain ⟨Ax1,cx1,Rb1,_⟩:=id hRr
 have Xa1:=hX3.grown ga1 (blk_apart hX3 Rb1 (by decide))
 have Ba1:=hB3.grown ga1 (blk_apart hB3 Rb1 (by decide))
 have ha1:=hBr.trans (below_of_grown ga1 (by omega) (Nat.le_trans hBw hBr.size))
 obtain ⟨k10,k11,k12,k13,k14,k15,k16,k17,k18,k19⟩:=obj_cells Xa1
 have fr1:=Xa1.free 3
 have gs1 : wa1.grownBy (wa1.setCell ⟨w.heap.size + 2,3,none⟩ (.string ⟨v1.toArray⟩)) (some (w.heap.size + 2)):=grown_setCell (World.grownBy.refl _ _) 3 _
 have Xs1 : Blk (wa1.setCell ⟨w.heap.size + 2,3,none⟩ (.string ⟨v1.toArray⟩)) (w.heap.size + 2) 72 (ocells 3 (.slice none 0 0) (.slice none 0 0) ⟨v1.toArray⟩ (.slice none 0 0) ⟨#[]⟩ ⟨#[]⟩ ⟨#[]⟩ 0 ⟨#[]⟩):=Xa1.set 3 _
 have rs1:=ra1.keep gs1 (fun e => by injection e; omega) (Other.blk Xa1 (by decide) (by omega))
 have Bs1:=Ba1.grown gs1 (fun e => by injection e; omega)
 have hs1:=ha1.trans (below_of_grown gs1 (by omega) (Nat.le_trans hBw ha1.size))
 unfold mkS
 go_wp2_with fail
 refine (rrNum_calls B (w.heap.size + 1) la1 ba1 _ rs1).mono ?_
 rintro e wa2 ⟨N,la2,ba2,rfl,ra2,t2,ga2,qa2,hN⟩
 obtain ⟨Ax2,cx2,Rb2,_⟩:=id rs1
 have Xa2:=Xs1.grown ga2 (blk_apart Xs1 Rb2 (by decide))
 have Ba1':=Bs1.grown ga2 (blk_apart Bs1 Rb2 (by decide))
 have ha1':=hs1.trans (below_of_grown ga2 (by omega) (Nat.le_trans hBw hs1.size))
 have sa2:=ha1'.size
 unfold mkN
 clear Xa1 Ba1 ha1 Xs1 Bs1 hs1 rs1 ra1 Rb1 Rb2 k10 k11 k12 k13 k14 k15 k16 k17 k18 k19
 have Ba1:=Ba1'
 have ha1:=ha1'
 clear Ba1' ha1'
 go_wp2_with fail
 go_loopw [10] (fun i wr => RCom B (w.heap.size + 1) (w.heap.size + 2) N ⟨v1.toArray⟩ la2 ba2 m.length wa2 i wr) (fun i _ => N - (intOf i).toNat)
 case atStart => exact ⟨0,[],none,0,la2,ba2,rfl,Nat.zero_le _,Xa2,World.ownsRow_nil _ _ _ _,ra2,Lib.hid (Sofar.start _ _ _ _),Below.refl _ _,hN,by simp,fun _ => by simp; omega,Lib.hid (by simp)⟩
 case round =>
  clear Xa2 ra2
  obtain ⟨k',pa,Ap,cp,l3,b3,rfl,hk,hX,hE,hR,hT,hb,hN',hv1,hv2,hv3⟩:=hrel
  obtain ⟨Arr,crr,hRb,_⟩:=id hR
  have z1 : wr.cell? ⟨w.heap.size + 1,1,none⟩ = some (.bool b3):=by rw [hRb.cell]; rfl
  have sr:=hb.size
  by_cases h0 : k' < N
  ·have d1 : decide ((k' : Int) < (N : Int)) = true:=decide_eq_true (by omega)
   have d1' : (k' : Int) < (N : Int):=by omega
   cases b3 with
   | true =>
    clear hRb
    have hBx:=Ba1.below hb (by omega)
    have hbx:=ha1.trans hb
    have tp:=took_many t2.out (hT.out.done (.inr rfl))
    go_wp2_with fail
    refine (rrText_calls B (w.heap.size + 1) l3 true _ hR).mono ?_
    rintro e wa3 ⟨v3,la3,ba3,rfl,ra3,t3,ga3,qa3,va3⟩
    obtain ⟨Ax3,cx3,Rb3,_⟩:=id hR
    have Xa3:=hX.grown ga3 (blk_apart hX Rb3 (by decide))
    have Ba3:=hBx.grown ga3 (blk_apart hBx Rb3 (by decide))
    have ha3:=hbx.trans (below_of_grown ga3 (by omega) (Nat.le_trans hBw hbx.size))
    obtain ⟨k30,k31,k32,k33,k34,k35,k36,k37,k38,k39⟩:=obj_cells Xa3
    have fr3:=Xa3.free 7
    have gs3 : wa3.grownBy (wa3.setCell ⟨w.heap.size + 2,7,none⟩ (.string ⟨v3.toArray⟩)) (some (w.heap.size + 2)):=grown_setCell (World.grownBy.refl _ _) 7 _
    have Xs3 : Blk (wa3.setCell ⟨w.heap.size + 2,7,none⟩ (.string ⟨v3.toArray⟩)) (w.heap.size + 2) 72 (ocells 3 (.slice none 0 0) (.slice none 0 0) ⟨v1.toArray⟩ (.slice Ap pa.length cp) ⟨#[]⟩ ⟨#[]⟩ ⟨v3.toArray⟩ 0 ⟨#[]⟩):=Xa3.set 7 _
    have rs3:=ra3.keep gs3 (fun e => by injection e; omega) (Other.blk Xa3 (by decide) (by omega))
    have Bs3:=Ba3.grown gs3 (fun e => by injection e; omega)
    have hs3:=ha3.trans (below_of_grown gs3 (by omega) (Nat.le_trans hBw ha3.size))
    unfold mkS
    go_wp2_with fail
    refine (rrNum_calls B (w.heap.size + 1) la3 ba3 _ rs3).mono ?_
    rintro e wa4 ⟨v4,la4,ba4,rfl,ra4,t4,ga4,qa4,va4⟩
    obtain ⟨Ax4,cx4,Rb4,_⟩:=id rs3
    have Xa4:=Xs3.grown ga4 (blk_apart Xs3 Rb4 (by decide))
    have Ba4:=Bs3.grown ga4 (blk_apart Bs3 Rb4 (by decide))
    have ha4:=hs3.trans (below_of_grown ga4 (by omega) (Nat.le_trans hBw hs3.size))
    obtain ⟨k40,k41,k42,k43,k44,k45,k46,k47,k48,k49⟩:=obj_cells Xa4
    have fr4:=Xa4.free 8
    have gs4 : wa4.grownBy (wa4.setCell ⟨w.heap.size + 2,8,none⟩ (.int .i64 (v4 : Nat))) (some (w.heap.size + 2)):=grown_setCell (World.grownBy.refl _ _) 8 _
    have Xs4 : Blk (wa4.setCell ⟨w.heap.size + 2,8,none⟩ (.int .i64 (v4 : Nat))) (w.heap.size + 2) 72 (ocells 3 (.slice none 0 0) (.slice none 0 0) ⟨v1.toArray⟩ (.slice Ap pa.length cp) ⟨#[]⟩ ⟨#[]⟩ ⟨v3.toArray⟩ (v4 : Nat) ⟨#[]⟩):=Xa4.set 8 _
    have rs4:=ra4.keep gs4 (fun e => by injection e; omega) (Other.blk Xa4 (by decide) (by omega))
    have Bs4:=Ba4.grown gs4 (fun e => by injection e; omega)
    have hs4:=ha4.trans (below_of_grown gs4 (by omega) (Nat.le_trans hBw ha4.size))
    unfold mkN
    go_wp2_with fail
    refine (rrText_calls B (w.heap.size + 1) la4 ba4 _ rs4).mono ?_
    rintro e wa5 ⟨v5,la5,ba5,rfl,ra5,t5,ga5,qa5,va5⟩
    obtain ⟨Ax5,cx5,Rb5,_⟩:=id rs4
    have Xa5:=Xs4.grown ga5 (blk_apart Xs4 Rb5 (by decide))
    have Ba5:=Bs4.grown ga5 (blk_apart Bs4 Rb5 (by decide))
    have ha5:=hs4.trans (below_of_grown ga5 (by omega) (Nat.le_trans hBw hs4.size))
    obtain ⟨k50,k51,k52,k53,k54,k55,k56,k57,k58,k59⟩:=obj_cells Xa5
    have fr5:=Xa5.free 9
    have gs5 : wa5.grownBy (wa5.setCell ⟨w.heap.size + 2,9,none⟩ (.string ⟨v5.toArray⟩)) (some (w.heap.size + 2)):=grown_setCell (World.grownBy.refl _ _) 9 _
    have Xs5 : Blk (wa5.setCell ⟨w.heap.size + 2,9,none⟩ (.string ⟨v5.toArray⟩)) (w.heap.size + 2) 72 (ocells 3 (.slice none 0 0) (.slice none 0 0) ⟨v1.toArray⟩ (.slice Ap pa.length cp) ⟨#[]⟩ ⟨#[]⟩ ⟨v3.toArray⟩ (v4 : Nat) ⟨v5.toArray⟩):=Xa5.set 9 _
    have rs5:=ra5.keep gs5 (fun e => by injection e; omega) (Other.blk Xa5 (by decide) (by omega))
    have Bs5:=Ba5.grown gs5 (fun e => by injection e; omega)
    have hs5:=ha5.trans (below_of_grown gs5 (by omega) (Nat.le_trans hBw ha5.size))
    unfold mkS
    have E3a:=own_other hE Rb3 (by decide) ga3
    have E3s:=own_other E3a Xa3 (by decide) gs3
    have E4a:=own_other E3s Rb4 (by decide) ga4
    have E4s:=own_other E4a Xa4 (by decide) gs4
    have E5a:=own_other E4s Rb5 (by decide) ga5
    have E5s:=own_other E5a Xa5 (by decide) gs5
    have hpn : RdN _ B 1 Ap pa.length (pc pa):=RdN.own E5s
    have hpl : pa.length ≤ 140737488355328:=by have:=hmlen.out; omega
    have hps : Hid (∀ p ∈ pa,p.size ≤ maxLen):=Lib.hid (fun q hq => by have:=hv3.out q hq; unfold maxLen; omega)
    have hPo : Hid (Parsed (parseK 3 l) (⟨3,[],[],⟨v1.toArray⟩,pa,⟨#[]⟩,⟨#[]⟩,⟨v3.toArray⟩,(v4 : Nat),⟨v5.toArray⟩⟩ : Go.Dol.Obj) ba5):=Lib.hid (by
     have h:=parsed_commit t1.out tp (took_told t3.out t4.out t5.out)
     rw [HML.out] at h
     rw [parseK3]
     exact h)
    obtain ⟨tr,htr⟩ : ∃ tr : ByteArray,tr = ⟨v1.toArray⟩:=⟨_,rfl⟩
    obtain ⟨wh,hwh⟩ : ∃ wh : ByteArray,wh = ⟨v3.toArray⟩:=⟨_,rfl⟩
    obtain ⟨st,hst⟩ : ∃ st : Int,st = ((v4 : Nat) : Int):=⟨_,rfl⟩
    obtain ⟨te,hte⟩ : ∃ te : ByteArray,te = ⟨v5.toArray⟩:=⟨_,rfl⟩
    rw [← htr,← hwh,← hst,← hte] at Xs5 hPo ⊢
    rw [← hte] at rs5 Bs5 hs5 hpn
    obtain ⟨b9,hb9e⟩ : ∃ b9,b9 = ba5:=⟨_,rfl⟩
    rw [← hb9e] at rs5 hPo
    have hXx:=Xs5
    have hRx:=rs5
    have hBxx:=Bs5
    have hbxx:=hs5
    clear htr hwh hst hte hb9e Xs5 rs5 Bs5 hs5 Xa3 Xa4 Ba3 Ba4 Xs3 Xs4 rs3 rs4 Bs3 Bs4 ra3 ra4 ra5 Rb3 Rb4 Rb5 t3 t4 t5 ha3 ha4 hs3 hs4 k30 k31 k32 k33 k34 k35 k36 k37 k38 k39 k40 k41 k42 k43 k44 k45 k46 k47 k48 k49 E3a E3s E4a E4s E5a E5s hE hT hb hv1 hv2 hR hX
    -- from here on: world wx; hX : Blk (wa5.setCell ⟨w.heap.size + 2, 9, none⟩ (.string te)) gx [C]; hRx : Rr (wa5.setCell ⟨w.heap.size + 2, 9, none⟩ (.string te)) B g l3 b9; hBx : Blk (wa5.setCell ⟨w.heap.size + 2, 9, none⟩ (.string te)) of the result; hbx : Below B W2 wx
    obtain ⟨z0,z1,z2,z3,z4,z5,z6,z7,z8,z9⟩:=obj_cells hXx
    have hE:=refEncode_calls 3 none [] 0 none [] 0 tr Ap pa cp ⟨#[]⟩ ⟨#[]⟩ wh st te (wa5.setCell ⟨w.heap.size + 2,9,none⟩ (.string te)) Rd.nil Rd.nil hpn.1 (Nat.zero_le _) hpl (Lib.hid (by simp))
    clear hRr hR2 hB1 hX3 hBr
    go_wp2_with fail
    refine hE.mono ?_
    rintro e w6 ⟨hb6,hR6⟩
    have hR7:=hRx.below hb6
    have hB7:=hBxx.below hb6 hBxx.lt
    have hO7:=hXx.below hb6 hXx.lt
    have hsx:=hbxx.size
    have hbe : Below w.heap.size w w6:=hb3.trans ((hbxx.mono (by omega)).trans (hb6.mono (by omega)))
    obtain ⟨Ar,cr,hRb,_⟩:=id hR7
    have e1 : w6.cell? ⟨w.heap.size + 1,1,none⟩ = some (.bool b9):=by rw [hRb.cell]; rfl
    clear z0 z1 z2 z3 z4 z5 z6 z7 z8 z9 hE
    have hDec:=dec_of (ge:=geS) hPo.out
    rcases hR6 with ⟨hck,lo,Ao,co,el,rfl,ho6⟩ | ⟨hck,rfl⟩
    ·have HCK:=Lib.hid hck
     cases b9 with
     | true =>
      have HD : Hid (decO geS (3 :: l) = none):=by
       unfold Hid
       rw [hDec,if_neg (by simp)]
      clear hDec hck
      go_wp2_with ((refine wpList_store_blk (by rfl) _ (.tmp 2) (.tmp 141) rfl w.heap.size zcells rfl rfl 72 zcells hB7 (by kernel_rfl) rfl (by decide) ?_; intro w8 hB8 hg8))
      have hl:=Go.run_loadVar_row (P:=Tryz.prog) w8 w.heap.size 72 72 zcells.toArray (0,0) _ hB8 Tryz.underlying72 rfl (by kernel_rfl)
      rw [HD.out]
      refine bodyPost_ret (v:=.tuple #[.agg zcells.toArray,.int .i64 2]) ?_ rfl ⟨rfl,hbe.grown hg8 hbe.size (fun k hk => by cases hk; exact Nat.le_refl _)⟩
      simp [results,Tryz.results30,asAddr,hl]
     | false =>
      have hr6:=Rd.of_own ho6
      have hrb : Rd w6 w6.heap.size 1 (some ⟨gb,off,none⟩) (3 :: l).length (bc (3 :: l)):=by
       have:=(hr.below hbe).more hbe.size
       rwa [HN.out] at this
      have hnl : n = (3 :: l).length:=by rw [List.length_cons]; exact HN.out
      by_cases heq : lo = 3 :: l
      ·have HD : Hid (decO geS (3 :: l) = some ⟨3,[],[],tr,pa,⟨#[]⟩,⟨#[]⟩,wh,st,te⟩):=by
        unfold Hid
        rw [hDec,if_pos ⟨rfl,HCK.out,by rw [← el.out]; exact heq⟩]
       have hq:=Same_calls Ao lo co (some ⟨gb,off,none⟩) (3 :: l) c w6 _ _ hr6 hrb (Lib.hid heq)
       rw [← hnl] at hq
       have HQ:=Lib.hid heq
       obtain ⟨z0,z1,z2,z3,z4,z5,z6,z7,z8,z9⟩:=obj_cells hO7
       clear hDec heq hr hrb hr6 hck hnl
       go_wp2_with ((first
        | (go_at_call 14; refine hq.mono ?_; rintro e w7 ⟨rfl,rfl⟩)
        | (refine wpList_store_blk (by rfl) _ (.tmp 2) (.tmp 142) rfl w.heap.size [.int .i64 3,.slice none 0 0,.slice none 0 0,.string tr,.slice Ap pa.length cp,.string ⟨#[]⟩,.string ⟨#[]⟩,.string wh,.int .i64 st,.string te] rfl rfl 72 zcells hB7 (by kernel_rfl) rfl (o_one _ _ _ _ _ _ _ _ _ _ rfl rfl rfl) ?_; intro w8 hB8 hg8)))
       have hl:=Go.run_loadVar_row (P:=Tryz.prog) w8 w.heap.size 72 72 #[.int .i64 3,.slice none 0 0,.slice none 0 0,.string tr,.slice Ap pa.length cp,.string ⟨#[]⟩,.string ⟨#[]⟩,.string wh,.int .i64 st,.string te] (0,0) _ hB8 Tryz.underlying72 rfl (by kernel_rfl)
       rw [HD.out]
       have hb9 : Below w.heap.size w w8:=hbe.grown hg8 hbe.size (fun k hk => by cases hk; exact Nat.le_refl _)
       refine bodyPost_ret (v:=.tuple #[.agg #[.int .i64 3,.slice none 0 0,.slice none 0 0,.string tr,.slice Ap pa.length cp,.string ⟨#[]⟩,.string ⟨#[]⟩,.string wh,.int .i64 st,.string te],.int .i64 0]) ?_ rfl ⟨3,none,[],0,none,[],0,tr,Ap,pa,cp,⟨#[]⟩,⟨#[]⟩,wh,st,te,rfl,rfl,RdN.nil,RdN.nil,(((hpn.below hb6).apart hg8 (by omega)).lower (by omega)),hb9,(Nat.zero_le _),hpl,hps⟩
       simp [results,Tryz.results30,asAddr,hl]
      ·have HD : Hid (decO geS (3 :: l) = none):=by
        unfold Hid
        rw [hDec,if_neg (by rintro ⟨_,_,h⟩; exact heq (by rw [el.out,h]))]
       have hq:=Same_no Ao lo co (some ⟨gb,off,none⟩) (3 :: l) c w6 _ _ hr6 hrb heq
       rw [← hnl] at hq
       clear hDec heq hr hrb hr6 hck hnl
       go_wp2_with ((first
        | (go_at_call 14; refine hq.mono ?_; rintro e w7 ⟨rfl,rfl⟩)
        | (refine wpList_store_blk (by rfl) _ (.tmp 2) (.tmp 141) rfl w.heap.size zcells rfl rfl 72 zcells hB7 (by kernel_rfl) rfl (by decide) ?_; intro w8 hB8 hg8)))
       have hl:=Go.run_loadVar_row (P:=Tryz.prog) w8 w.heap.size 72 72 zcells.toArray (0,0) _ hB8 Tryz.underlying72 rfl (by kernel_rfl)
       rw [HD.out]
       refine bodyPost_ret (v:=.tuple #[.agg zcells.toArray,.int .i64 2]) ?_ rfl ⟨rfl,hbe.grown hg8 hbe.size (fun k hk => by cases hk; exact Nat.le_refl _)⟩
       simp [results,Tryz.results30,asAddr,hl]
    ·have HD : Hid (decO geS (3 :: l) = none):=by
      unfold Hid
      rw [hDec,if_neg (by rw [hck]; simp)]
     clear hDec hck
     cases b9 with
     | true =>
      go_wp2_with ((refine wpList_store_blk (by rfl) _ (.tmp 2) (.tmp 141) rfl w.heap.size zcells rfl rfl 72 zcells hB7 (by kernel_rfl) rfl (by decide) ?_; intro w8 hB8 hg8))
      have hl:=Go.run_loadVar_row (P:=Tryz.prog) w8 w.heap.size 72 72 zcells.toArray (0,0) _ hB8 Tryz.underlying72 rfl (by kernel_rfl)
      rw [HD.out]
      refine bodyPost_ret (v:=.tuple #[.agg zcells.toArray,.int .i64 2]) ?_ rfl ⟨rfl,hbe.grown hg8 hbe.size (fun k hk => by cases hk; exact Nat.le_refl _)⟩
      simp [results,Tryz.results30,asAddr,hl]
     | false =>
      go_wp2_with ((refine wpList_store_blk (by rfl) _ (.tmp 2) (.tmp 141) rfl w.heap.size zcells rfl rfl 72 zcells hB7 (by kernel_rfl) rfl (by decide) ?_; intro w8 hB8 hg8))
      have hl:=Go.run_loadVar_row (P:=Tryz.prog) w8 w.heap.size 72 72 zcells.toArray (0,0) _ hB8 Tryz.underlying72 rfl (by kernel_rfl)
      rw [HD.out]
      refine bodyPost_ret (v:=.tuple #[.agg zcells.toArray,.int .i64 2]) ?_ rfl ⟨rfl,hbe.grown hg8 hbe.size (fun k hk => by cases hk; exact Nat.le_refl _)⟩
      simp [results,Tryz.results30,asAddr,hl]
   | false =>
    have f1 : IntKind.i64.wrap ((k' : Int) + 1) = (k' : Int) + 1:=IntWalk.i64_in _ (by omega)
    have hv2':=hv2 rfl
    have hmb : m.length ≤ 140737488351231:=by have:=hmlen.out; omega
    have y0 : wr.cell? ⟨w.heap.size + 2,4,none⟩ = some (.slice Ap pa.length cp):=by rw [hX.cell]; rfl
    go_wp2_with fail
    refine wp_region_last (S:=fun w' => w'.cell? ⟨w.heap.size + 2,4,none⟩ = some (.slice Ap pa.length cp)) 7 _ (by kernel_rfl) rfl (by kernel_rfl) rfl rfl y0 (fun hHeld => ?_)
    simp only [List.setIfInBounds_toArray,List.set_cons_zero,List.set_cons_succ,idle,List.getElem_toArray,List.getElem_cons_succ,List.getElem_cons_zero]
    refine tk 0 (.pointer (some ⟨w.heap.size + 2,4,none⟩)) rfl (fun _ _ _ h => h) (Or.inl ⟨by rfl,fun w' hS => ?_⟩) hHeld ?_
    ·obtain s0:=hS
     go_simp
    try simp only [Act.put,sA,sB,sC,sD,sF]
    refine tk 1 (.slice Ap pa.length cp) rfl (fun _ _ _ h => h) (Or.inl ⟨by rfl,fun w' hS => ?_⟩) hHeld ?_
    ·obtain s0:=hS
     go_simp
    try simp only [Act.put,sA,sB,sC,sD,sE,sF]
    refine tk 2 (.pointer (some ⟨w.heap.size + 1,0,none⟩)) rfl (fun _ _ _ h => h) (Or.inl ⟨by rfl,fun w' hS => ?_⟩) hHeld ?_
    ·obtain s0:=hS
     go_simp
    try simp only [Act.put,sA,sB,sC,sD,sE,sF]
    refine wpAnyH_ready (rs:=[3]) (by kernel_rfl) (by simp) (AllReadyH.cons (o:=_) rfl (fun K hK => ?_) AllReadyH.nil)
    go_simp
    refine (rrBytes_calls B (w.heap.size + 1) 32 32 rfl l3 false wr.drew hR.drew).mono ?_
    rintro e w1 ⟨ii,l4,b4,rfl,r1,ti,g1,q1,hi32⟩
    have E1:=own_other (w:=wr.drew) hE hRb.drew (by decide) g1
    have X1:=hX.drew.grown g1 (blk_apart hX hRb (by decide))
    have y1 : w1.cell? ⟨w.heap.size + 2,4,none⟩ = some (.slice Ap pa.length cp):=by rw [X1.cell]; rfl
    have s1' : wr.heap.size ≤ w1.heap.size:=g1.size
    unfold mkS
    refine hK.out _ _ y1 (fun hHeld => ?_)
    clear hK K
    try simp only [Act.put,sA,sB,sC,sD,sE,sF]
    have E4:=E1.alloc (.cells #[.string ⟨ii.toArray⟩] 9)
    have hr4:=Rd.new1 w1 9 (.string ⟨ii.toArray⟩)
    have h14 : ∀ u ∈ [Value.string ⟨ii.toArray⟩],u.oneCell' = true:=by
     intro u hu
     obtain rfl:=List.mem_singleton.1 hu
     rfl
    have hb4 : Below w1.heap.size w1 (w1.alloc (.cells #[.string ⟨ii.toArray⟩] 9)):=(Below.refl _ _).alloc (Nat.le_refl _) _
    have r4:=r1.below hb4
    have X4:=X1.alloc (.cells #[.string ⟨ii.toArray⟩] 9)
    have y4 : (w1.alloc (.cells #[.string ⟨ii.toArray⟩] 9)).cell? ⟨w.heap.size + 2,4,none⟩ = some (.slice Ap pa.length cp):=by rw [X4.cell]; rfl
    have h4 : Below B wr (w1.alloc (.cells #[.string ⟨ii.toArray⟩] 9)):=((Below.refl B wr).drew).trans ((below_of_grown g1 (by omega) (by show B ≤ wr.heap.size; omega) : Below B wr.drew w1).trans (hb4.mono (by omega)))
    obtain ⟨_,_,Rb4,_⟩:=id r4
    have n4 : some (w.heap.size + 2) ≠ (Value.slice Ap pa.length cp).ownBlock:=fun e => own_ne E4 X4 (by decide) e.symm
    refine wpAnyH_ready (rs:=[4]) (by kernel_rfl) (by simp) (AllReadyH.cons (o:=_) rfl (fun K hK => ?_) AllReadyH.nil)
    go_simp
    refine hK.out _ _ y4 (fun hHeld => ?_)
    clear hK K
    try simp only [Act.put,sA,sB,sC,sD,sE,sF]
    refine wpAnyH_ready (rs:=[5]) (by kernel_rfl) (by simp) (AllReadyH.cons (o:=_) rfl (fun K hK => ?_) AllReadyH.nil)
    refine appNr rfl (.tmp 90) (.tmp 93) 45 9 _ 1 16 rfl Tryz.underlying45 info_st rfl (by decide) B _ pa.length (pc pa) rfl E4 _ _ 1 1 _ rfl hr4 h14 (by unfold maxLen; omega) (by omega) (Nat.le_trans (by omega) h4.size) ?_
    intro A7 c7 w7 E7 b7 g7 _ _
    have X7:=X4.grown g7 n4
    have y7 : w7.cell? ⟨w.heap.size + 2,4,none⟩ = some (.slice Ap pa.length cp):=by rw [X7.cell]; rfl
    refine hK.out _ _ y7 (fun hHeld => ?_)
    clear hK K
    try simp only [Act.put,sA,sB,sC,sD,sE,sF]
    refine tk 6 (.pointer (some ⟨w.heap.size + 2,4,none⟩)) rfl (fun _ _ _ h => h) (Or.inl ⟨by rfl,fun w' hS => ?_⟩) hHeld ?_
    ·obtain s0:=hS
     go_simp
    try simp only [Act.put,sA,sB,sC,sD,sE,sF]
    refine tk 7 (undef) rfl (fun _ _ _ h => h) (Or.inl ⟨by rfl,fun w' hS => ?_⟩) hHeld ?_
    ·obtain s0:=hS
     go_simp
    try simp only [Act.put,sD,sE,sF]
    refine wpAnyH_done (by kernel_rfl) ?_ _
    have f7:=X7.free 4
    simp only [lastQ]
    go_simp
    have r7:=r4.keep g7 (fun e => own_ne E4 Rb4 (by decide) e.symm) (Other.own E4 (by decide) (Nat.le_refl _))
    have h7 : Below B wr w7:=h4.trans b7
    have gs7 : w7.grownBy (w7.setCell ⟨w.heap.size + 2,4,none⟩ (.slice A7 (pa.length + 1) c7)) (some (w.heap.size + 2)):=grown_setCell (World.grownBy.refl _ _) 4 _
    have Xz : Blk (w7.setCell ⟨w.heap.size + 2,4,none⟩ (.slice A7 (pa.length + 1) c7)) (w.heap.size + 2) 72 (ocells 3 (.slice none 0 0) (.slice none 0 0) ⟨v1.toArray⟩ (.slice A7 (pa.length + 1) c7) ⟨#[]⟩ ⟨#[]⟩ ⟨#[]⟩ 0 ⟨#[]⟩):=X7.set 4 _
    have rz:=r7.keep gs7 (fun e => by injection e; omega) (Other.blk X7 (by decide) (by omega))
    have Ez:=own_other E7 X7 (by decide) gs7
    have hz : Below B wr (w7.setCell ⟨w.heap.size + 2,4,none⟩ (.slice A7 (pa.length + 1) c7)):=h7.trans (below_of_grown gs7 (by omega) (by have:=h7.size; omega))
    clear X7 E7 r7 hr4 E4 X4 hHeld y0 y1 y4 y7
    go_wp2_with fail
    obtain ⟨wz,hwz⟩ : ∃ wz,wz = w7.setCell ⟨w.heap.size + 2,4,none⟩ (.slice A7 (pa.length + 1) c7):=⟨_,rfl⟩
    rw [← hwz] at Xz rz Ez hz ⊢
    have e1 : pa.length + 1 = (pa ++ [(⟨ii.toArray⟩ : ByteArray)]).length:=by simp
    have hec : pc pa ++ [Value.string ⟨ii.toArray⟩] = pc (pa ++ [(⟨ii.toArray⟩ : ByteArray)]):=by
     rw [pc_app]
     rfl
    rw [hec] at Ez
    rw [e1] at Xz Ez
    have ht:=took_par ti.out
    have hT2:=hT.out
    rw [show N - k' = (N - (k' + 1)) + 1 by omega] at hT2
    refine ⟨⟨k' + 1,_,A7,c7,l4,b4,by go_num,by omega,Xz,Ez,rz,Lib.hid (hT2.step ht),hb.trans hz,hN',by simp; omega,fun hb0 => ?_,Lib.hid ?_⟩,by simp [intOf]; omega⟩
    ·have h9:=takePar_less (ht.good hb0).2
     simp only [List.length_append,List.length_singleton]
     omega
    ·intro e he
     rcases List.mem_append.1 he with he | he
     ·exact hv3.out e he
     ·obtain rfl:=List.mem_singleton.1 he
      show ii.toArray.size ≤ 32
      simpa using hi32
  ·have d1 : decide ((k' : Int) < (N : Int)) = false:=decide_eq_false (by omega)
   have d1' : ¬ (k' : Int) < (N : Int):=by omega
   clear hRb
   have hBx:=Ba1.below hb (by omega)
   have hbx:=ha1.trans hb
   have tp:=took_many t2.out (hT.out.done (.inl (by omega)))
   go_wp2_with fail
   refine (rrText_calls B (w.heap.size + 1) l3 b3 _ hR).mono ?_
   rintro e wa3 ⟨v3,la3,ba3,rfl,ra3,t3,ga3,qa3,va3⟩
   obtain ⟨Ax3,cx3,Rb3,_⟩:=id hR
   have Xa3:=hX.grown ga3 (blk_apart hX Rb3 (by decide))
   have Ba3:=hBx.grown ga3 (blk_apart hBx Rb3 (by decide))
   have ha3:=hbx.trans (below_of_grown ga3 (by omega) (Nat.le_trans hBw hbx.size))
   obtain ⟨k30,k31,k32,k33,k34,k35,k36,k37,k38,k39⟩:=obj_cells Xa3
   have fr3:=Xa3.free 7
   have gs3 : wa3.grownBy (wa3.setCell ⟨w.heap.size + 2,7,none⟩ (.string ⟨v3.toArray⟩)) (some (w.heap.size + 2)):=grown_setCell (World.grownBy.refl _ _) 7 _
   have Xs3 : Blk (wa3.setCell ⟨w.heap.size + 2,7,none⟩ (.string ⟨v3.toArray⟩)) (w.heap.size + 2) 72 (ocells 3 (.slice none 0 0) (.slice none 0 0) ⟨v1.toArray⟩ (.slice Ap pa.length cp) ⟨#[]⟩ ⟨#[]⟩ ⟨v3.toArray⟩ 0 ⟨#[]⟩):=Xa3.set 7 _
   have rs3:=ra3.keep gs3 (fun e => by injection e; omega) (Other.blk Xa3 (by decide) (by omega))
   have Bs3:=Ba3.grown gs3 (fun e => by injection e; omega)
   have hs3:=ha3.trans (below_of_grown gs3 (by omega) (Nat.le_trans hBw ha3.size))
   unfold mkS
   go_wp2_with fail
   refine (rrNum_calls B (w.heap.size + 1) la3 ba3 _ rs3).mono ?_
   rintro e wa4 ⟨v4,la4,ba4,rfl,ra4,t4,ga4,qa4,va4⟩
   obtain ⟨Ax4,cx4,Rb4,_⟩:=id rs3
   have Xa4:=Xs3.grown ga4 (blk_apart Xs3 Rb4 (by decide))
   have Ba4:=Bs3.grown ga4 (blk_apart Bs3 Rb4 (by decide))
   have ha4:=hs3.trans (below_of_grown ga4 (by omega) (Nat.le_trans hBw hs3.size))
   obtain ⟨k40,k41,k42,k43,k44,k45,k46,k47,k48,k49⟩:=obj_cells Xa4
   have fr4:=Xa4.free 8
   have gs4 : wa4.grownBy (wa4.setCell ⟨w.heap.size + 2,8,none⟩ (.int .i64 (v4 : Nat))) (some (w.heap.size + 2)):=grown_setCell (World.grownBy.refl _ _) 8 _
   have Xs4 : Blk (wa4.setCell ⟨w.heap.size + 2,8,none⟩ (.int .i64 (v4 : Nat))) (w.heap.size + 2) 72 (ocells 3 (.slice none 0 0) (.slice none 0 0) ⟨v1.toArray⟩ (.slice Ap pa.length cp) ⟨#[]⟩ ⟨#[]⟩ ⟨v3.toArray⟩ (v4 : Nat) ⟨#[]⟩):=Xa4.set 8 _
   have rs4:=ra4.keep gs4 (fun e => by injection e; omega) (Other.blk Xa4 (by decide) (by omega))
   have Bs4:=Ba4.grown gs4 (fun e => by injection e; omega)
   have hs4:=ha4.trans (below_of_grown gs4 (by omega) (Nat.le_trans hBw ha4.size))
   unfold mkN
   go_wp2_with fail
   refine (rrText_calls B (w.heap.size + 1) la4 ba4 _ rs4).mono ?_
   rintro e wa5 ⟨v5,la5,ba5,rfl,ra5,t5,ga5,qa5,va5⟩
   obtain ⟨Ax5,cx5,Rb5,_⟩:=id rs4
   have Xa5:=Xs4.grown ga5 (blk_apart Xs4 Rb5 (by decide))
   have Ba5:=Bs4.grown ga5 (blk_apart Bs4 Rb5 (by decide))
   have ha5:=hs4.trans (below_of_grown ga5 (by omega) (Nat.le_trans hBw hs4.size))
   obtain ⟨k50,k51,k52,k53,k54,k55,k56,k57,k58,k59⟩:=obj_cells Xa5
   have fr5:=Xa5.free 9
   have gs5 : wa5.grownBy (wa5.setCell ⟨w.heap.size + 2,9,none⟩ (.string ⟨v5.toArray⟩)) (some (w.heap.size + 2)):=grown_setCell (World.grownBy.refl _ _) 9 _
   have Xs5 : Blk (wa5.setCell ⟨w.heap.size + 2,9,none⟩ (.string ⟨v5.toArray⟩)) (w.heap.size + 2) 72 (ocells 3 (.slice none 0 0) (.slice none 0 0) ⟨v1.toArray⟩ (.slice Ap pa.length cp) ⟨#[]⟩ ⟨#[]⟩ ⟨v3.toArray⟩ (v4 : Nat) ⟨v5.toArray⟩):=Xa5.set 9 _
   have rs5:=ra5.keep gs5 (fun e => by injection e; omega) (Other.blk Xa5 (by decide) (by omega))
   have Bs5:=Ba5.grown gs5 (fun e => by injection e; omega)
   have hs5:=ha5.trans (below_of_grown gs5 (by omega) (Nat.le_trans hBw ha5.size))
   unfold mkS
   have E3a:=own_other hE Rb3 (by decide) ga3
   have E3s:=own_other E3a Xa3 (by decide) gs3
   have E4a:=own_other E3s Rb4 (by decide) ga4
   have E4s:=own_other E4a Xa4 (by decide) gs4
   have E5a:=own_other E4s Rb5 (by decide) ga5
   have E5s:=own_other E5a Xa5 (by decide) gs5
   have hpn : RdN _ B 1 Ap pa.length (pc pa):=RdN.own E5s
   have hpl : pa.length ≤ 140737488355328:=by have:=hmlen.out; omega
   have hps : Hid (∀ p ∈ pa,p.size ≤ maxLen):=Lib.hid (fun q hq => by have:=hv3.out q hq; unfold maxLen; omega)
   have hPo : Hid (Parsed (parseK 3 l) (⟨3,[],[],⟨v1.toArray⟩,pa,⟨#[]⟩,⟨#[]⟩,⟨v3.toArray⟩,(v4 : Nat),⟨v5.toArray⟩⟩ : Go.Dol.Obj) ba5):=Lib.hid (by
    have h:=parsed_commit t1.out tp (took_told t3.out t4.out t5.out)
    rw [HML.out] at h
    rw [parseK3]
    exact h)
   obtain ⟨tr,htr⟩ : ∃ tr : ByteArray,tr = ⟨v1.toArray⟩:=⟨_,rfl⟩
   obtain ⟨wh,hwh⟩ : ∃ wh : ByteArray,wh = ⟨v3.toArray⟩:=⟨_,rfl⟩
   obtain ⟨st,hst⟩ : ∃ st : Int,st = ((v4 : Nat) : Int):=⟨_,rfl⟩
   obtain ⟨te,hte⟩ : ∃ te : ByteArray,te = ⟨v5.toArray⟩:=⟨_,rfl⟩
   rw [← htr,← hwh,← hst,← hte] at Xs5 hPo ⊢
   rw [← hte] at rs5 Bs5 hs5 hpn
   obtain ⟨b9,hb9e⟩ : ∃ b9,b9 = ba5:=⟨_,rfl⟩
   rw [← hb9e] at rs5 hPo
   have hXx:=Xs5
   have hRx:=rs5
   have hBxx:=Bs5
   have hbxx:=hs5
   clear htr hwh hst hte hb9e Xs5 rs5 Bs5 hs5 Xa3 Xa4 Ba3 Ba4 Xs3 Xs4 rs3 rs4 Bs3 Bs4 ra3 ra4 ra5 Rb3 Rb4 Rb5 t3 t4 t5 ha3 ha4 hs3 hs4 k30 k31 k32 k33 k34 k35 k36 k37 k38 k39 k40 k41 k42 k43 k44 k45 k46 k47 k48 k49 E3a E3s E4a E4s E5a E5s hE hT hb hv1 hv2 hR hX
   -- from here on: world wx; hX : Blk (wa5.setCell ⟨w.heap.size + 2, 9, none⟩ (.string te)) gx [C]; hRx : Rr (wa5.setCell ⟨w.heap.size + 2, 9, none⟩ (.string te)) B g l3 b9; hBx : Blk (wa5.setCell ⟨w.heap.size + 2, 9, none⟩ (.string te)) of the result; hbx : Below B W2 wx
   obtain ⟨z0,z1,z2,z3,z4,z5,z6,z7,z8,z9⟩:=obj_cells hXx
   have hE:=refEncode_calls 3 none [] 0 none [] 0 tr Ap pa cp ⟨#[]⟩ ⟨#[]⟩ wh st te (wa5.setCell ⟨w.heap.size + 2,9,none⟩ (.string te)) Rd.nil Rd.nil hpn.1 (Nat.zero_le _) hpl (Lib.hid (by simp))
   clear hRr hR2 hB1 hX3 hBr
   go_wp2_with fail
   refine hE.mono ?_
   rintro e w6 ⟨hb6,hR6⟩
   have hR7:=hRx.below hb6
   have hB7:=hBxx.below hb6 hBxx.lt
   have hO7:=hXx.below hb6 hXx.lt
   have hsx:=hbxx.size
   have hbe : Below w.heap.size w w6:=hb3.trans ((hbxx.mono (by omega)).trans (hb6.mono (by omega)))
   obtain ⟨Ar,cr,hRb,_⟩:=id hR7
   have e1 : w6.cell? ⟨w.heap.size + 1,1,none⟩ = some (.bool b9):=by rw [hRb.cell]; rfl
   clear z0 z1 z2 z3 z4 z5 z6 z7 z8 z9 hE
   have hDec:=dec_of (ge:=geS) hPo.out
   rcases hR6 with ⟨hck,lo,Ao,co,el,rfl,ho6⟩ | ⟨hck,rfl⟩
   ·have HCK:=Lib.hid hck
    cases b9 with
    | true =>
     have HD : Hid (decO geS (3 :: l) = none):=by
      unfold Hid
      rw [hDec,if_neg (by simp)]
     clear hDec hck
     go_wp2_with ((refine wpList_store_blk (by rfl) _ (.tmp 2) (.tmp 141) rfl w.heap.size zcells rfl rfl 72 zcells hB7 (by kernel_rfl) rfl (by decide) ?_; intro w8 hB8 hg8))
     have hl:=Go.run_loadVar_row (P:=Tryz.prog) w8 w.heap.size 72 72 zcells.toArray (0,0) _ hB8 Tryz.underlying72 rfl (by kernel_rfl)
     rw [HD.out]
     refine bodyPost_ret (v:=.tuple #[.agg zcells.toArray,.int .i64 2]) ?_ rfl ⟨rfl,hbe.grown hg8 hbe.size (fun k hk => by cases hk; exact Nat.le_refl _)⟩
     simp [results,Tryz.results30,asAddr,hl]
    | false =>
     have hr6:=Rd.of_own ho6
     have hrb : Rd w6 w6.heap.size 1 (some ⟨gb,off,none⟩) (3 :: l).length (bc (3 :: l)):=by
      have:=(hr.below hbe).more hbe.size
      rwa [HN.out] at this
     have hnl : n = (3 :: l).length:=by rw [List.length_cons]; exact HN.out
     by_cases heq : lo = 3 :: l
     ·have HD : Hid (decO geS (3 :: l) = some ⟨3,[],[],tr,pa,⟨#[]⟩,⟨#[]⟩,wh,st,te⟩):=by
       unfold Hid
       rw [hDec,if_pos ⟨rfl,HCK.out,by rw [← el.out]; exact heq⟩]
      have hq:=Same_calls Ao lo co (some ⟨gb,off,none⟩) (3 :: l) c w6 _ _ hr6 hrb (Lib.hid heq)
      rw [← hnl] at hq
      have HQ:=Lib.hid heq
      obtain ⟨z0,z1,z2,z3,z4,z5,z6,z7,z8,z9⟩:=obj_cells hO7
      clear hDec heq hr hrb hr6 hck hnl
      go_wp2_with ((first
       | (go_at_call 14; refine hq.mono ?_; rintro e w7 ⟨rfl,rfl⟩)
       | (refine wpList_store_blk (by rfl) _ (.tmp 2) (.tmp 142) rfl w.heap.size [.int .i64 3,.slice none 0 0,.slice none 0 0,.string tr,.slice Ap pa.length cp,.string ⟨#[]⟩,.string ⟨#[]⟩,.string wh,.int .i64 st,.string te] rfl rfl 72 zcells hB7 (by kernel_rfl) rfl (o_one _ _ _ _ _ _ _ _ _ _ rfl rfl rfl) ?_; intro w8 hB8 hg8)))
      have hl:=Go.run_loadVar_row (P:=Tryz.prog) w8 w.heap.size 72 72 #[.int .i64 3,.slice none 0 0,.slice none 0 0,.string tr,.slice Ap pa.length cp,.string ⟨#[]⟩,.string ⟨#[]⟩,.string wh,.int .i64 st,.string te] (0,0) _ hB8 Tryz.underlying72 rfl (by kernel_rfl)
      rw [HD.out]
      have hb9 : Below w.heap.size w w8:=hbe.grown hg8 hbe.size (fun k hk => by cases hk; exact Nat.le_refl _)
      refine bodyPost_ret (v:=.tuple #[.agg #[.int .i64 3,.slice none 0 0,.slice none 0 0,.string tr,.slice Ap pa.length cp,.string ⟨#[]⟩,.string ⟨#[]⟩,.string wh,.int .i64 st,.string te],.int .i64 0]) ?_ rfl ⟨3,none,[],0,none,[],0,tr,Ap,pa,cp,⟨#[]⟩,⟨#[]⟩,wh,st,te,rfl,rfl,RdN.nil,RdN.nil,(((hpn.below hb6).apart hg8 (by omega)).lower (by omega)),hb9,(Nat.zero_le _),hpl,hps⟩
      simp [results,Tryz.results30,asAddr,hl]
     ·have HD : Hid (decO geS (3 :: l) = none):=by
       unfold Hid
       rw [hDec,if_neg (by rintro ⟨_,_,h⟩; exact heq (by rw [el.out,h]))]
      have hq:=Same_no Ao lo co (some ⟨gb,off,none⟩) (3 :: l) c w6 _ _ hr6 hrb heq
      rw [← hnl] at hq
      clear hDec heq hr hrb hr6 hck hnl
      go_wp2_with ((first
       | (go_at_call 14; refine hq.mono ?_; rintro e w7 ⟨rfl,rfl⟩)
       | (refine wpList_store_blk (by rfl) _ (.tmp 2) (.tmp 141) rfl w.heap.size zcells rfl rfl 72 zcells hB7 (by kernel_rfl) rfl (by decide) ?_; intro w8 hB8 hg8)))
      have hl:=Go.run_loadVar_row (P:=Tryz.prog) w8 w.heap.size 72 72 zcells.toArray (0,0) _ hB8 Tryz.underlying72 rfl (by kernel_rfl)
      rw [HD.out]
      refine bodyPost_ret (v:=.tuple #[.agg zcells.toArray,.int .i64 2]) ?_ rfl ⟨rfl,hbe.grown hg8 hbe.size (fun k hk => by cases hk; exact Nat.le_refl _)⟩
      simp [results,Tryz.results30,asAddr,hl]
   ·have HD : Hid (decO geS (3 :: l) = none):=by
     unfold Hid
     rw [hDec,if_neg (by rw [hck]; simp)]
    clear hDec hck
    cases b9 with
    | true =>
     go_wp2_with ((refine wpList_store_blk (by rfl) _ (.tmp 2) (.tmp 141) rfl w.heap.size zcells rfl rfl 72 zcells hB7 (by kernel_rfl) rfl (by decide) ?_; intro w8 hB8 hg8))
     have hl:=Go.run_loadVar_row (P:=Tryz.prog) w8 w.heap.size 72 72 zcells.toArray (0,0) _ hB8 Tryz.underlying72 rfl (by kernel_rfl)
     rw [HD.out]
     refine bodyPost_ret (v:=.tuple #[.agg zcells.toArray,.int .i64 2]) ?_ rfl ⟨rfl,hbe.grown hg8 hbe.size (fun k hk => by cases hk; exact Nat.le_refl _)⟩
     simp [results,Tryz.results30,asAddr,hl]
    | false =>
     go_wp2_with ((refine wpList_store_blk (by rfl) _ (.tmp 2) (.tmp 141) rfl w.heap.size zcells rfl rfl 72 zcells hB7 (by kernel_rfl) rfl (by decide) ?_; intro w8 hB8 hg8))
     have hl:=Go.run_loadVar_row (P:=Tryz.prog) w8 w.heap.size 72 72 zcells.toArray (0,0) _ hB8 Tryz.underlying72 rfl (by kernel_rfl)
     rw [HD.out]
     refine bodyPost_ret (v:=.tuple #[.agg zcells.toArray,.int .i64 2]) ?_ rfl ⟨rfl,hbe.grown hg8 hbe.size (fun k hk => by cases hk; exact Nat.le_refl _)⟩
     simp [results,Tryz.results30,asAddr,hl]
theorem refDecodeN_calls (A : Option Addr) (x : UInt8) (l : List UInt8) (n c : Nat) (w : World) (hn : n = l.length + 1) (hr : Rd w w.heap.size 1 A n (bc (x :: l))) (hc : n ≤ c) (hcm : c ≤ maxLen) (h1 : x ≠ 1) (h2 : x ≠ 2) (h3 : x ≠ 3) (h4 : x ≠ 4) :
  Calls Tryz.prog 30 #[.slice A n c] w (RetDec w none):=by
 have d0 : ((n : Int) == 0) = false:=beq_eq_false_iff_ne.2 (by omega)
 have hn0 : (0 : Int) < (n : Int):=by omega
 obtain ⟨m,A',c',em,jm,jm',⟨rm,km,km'⟩,_,_,_,sm⟩:=sl_from (k:=1) (l:=x :: l) (c:=c) 1 rfl (by rw [List.length_cons,← hn]; exact hr) (by simp) (by simp; omega) hcm
 rw [List.length_cons,← hn] at sm jm
 obtain ⟨gb,off,rfl,hgb,hcell⟩:=hr.at_ (by omega)
 have hb1 : Below w.heap.size w (w.alloc (.cells #[.int .i64 0,.slice none 0 0,.slice none 0 0,.string ⟨#[]⟩,.slice none 0 0,.string ⟨#[]⟩,.string ⟨#[]⟩,.string ⟨#[]⟩,.int .i64 0,.string ⟨#[]⟩] 72)):=(Below.refl _ _).alloc (Nat.le_refl _) _
 have hb2:=hb1.alloc hb1.size (.cells #[.slice A' m.length c',.bool false] 127)
 have hb3:=hb2.alloc hb2.size (.cells #[.int .i64 (x.toNat : Nat),.slice none 0 0,.slice none 0 0,.string ⟨#[]⟩,.slice none 0 0,.string ⟨#[]⟩,.string ⟨#[]⟩,.string ⟨#[]⟩,.int .i64 0,.string ⟨#[]⟩] 72)
 have hB1:=Blk.new w 72 zcells
 have hB3:=(hB1.alloc (.cells #[.slice A' m.length c',.bool false] 127)).alloc (.cells #[.int .i64 (x.toNat : Nat),.slice none 0 0,.slice none 0 0,.string ⟨#[]⟩,.slice none 0 0,.string ⟨#[]⟩,.string ⟨#[]⟩,.string ⟨#[]⟩,.int .i64 0,.string ⟨#[]⟩] 72)
 have s1 : (w.alloc (.cells #[.int .i64 0,.slice none 0 0,.slice none 0 0,.string ⟨#[]⟩,.slice none 0 0,.string ⟨#[]⟩,.string ⟨#[]⟩,.string ⟨#[]⟩,.int .i64 0,.string ⟨#[]⟩] 72)).heap.size = w.heap.size + 1:=by simp
 have s2 : ((w.alloc (.cells #[.int .i64 0,.slice none 0 0,.slice none 0 0,.string ⟨#[]⟩,.slice none 0 0,.string ⟨#[]⟩,.string ⟨#[]⟩,.string ⟨#[]⟩,.int .i64 0,.string ⟨#[]⟩] 72)).alloc (.cells #[.slice A' m.length c',.bool false] 127)).heap.size = w.heap.size + 2:=by simp
 have hR2:=(Blk.new (w.alloc (.cells #[.int .i64 0,.slice none 0 0,.slice none 0 0,.string ⟨#[]⟩,.slice none 0 0,.string ⟨#[]⟩,.string ⟨#[]⟩,.string ⟨#[]⟩,.int .i64 0,.string ⟨#[]⟩] 72)) 127 [.slice A' m.length c',.bool false]).alloc (.cells #[.int .i64 (x.toNat : Nat),.slice none 0 0,.slice none 0 0,.string ⟨#[]⟩,.slice none 0 0,.string ⟨#[]⟩,.string ⟨#[]⟩,.string ⟨#[]⟩,.int .i64 0,.string ⟨#[]⟩] 72)
 have hX3 : Blk (((w.alloc (.cells #[.int .i64 0,.slice none 0 0,.slice none 0 0,.string ⟨#[]⟩,.slice none 0 0,.string ⟨#[]⟩,.string ⟨#[]⟩,.string ⟨#[]⟩,.int .i64 0,.string ⟨#[]⟩] 72)).alloc (.cells #[.slice A' m.length c',.bool false] 127)).alloc (.cells #[.int .i64 (x.toNat : Nat),.slice none 0 0,.slice none 0 0,.string ⟨#[]⟩,.slice none 0 0,.string ⟨#[]⟩,.string ⟨#[]⟩,.string ⟨#[]⟩,.int .i64 0,.string ⟨#[]⟩] 72)) (w.heap.size + 2) 72 (ocells (x.toNat : Nat) (.slice none 0 0) (.slice none 0 0) ⟨#[]⟩ (.slice none 0 0) ⟨#[]⟩ ⟨#[]⟩ ⟨#[]⟩ 0 ⟨#[]⟩):=by
  have h:=Blk.new ((w.alloc (.cells #[.int .i64 0,.slice none 0 0,.slice none 0 0,.string ⟨#[]⟩,.slice none 0 0,.string ⟨#[]⟩,.string ⟨#[]⟩,.string ⟨#[]⟩,.int .i64 0,.string ⟨#[]⟩] 72)).alloc (.cells #[.slice A' m.length c',.bool false] 127)) 72 (ocells (x.toNat : Nat) (.slice none 0 0) (.slice none 0 0) ⟨#[]⟩ (.slice none 0 0) ⟨#[]⟩ ⟨#[]⟩ ⟨#[]⟩ 0 ⟨#[]⟩)
  rw [s2] at h
  exact h
 rw [s1] at hR2
 have hx1 : w.cell? ⟨gb,off,none⟩ = some (.int .u8 x.toNat):=hcell 0 (.int .u8 x.toNat) rfl
 have k1 : ((x.toNat : Nat) : Int) ≠ 1:=fun e => h1 (UInt8.toNat_inj.1 (by rw [show (1 : UInt8).toNat = 1 from rfl]; omega))
 have k2 : ((x.toNat : Nat) : Int) ≠ 2:=fun e => h2 (UInt8.toNat_inj.1 (by rw [show (2 : UInt8).toNat = 2 from rfl]; omega))
 have k3 : ((x.toNat : Nat) : Int) ≠ 3:=fun e => h3 (UInt8.toNat_inj.1 (by rw [show (3 : UInt8).toNat = 3 from rfl]; omega))
 have k4 : ((x.toNat : Nat) : Int) ≠ 4:=fun e => h4 (UInt8.toNat_inj.1 (by rw [show (4 : UInt8).toNat = 4 from rfl]; omega))
 have b1 : (((x.toNat : Nat) : Int) == 1) = false:=beq_eq_false_iff_ne.2 k1
 have b2 : (((x.toNat : Nat) : Int) == 2) = false:=beq_eq_false_iff_ne.2 k2
 have b3 : (((x.toNat : Nat) : Int) == 3) = false:=beq_eq_false_iff_ne.2 k3
 have b4 : (((x.toNat : Nat) : Int) == 4) = false:=beq_eq_false_iff_ne.2 k4
 have hxl : x.toNat < 256:=x.toNat_lt
 have hwx : IntKind.i64.wrap (x.toNat : Int) = (x.toNat : Int):=IntWalk.i64_in _ (by omega)
 have HC : Hid (checkB geS ⟨((x.toNat : Nat) : Int),[],[],⟨#[]⟩,[],⟨#[]⟩,⟨#[]⟩,⟨#[]⟩,0,⟨#[]⟩⟩ = false):=by
  unfold Hid checkB
  rw [if_neg k1,if_neg k2,if_neg k3,if_neg k4]
 have hE:=refEncode_wrong (x.toNat : Nat) none [] 0 none [] 0 ⟨#[]⟩ none [] 0 ⟨#[]⟩ ⟨#[]⟩ ⟨#[]⟩ 0 ⟨#[]⟩ (((w.alloc (.cells #[.int .i64 0,.slice none 0 0,.slice none 0 0,.string ⟨#[]⟩,.slice none 0 0,.string ⟨#[]⟩,.string ⟨#[]⟩,.string ⟨#[]⟩,.int .i64 0,.string ⟨#[]⟩] 72)).alloc (.cells #[.slice A' m.length c',.bool false] 127)).alloc (.cells #[.int .i64 (x.toNat : Nat),.slice none 0 0,.slice none 0 0,.string ⟨#[]⟩,.slice none 0 0,.string ⟨#[]⟩,.string ⟨#[]⟩,.string ⟨#[]⟩,.int .i64 0,.string ⟨#[]⟩] 72)) Rd.nil Rd.nil Rd.nil (Nat.zero_le _) (Nat.zero_le _) (Lib.hid (by simp)) HC
 obtain ⟨z0,z1,z2,z3,z4,z5,z6,z7,z8,z9⟩:=obj_cells hX3
 clear hcell h1 h2 h3 h4 k1 k2 k3 k4 jm jm' rm km km'
 have HN:=Lib.hid hn
 clear hn
 go_enter Tryz.func30,Tryz.ntmps30
 go_wp2_with fail
 refine hE.mono ?_
 rintro e w6 ⟨rfl,hb6⟩
 have hB7:=hB3.below hb6 hB3.lt
 have hR7:=hR2.below hb6 hR2.lt
 have hbe : Below w.heap.size w w6:=hb3.next hb6
 have e1 : w6.cell? ⟨w.heap.size + 1,1,none⟩ = some (.bool false):=by rw [hR7.cell]; rfl
 clear z0 z1 z2 z3 z4 z5 z6 z7 z8 z9 hE
 go_wp2_with ((refine wpList_store_blk (by rfl) _ (.tmp 2) (.tmp 141) rfl w.heap.size zcells rfl rfl 72 zcells hB7 (by kernel_rfl) rfl (by decide) ?_; intro w8 hB8 hg8))
 have hl:=Go.run_loadVar_row (P:=Tryz.prog) w8 w.heap.size 72 72 zcells.toArray (0,0) _ hB8 Tryz.underlying72 rfl (by kernel_rfl)
 refine bodyPost_ret (v:=.tuple #[.agg zcells.toArray,.int .i64 2]) ?_ rfl ⟨rfl,hbe.grown hg8 hbe.size (fun k hk => by cases hk; exact Nat.le_refl _)⟩
 simp [results,Tryz.results30,asAddr,hl]
theorem refDecode_calls (A : Option Addr) (b : List UInt8) (c : Nat) (w : World) (hr : Rd w w.heap.size 1 A b.length (bc b)) (hc : b.length ≤ c) (hcm : c ≤ maxLen) (hl : b.length ≤ 140737488351232) :
  Calls Tryz.prog 30 #[.slice A b.length c] w (RetDec w (decO geS b)):=by
 cases b with
 | nil => exact refDecode0_calls A c w
 | cons x l =>
  have hll : l.length ≤ 140737488351231:=by rw [List.length_cons] at hl; omega
  by_cases h1 : x = 1
  ·subst h1
   exact refDecode1_calls A l _ c w rfl hr hc hcm hll
  by_cases h2 : x = 2
  ·subst h2
   exact refDecode2_calls A l _ c w rfl hr hc hcm hll
  by_cases h3 : x = 3
  ·subst h3
   exact refDecode3_calls A l _ c w rfl hr hc hcm hll
  by_cases h4 : x = 4
  ·subst h4
   exact refDecode4_calls A l _ c w rfl hr hc hcm hll
  have hd : decO geS (x :: l) = none:=by
   have hp : parseO (x :: l) = none:=by
    show parseK x l = none
    unfold parseK
    rw [if_neg h1,if_neg h2,if_neg h3,if_neg h4]
   unfold decO
   rw [hp]
  rw [hd]
  exact refDecodeN_calls A x l _ c w rfl hr hc hcm h1 h2 h3 h4
end Go.Proofs.YtnaakfnbmeimaaaGreat
