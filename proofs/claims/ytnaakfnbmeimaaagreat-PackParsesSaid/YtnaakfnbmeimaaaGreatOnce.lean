/- sync.Once in one run: its lock taken and let go, its word set; the function that is handed to it called once. Conditions: the lock is free. -/
import Derived.Test.YtnaakfnbmeimaaaGreatWordsA
import Derived.Tactics
import Derived.Tactics2
import Derived.Defers
import Derived.Laws.Pointers
import Derived.Laws.LoneSync
import Derived.RegionTactic
import Derived.RegionCalls
import Derived.ChangeAlike
set_option maxRecDepth 100000
set_option maxHeartbeats 1600000
set_option linter.unusedVariables false
namespace Go.Proofs.YtnaakfnbmeimaaaGreat
open Go.RowKit Go.Dol
theorem oDisable (w : World) : (callFunc 155 #[]).run Tryz.prog w = .ok (.value (.tuple #[])) w:=run_call_mark0 Tryz.func155 (by kernel_rfl) (by kernel_rfl) (by kernel_rfl) .disable (by kernel_rfl) w
theorem oEnable (w : World) : (callFunc 157 #[]).run Tryz.prog w = .ok (.value (.tuple #[])) w:=run_call_mark0 Tryz.func157 (by kernel_rfl) (by kernel_rfl) (by kernel_rfl) .enable (by kernel_rfl) w
theorem oAcquire (a : Addr) (w : World) : (callFunc 158 #[.pointer (some a)]).run Tryz.prog w = .ok (.value (.tuple #[])) w:=run_call_marked Tryz.func158 (by kernel_rfl) (by kernel_rfl) (by kernel_rfl) .acquire (by kernel_rfl) a w
theorem oRelease (a : Addr) (w : World) : (callFunc 160 #[.pointer (some a)]).run Tryz.prog w = .ok (.value (.tuple #[])) w:=run_call_marked Tryz.func160 (by kernel_rfl) (by kernel_rfl) (by kernel_rfl) .releaseMerge (by kernel_rfl) a w
theorem store_deferred (a : Addr) (x : Value) (u : FrameMode) (w : World) (hc : w.cell? a = some x) (hz : w.frozen? a = false) :
  CallsD Tryz.prog 113 #[.pointer (some a),.bool true] u w fun e u' w' => u' = u ∧ (e = .returned (.tuple #[]) ∧ w' = w.drew.setCell a (.int .u32 1)):=by
 have hc' : w.drew.cell? a = some x:=by go_simp
 have hz' : w.drew.frozen? a = false:=by go_simp
 have hst:=run_call_store (P:=Tryz.prog) Tryz.func140 (by kernel_rfl) (by kernel_rfl) (by kernel_rfl) (by kernel_rfl) (k:=.u32) (y:=1) hc' hz'
 go_enter_d Tryz.func113,Tryz.ntmps113
 go_wp2
 go_region_calls
 all_goals (go_end0; exact ⟨rfl,rfl⟩)
theorem unlock_deferred (a : Addr) (u : FrameMode) (w : World) (hc : w.cell? a = some (.int .i32 1)) (hz : w.frozen? a = false) :
  CallsD Tryz.prog 112 #[.pointer (some a)] u w fun e u' w' => u' = u ∧ (e = .returned (.tuple #[]) ∧ w' = w.setCell a (.int .i32 0)):=by
 have hd:=oDisable
 have he:=oEnable
 have hr:=oRelease
 have hadd:=run_call_add (P:=Tryz.prog) Tryz.func161 (by kernel_rfl) (by kernel_rfl) (by kernel_rfl) .i32 (by kernel_rfl) (y:=-1) (s:=0) hc hz (by simp [go_sem]; rfl)
 have hcv:=run_convert_to_unsafe (P:=Tryz.prog) (src:=223) (dst:=227) Tryz.underlying223 Tryz.underlying227 (by kernel_rfl) hc
 go_enter_d Tryz.func112,Tryz.ntmps112
 go_wp2
 go_end0
 go_wp2
 go_end0
 exact ⟨rfl,rfl⟩
theorem lock_free (a : Addr) (w : World) (hc : w.cell? a = some (.int .i32 0)) (hz : w.frozen? a = false) :
  Calls Tryz.prog 111 #[.pointer (some a)] w fun e w' => e = .returned (.tuple #[]) ∧ w' = w.setCell a (.int .i32 1):=by
 have hd:=oDisable
 have he:=oEnable
 have ha:=oAcquire
 have hcas:=run_call_cas_hit (P:=Tryz.prog) Tryz.func156 (by kernel_rfl) (by kernel_rfl) (by kernel_rfl) .i32 (by kernel_rfl) (y:=1) hc hz
 have hc' : (w.setCell a (.int .i32 1)).cell? a = some (.int .i32 1):=World.cell?_setCell_same w a _ hc
 have hcv:=run_convert_to_unsafe (P:=Tryz.prog) (src:=223) (dst:=227) Tryz.underlying223 Tryz.underlying227 (by kernel_rfl) hc'
 go_enter Tryz.func111,Tryz.ntmps111
 go_wp2
 first | go_end0 | (simp only [Exit.inBlock,Exit.then]; refine bodyPost_ret (results_none rfl _ _ _) rfl ?_) | refine bodyPost_ret (results_none rfl _ _ _) rfl ?_
 go_wp2
 go_end0
 exact ⟨rfl,rfl⟩
theorem load_calls (a : Addr) (x : Int) (w : World) (hc : w.cell? a = some (.int .u32 x)) :
  Calls Tryz.prog 84 #[.pointer (some a)] w fun e w' => e = .returned (.bool (x != 0)) ∧ w' = w:=by
 have hl:=run_call_load (P:=Tryz.prog) Tryz.func110 (by kernel_rfl) (by kernel_rfl) (by kernel_rfl) .u32 (by kernel_rfl) hc
 go_enter Tryz.func84,Tryz.ntmps84
 go_wp2_with fail
 go_ret
 exact ⟨rfl,rfl⟩
def OnceRun (F : Nat) (pl : Addr) (b off : Nat) (T : TypeId) (cs : List Value) (R : List Value → World → World → Prop) (w : World) : Prop :=
 ∀ w1,Blk w1 b T (cs.set (off + 1) (.int .i32 1)) → w.grownBy w1 (some b) → w1.heap.size = w.heap.size → Calls Tryz.prog F #[.pointer (some pl)] w1 fun e w2 => e = .returned (.tuple #[]) ∧ ∃ cs',Blk w2 b T cs' ∧ cs'[off]? = some (.int .u32 0) ∧ cs'[off + 1]? = some (.int .i32 1) ∧ w1.grownBy w2 (some b) ∧ R cs' w1 w2
def OnceEnd (b off : Nat) (T : TypeId) (R : List Value → World → World → Prop) (w : World) (e : Ending) (w' : World) : Prop :=
 e = .returned (.tuple #[]) ∧ ∃ cs' w1 w2,R cs' w1 w2 ∧ w.grownBy w1 (some b) ∧ w1.grownBy w2 (some b) ∧ Blk w2 b T cs' ∧ w' = (w2.drew.setCell ⟨b,off,none⟩ (.int .u32 1)).setCell ⟨b,off + 1,none⟩ (.int .i32 0)
theorem slow_any (b off : Nat) (T : TypeId) (cs : List Value) (pl : Addr) (R : List Value → World → World → Prop) (w : World) (hb : Blk w b T cs)
  (h0 : cs[off]? = some (.int .u32 0)) (h1 : cs[off + 1]? = some (.int .i32 0)) (hf : OnceRun 50 pl b off T cs R w) :
  Calls Tryz.prog 85 #[.pointer (some ⟨b,off,none⟩),.func (.func 50) #[] #[.pointer (some pl)]] w (OnceEnd b off T R w):=by
 have k0 : w.cell? ⟨b,off,none⟩ = some (.int .u32 0):=by rw [hb.cell]; exact h0
 have k1 : w.cell? ⟨b,off + 1,none⟩ = some (.int .i32 0):=by rw [hb.cell]; exact h1
 have f1:=hb.free (off + 1)
 have hB1:=hb.set (off + 1) (.int .i32 1)
 have hg1 : w.grownBy (w.setCell ⟨b,off + 1,none⟩ (.int .i32 1)) (some b):=grown_setCell (World.grownBy.refl _ _) _ _
 have hl:=Lib.hid (load_calls ⟨b,off,none⟩ 0 (w.setCell ⟨b,off + 1,none⟩ (.int .i32 1)) ((World.cell?_setCell_other _ ⟨b,off + 1,none⟩ ⟨b,off,none⟩ _ (by simp)).trans k0))
 have hnot : ∀ (x : Bool) (w : World),(Op.unary .not (.bool x)).run Tryz.prog w = .ok (.bool (!x)) w:=fun _ _ => rfl
 have HF:=Lib.hid (hf _ hB1 hg1 (by simp [World.setCell]))
 clear hf h0 h1
 go_enter_defers Tryz.func85,Tryz.ntmps85
 go_wp2_with (first | (go_at_call 111; refine (lock_free ⟨b,off + 1,none⟩ _ (by go_simp) (by go_simp)).mono ?_; rintro e w' ⟨rfl,rfl⟩))
 refine hl.out.mono ?_
 rintro e w' ⟨rfl,rfl⟩
 go_wp2_with fail
 refine HF.out.mono ?_
 rintro e w2 ⟨rfl,cs',hB2,i0,i1,hg2,hR⟩
 have k0' : w2.cell? ⟨b,off,none⟩ = some (.int .u32 0):=by rw [hB2.cell]; exact i0
 have k1' : w2.cell? ⟨b,off + 1,none⟩ = some (.int .i32 1):=by rw [hB2.cell]; exact i1
 have z0:=hB2.free off
 have z1:=hB2.free (off + 1)
 go_wp2_with fail
 simp only [bodyPostD]
 refine leaves_cons (f:=113) (args:=#[.pointer (some ⟨b,off,none⟩),.bool true]) (by simp) (by simp [go_sem]) ?_
 refine (store_deferred ⟨b,off,none⟩ (.int .u32 0) .returning _ k0' z0).mono ?_
 rintro e u' w'' ⟨rfl,rfl,rfl⟩
 have hB3:=hB2.drew.set off (.int .u32 1)
 refine leaves_cons (f:=112) (args:=#[.pointer (some ⟨b,off + 1,none⟩)]) (by simp [settle]) (by simp [go_sem]) ?_
 refine (unlock_deferred ⟨b,off + 1,none⟩ _ (w2.drew.setCell ⟨b,off,none⟩ (.int .u32 1)) ((World.cell?_setCell_other w2.drew ⟨b,off,none⟩ ⟨b,off + 1,none⟩ _ (by simp)).trans (by rw [World.cell?_drew]; exact k1')) (hB3.free _)).mono ?_
 rintro e u' w'' ⟨rfl,rfl,rfl⟩
 simp only [Leaves,settle,results,Tryz.results85]
 exact ⟨.tuple #[],by simp,rfl,cs',_,w2,hR,hg1,hg2,hB2,rfl⟩
theorem do_first (b off : Nat) (T : TypeId) (cs : List Value) (pl : Addr) (R : List Value → World → World → Prop) (w : World) (hb : Blk w b T cs)
  (h0 : cs[off]? = some (.int .u32 0)) (h1 : cs[off + 1]? = some (.int .i32 0)) (hf : OnceRun 50 pl b off T cs R w) :
  Calls Tryz.prog 49 #[.pointer (some ⟨b,off,none⟩),.func (.func 50) #[] #[.pointer (some pl)]] w (OnceEnd b off T R w):=by
 have hl:=Lib.hid (load_calls ⟨b,off,none⟩ 0 w (by rw [hb.cell]; exact h0))
 have hnot : ∀ (x : Bool) (w : World),(Op.unary .not (.bool x)).run Tryz.prog w = .ok (.bool (!x)) w:=fun _ _ => rfl
 have HS:=Lib.hid (slow_any b off T cs pl R w hb h0 h1 hf)
 clear hf
 go_enter Tryz.func49,Tryz.ntmps49
 go_wp2_with fail
 refine hl.out.mono ?_
 rintro e w' ⟨rfl,rfl⟩
 go_wp2_with fail
 refine HS.out.mono ?_
 rintro e w2 hE
 have he:=hE.1
 subst he
 go_wp2_with fail
 go_end0
 exact hE
theorem do_done (a : Addr) (fv : Value) (w : World) (h0 : w.cell? a = some (.int .u32 1)) :
  Calls Tryz.prog 49 #[.pointer (some a),fv] w fun e w' => e = .returned (.tuple #[]) ∧ w' = w:=by
 have hl:=Lib.hid (load_calls a 1 w h0)
 have hnot : ∀ (x : Bool) (w : World),(Op.unary .not (.bool x)).run Tryz.prog w = .ok (.bool (!x)) w:=fun _ _ => rfl
 go_enter Tryz.func49,Tryz.ntmps49
 go_wp2_with fail
 refine hl.out.mono ?_
 rintro e w' ⟨rfl,rfl⟩
 go_wp2_with fail
 go_end0
 exact ⟨rfl,rfl⟩
end Go.Proofs.YtnaakfnbmeimaaaGreat
