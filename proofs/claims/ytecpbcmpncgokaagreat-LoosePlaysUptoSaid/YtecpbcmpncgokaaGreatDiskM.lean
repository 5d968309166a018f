/- The walks of the layer 'disk', its fourth part: a raw write is done, or there is no room, or the power goes. Conditions: the disk is in good order; names below 2^63. -/
import Derived.Test.YtecpbcmpncgokaaGreatDiskLaw
import Derived.Shelf.Abstract
import Derived.StillTailTactics
import Derived.Deep.RegionHeld3
import Derived.Deep.QuietTactic
import Derived.BigQuiet
import Derived.Test.YtecpbcmpncgokaaGreatShort
set_option maxRecDepth 100000
set_option maxHeartbeats 1600000
set_option linter.unusedVariables false
namespace Go.Dol
open Go.RowKit
theorem ZdC (n:Nat):IntKind.i64.wrap (IntKind.i64.wrap (n:Int)+1)=IntKind.i64.wrap ((n+1:Nat):Int):=by
 simp only [IntKind.wrap,IntKind.bits,IntKind.signed];simp;split<;>split<;>split<;>omega
end Go.Dol
namespace Go.Proofs.YtecpbcmpncgokaaGreat
open Go.RowKit Go.Dol
section
variable {w w':World} {g m:Nat} {D:Dk}
theorem ZbA (g i n:Nat) (w:World) (hc:w.cell? ⟨g,i,none⟩=some (.int .i64 (opsD n))) (hz:w.frozen? ⟨g,i,none⟩=false):
  Calls Tryz.prog 173 #[.pointer (some ⟨g,i,none⟩),.int .i64 1] w fun e w'=>e= .returned (.int .i64 (opsD (n+1)))∧w'=w.setCell ⟨g,i,none⟩ (.int .i64 (opsD (n+1))):=by
 have hl:=run_call_add (P:=Tryz.prog) Tryz.func244 (by kernel_rfl) (by kernel_rfl) (by kernel_rfl) .i64 (by kernel_rfl) (y:=1) (s:=opsD (n+1)) hc hz (by
  have:=ZdC n;unfold opsD;simp only [go_sem];rw [←this]
  simp [IntKind.wrap_i64])
 go_in;go_wp2_with fail;go_ret;exact ⟨rfl,rfl⟩
theorem Z76 (h:Dsk w g m D) (more:Int) (fv:Value) (h1:0<more) (h2:frD D<more):
  Calls Tryz.prog 104 #[.pointer (some ⟨g,0,none⟩),.int .i64 more,fv] w fun e w'=>e= .returned (.int .i64 4)∧w'=w:=by
 obtain ⟨k0,k1,k2,k3,k4,k5⟩:=h.cells;have d1:decide (more>0)=true:=dT h1;have d1':decide (0<more)=true:=dT h1;have d2:decide (more>frD D)=true:=dT h2;have d2':decide (frD D<more)=true:=dT h2;clear h1 h2;go_in;go_wp2_with fail;go_ret;exact ⟨rfl,rfl⟩
theorem Z4h (h:Dsk w g m D) (more:Int) (fv:Value) (h1: ¬(0<more∧frD D<more)) (h2:D.left=0):
  Calls Tryz.prog 104 #[.pointer (some ⟨g,0,none⟩),.int .i64 more,fv] w (Z0C w g m (5,{ D with dark:=true,left:=-1 })):=by
 obtain ⟨k0,k1,k2,k3,k4,k5⟩:=h.cells;have z4:=h.free 4;have z5:=h.free 5;rw [h2] at k4;have hg:w.grownBy ((w.setCell ⟨g,5,none⟩ (.bool true)).setCell ⟨g,4,none⟩ (.int .i64 (-1))) (some g):=Z0 (Z0 (gR w _) 5 _) 4 _;have hE:Dsk ((w.setCell ⟨g,5,none⟩ (.bool true)).setCell ⟨g,4,none⟩ (.int .i64 (-1))) g m { D with dark:=true,left:=-1 }:=by
  obtain ⟨al,hB,_⟩:=id h;rw [h2] at hB;exact h.turn (D':={ D with dark:=true,left:=-1 }) rfl ((hB.set 5 _).set 4 _) hg
 clear h2
 by_cases hm:0<more
 ·have d1:decide (more>0)=true:=dT hm
  have d1':decide (0<more)=true:=dT hm;have d2:decide (more>frD D)=false:=qF (by omega);have d2':decide (frD D<more)=false:=qF (by omega);clear h1 hm;go_in;go_wp2_with fail;go_ret;exact ⟨rfl,hE,Tw.grown hg⟩
 ·have d1:decide (more>0)=false:=qF (by omega)
  have d1':decide (0<more)=false:=qF (by omega);clear h1 hm;go_in;go_wp2_with fail;go_ret;exact ⟨rfl,hE,Tw.grown hg⟩
def Z1u (k:Int):Int:=if 0<k then k-1 else k
theorem Z37 (h:Dsk w g m D) (more:Int) (k:Nat) (caps:Array Value) (hent: ∀W,(callFunc k caps).run Tryz.prog W= .ok (.enter k caps) W) (h1: ¬(0<more∧frD D<more)) (h2:D.left≠0) (h3: -1≤D.left) (h4:D.left≤9223372036854775807) (R:World→Prop)
  (hdo: ∀w1,Blk w1 g 145 (Z5K D.cap m (IntKind.i64.wrap (frD D-more)) (D.done+1) (Z1u D.left) D.dark)→w.grownBy w1 (some g)→Calls Tryz.prog k caps w1 (fun e w'=>e= .returned (.tuple #[])∧R w')):
  Calls Tryz.prog 104 #[.pointer (some ⟨g,0,none⟩),.int .i64 more,.func (.func k) #[] caps] w fun e w'=>e= .returned (.int .i64 0)∧R w':=by
 obtain ⟨k0,k1,k2,k3,k4,k5⟩:=h.cells;obtain ⟨al,hB,_⟩:=id h;have z2:=h.free 2;have z3:=h.free 3;have z4:=h.free 4;have e4:(D.left==0)=false:=beq_eq_false_iff_ne.2 h2;obtain ⟨fr,hfr⟩: ∃fr,IntKind.i64.wrap (frD D-more)=fr:=⟨_,rfl⟩;rw [hfr] at hdo;have hC: ∀W:World,W.cell? ⟨g,3,none⟩=some (.int .i64 (opsD D.done))→W.frozen? ⟨g,3,none⟩=false→Calls Tryz.prog 173 #[.pointer (some ⟨g,3,none⟩),.int .i64 1] W fun e w'=>e= .returned (.int .i64 (opsD (D.done+1)))∧w'=W.setCell ⟨g,3,none⟩ (.int .i64 (opsD (D.done+1))):=fun W=>ZbA g 3 D.done W;have HD:=qI hdo;clear hdo
 by_cases hm:0<more
 ·have d1:decide (more>0)=true:=dT hm
  have d1':decide (0<more)=true:=dT hm;have d2:decide (more>frD D)=false:=qF (by omega);have d2':decide (frD D<more)=false:=qF (by omega);clear h1 hm
  by_cases hl:0<D.left
  ·have d3:decide (D.left>0)=true:=dT hl
   have d3':decide (0<D.left)=true:=dT hl;have f1:IntKind.i64.wrap (D.left-1)=D.left-1:=qJ _ (by omega);have hL:Hid (Z1u D.left=D.left-1):=if_pos hl;clear hl h2 h3 h4;go_in;go_wp2_with fail;have hB1:Blk ((w.setCell ⟨g,4,none⟩ (.int .i64 (D.left-1))).setCell ⟨g,2,none⟩ (.int .i64 fr)) g 145 [.int .i64 D.cap,.map (some m),.int .i64 fr,.int .i64 (opsD D.done),.int .i64 (D.left-1),.bool D.dark]:=(hB.set 4 _).set 2 _;have hg1:w.grownBy ((w.setCell ⟨g,4,none⟩ (.int .i64 (D.left-1))).setCell ⟨g,2,none⟩ (.int .i64 fr)) (some g):=Z0 (Z0 (gR w _) 4 _) 2 _;refine (hC _ (by rw [hB1.cell];rfl) (hB1.free 3)).mono ?_;rintro e w2 ⟨rfl,rfl⟩;have hB2:=hB1.set 3 (.int .i64 (opsD (D.done+1)));have hg2:=Z0 hg1 3 (.int .i64 (opsD (D.done+1)));go_wp2_with fail;refine (HD.out _ (by rw [hL.out];exact hB2) hg2).mono ?_;rintro e w3 ⟨rfl,hR⟩;go_wp2_with fail;go_ret;exact ⟨rfl,hR⟩
  ·have d3:decide (D.left>0)=false:=qF hl
   have d3':decide (0<D.left)=false:=qF hl;have hL:Hid (Z1u D.left=D.left):=if_neg hl;clear hl h2 h3 h4;go_in;go_wp2_with fail;have hB1:Blk (w.setCell ⟨g,2,none⟩ (.int .i64 fr)) g 145 [.int .i64 D.cap,.map (some m),.int .i64 fr,.int .i64 (opsD D.done),.int .i64 D.left,.bool D.dark]:=hB.set 2 _;have hg1:w.grownBy (w.setCell ⟨g,2,none⟩ (.int .i64 fr)) (some g):=Z0 (gR w _) 2 _;refine (hC _ (by rw [hB1.cell];rfl) (hB1.free 3)).mono ?_;rintro e w2 ⟨rfl,rfl⟩;have hB2:=hB1.set 3 (.int .i64 (opsD (D.done+1)));have hg2:=Z0 hg1 3 (.int .i64 (opsD (D.done+1)));go_wp2_with fail;refine (HD.out _ (by rw [hL.out];exact hB2) hg2).mono ?_;rintro e w3 ⟨rfl,hR⟩;go_wp2_with fail;go_ret;exact ⟨rfl,hR⟩
 ·have d1:decide (more>0)=false:=qF hm
  have d1':decide (0<more)=false:=qF hm;clear h1 hm
  by_cases hl:0<D.left
  ·have d3:decide (D.left>0)=true:=dT hl
   have d3':decide (0<D.left)=true:=dT hl;have f1:IntKind.i64.wrap (D.left-1)=D.left-1:=qJ _ (by omega);have hL:Hid (Z1u D.left=D.left-1):=if_pos hl;clear hl h2 h3 h4;go_in;go_wp2_with fail;have hB1:Blk ((w.setCell ⟨g,4,none⟩ (.int .i64 (D.left-1))).setCell ⟨g,2,none⟩ (.int .i64 fr)) g 145 [.int .i64 D.cap,.map (some m),.int .i64 fr,.int .i64 (opsD D.done),.int .i64 (D.left-1),.bool D.dark]:=(hB.set 4 _).set 2 _;have hg1:w.grownBy ((w.setCell ⟨g,4,none⟩ (.int .i64 (D.left-1))).setCell ⟨g,2,none⟩ (.int .i64 fr)) (some g):=Z0 (Z0 (gR w _) 4 _) 2 _;refine (hC _ (by rw [hB1.cell];rfl) (hB1.free 3)).mono ?_;rintro e w2 ⟨rfl,rfl⟩;have hB2:=hB1.set 3 (.int .i64 (opsD (D.done+1)));have hg2:=Z0 hg1 3 (.int .i64 (opsD (D.done+1)));go_wp2_with fail;refine (HD.out _ (by rw [hL.out];exact hB2) hg2).mono ?_;rintro e w3 ⟨rfl,hR⟩;go_wp2_with fail;go_ret;exact ⟨rfl,hR⟩
  ·have d3:decide (D.left>0)=false:=qF hl
   have d3':decide (0<D.left)=false:=qF hl;have hL:Hid (Z1u D.left=D.left):=if_neg hl;clear hl h2 h3 h4;go_in;go_wp2_with fail;have hB1:Blk (w.setCell ⟨g,2,none⟩ (.int .i64 fr)) g 145 [.int .i64 D.cap,.map (some m),.int .i64 fr,.int .i64 (opsD D.done),.int .i64 D.left,.bool D.dark]:=hB.set 2 _;have hg1:w.grownBy (w.setCell ⟨g,2,none⟩ (.int .i64 fr)) (some g):=Z0 (gR w _) 2 _;refine (hC _ (by rw [hB1.cell];rfl) (hB1.free 3)).mono ?_;rintro e w2 ⟨rfl,rfl⟩;have hB2:=hB1.set 3 (.int .i64 (opsD (D.done+1)));have hg2:=Z0 hg1 3 (.int .i64 (opsD (D.done+1)));go_wp2_with fail;refine (HD.out _ (by rw [hL.out];exact hB2) hg2).mono ?_;rintro e w3 ⟨rfl,hR⟩;go_wp2_with fail;go_ret;exact ⟨rfl,hR⟩
end
end Go.Proofs.YtecpbcmpncgokaaGreat
namespace Go.Dol
open Go.RowKit
theorem Zaa (D:Dk) (n:BA):thD D [] n=ZZ D n:=by
 unfold thD ZZ rdD;cases hB:Z8 n<;>cases hd:D.dark<;>simp [hB]
end Go.Dol
namespace Go.Proofs.YtecpbcmpncgokaaGreat
open Go.RowKit Go.Dol
section
variable {w w':World} {g m:Nat} {D:Dk}
theorem Tw.toOp {w0 w1:World} (h0:Below w0.heap.size w0 w1) {r:Int×Dk} {e:Ending} (h:Z0C w1 g m r e w'):Z0C w0 g m r e w':=⟨h.1,h.2.1,(Tw.below h0).step h.2.2⟩
theorem Zab (w:World):Calls Tryz.prog 236 #[] w fun e w'=>e= .returned (.tuple #[])∧w'=w:=by
 go_in;go_wp2_with fail;go_end0;exact ⟨rfl,rfl⟩
theorem Z6B (h:Dsk w g m D) (hK:OkW D):Calls Tryz.prog 104 #[.pointer (some ⟨g,0,none⟩),.int .i64 0,.func (.func 236) #[] #[]] w (Z0C w g m (Zw D D.l)):=by
 by_cases hl:D.left=0
 ·have HF:Zw D D.l=(5,{ D with dark:=true,left:=-1 }):=if_pos hl
  rw [HF];exact Z4h h 0 _ (by omega) hl
 ·have HF:Zw D D.l=(0,{ D with left:=Z1u D.left,done:=D.done+1,l:=D.l }):=if_neg hl
  rw [HF];refine (Z37 h 0 _ #[] (enters_of Tryz.func236 (by kernel_rfl) rfl _) (by omega) hl hK.left0 hK.left1 (fun w1=>Dsk w1 g m { D with left:=Z1u D.left,done:=D.done+1,l:=D.l }∧Tw w w1 g m) (fun w1 hB hg=> ?_)).mono ?_
  ·refine (Zab w1).mono ?_
   rintro e w2 ⟨rfl,rfl⟩;refine ⟨rfl,h.turn (D':={ D with left:=Z1u D.left,done:=D.done+1,l:=D.l }) rfl ?_ hg,Tw.grown hg⟩;have e1:frD { D with left:=Z1u D.left,done:=D.done+1,l:=D.l }=IntKind.i64.wrap (frD D-0):=Z2O rfl (by simp);rw [e1];exact hB
  ·rintro e w1 ⟨rfl,h1,h2⟩
   exact ⟨rfl,h1,h2⟩
theorem Z77 (h:Dsk w g m D) (hK:OkW D) (n:BA) (hn:n.size≤maxLen):Calls Tryz.prog 165 #[.pointer (some ⟨g,0,none⟩),.string n] w (Z0C w g m (ZM D n)):=by
 obtain ⟨t,ht⟩: ∃t,t=ZZ D n:=⟨_,rfl⟩;have hT:=Z3I h hK.ord w.heap.size none [] 0 0 rfl (by simp) n (World.ownsRow_nil _ _ _ _) (lR _) hn;rw [Zaa,←ht] at hT
 by_cases h0:t=0
 ·have HF:Hid (ZM D n=Zw D D.l):=by unfold Hid ZM;rw [if_neg (by rw [←ht,h0];simp)]
  rw [h0] at hT;clear ht h0;have HT:=qI hT;clear hT;go_in;go_wp2_with ((go_at_call 103;refine HT.out.mono ?_;rintro e w1 ⟨rfl,hb1,hD1⟩));refine (Z6B hD1 hK).mono ?_;intro e w2 h2;have h3:=Tw.toOp hb1 h2;obtain ⟨rfl,_,_⟩:=id h2;go_wp2_with fail;go_ret;rw [HF.out];exact h3
 ·have HF:Hid (ZM D n=(t,D)):=by unfold Hid ZM;rw [if_pos (by rw [←ht];exact h0),←ht]
  have hq:(t==0)=false:=beq_eq_false_iff_ne.2 h0;clear ht h0;go_in;go_wp2_with ((go_at_call 103;refine hT.mono ?_;rintro e w1 ⟨rfl,hb1,hD1⟩));go_ret;rw [HF.out];exact ⟨rfl,hD1,Tw.below hb1⟩
end
section
variable {w w':World} {g m:Nat} {D:Dk}
theorem ZbB (x y:Nat) (n:BA) (hn:n.size≤maxLen) (al:List (Value×Value)) (w:World) (hM:MapL Tryz.prog 9 w m al) (h1:w.cell? ⟨g,1,none⟩=some (.map (some m)))
  (hx:w.cell? ⟨x,0,none⟩=some (.pointer (some ⟨g,0,none⟩))) (hy:w.cell? ⟨y,0,none⟩=some (.string n)):
  Calls Tryz.prog 106 #[.pointer (some ⟨x,0,none⟩),.pointer (some ⟨y,0,none⟩)] w fun e w'=>e= .returned (.tuple #[])∧ ∃al',MapL Tryz.prog 9 w' m al'∧MDel al (.string n) al'∧w.grownBy w' (some m):=by
 obtain ⟨kl,hkl⟩:=Z4f n hn;obtain ⟨al',w2,hrun,hM2,hd2,hg2⟩:=(hM.drewN 1).drop Z4e Tryz.underlying140 hkl 0;change (Builtin.delete_ #[140,9] 0 #[.map (some m),.string n]).run Tryz.prog w.drew= .ok (.tuple #[]) w2 at hrun;go_in;go_wp2_with fail;go_still_tail 5,(by kernel_rfl);change wpList _ _ _ _ _ w.drew;generalize hW:w.drew=W at hrun;go_wp2_with fail;go_end0;refine ⟨rfl,al',hM2,hd2,?_⟩;subst hW;exact ⟨hg2.os,hg2.tape,hg2.output,hg2.size,hg2.block⟩
theorem Z78 (h:Dsk w g m D) (hK:OkW D) (n:BA) (b:LU) (hb:Z4 D.l n=some b) (more:Int) (hmore:more= -Z2m D n) (x y:Nat) (hxg:x≠g) (hyg:y≠g) (hxl:x<w.heap.size) (hyl:y<w.heap.size)
  (hx:w.cell? ⟨x,0,none⟩=some (.pointer (some ⟨g,0,none⟩))) (hy:w.cell? ⟨y,0,none⟩=some (.string n)):
  Calls Tryz.prog 104 #[.pointer (some ⟨g,0,none⟩),.int .i64 more,.func (.func 106) #[] #[.pointer (some ⟨x,0,none⟩),.pointer (some ⟨y,0,none⟩)]] w (Z0C w g m (Zw D (Zi D.l n))):=by
 have hc:Z2m D n=16+n.size+b.length:=by unfold Z2m;rw [hb]
 have hn:=Z05 (hK.named hb);have hneg: ¬(0<more∧frD D<more):=by omega
 by_cases hl:D.left=0
 ·have HF:Zw D (Zi D.l n)=(5,{ D with dark:=true,left:=-1 }):=if_pos hl
  rw [HF];exact Z4h h more _ hneg hl
 ·have HF:Zw D (Zi D.l n)=(0,{ D with left:=Z1u D.left,done:=D.done+1,l:=Zi D.l n }):=if_neg hl
  rw [HF];refine (Z37 h more _ #[.pointer (some ⟨x,0,none⟩),.pointer (some ⟨y,0,none⟩)] (enters_of Tryz.func106 (by kernel_rfl) rfl _) hneg hl hK.left0 hK.left1 (fun w1=>Dsk w1 g m { D with left:=Z1u D.left,done:=D.done+1,l:=Zi D.l n }∧Tw w w1 g m) (fun w1 hB hg=> ?_)).mono ?_
  ·obtain ⟨al,hB0,hM,hF⟩:=id h
   have hgm:=hM.blk_ne hB0;have hM1:=hM.grown hg (fun e=>by injection e with e;exact hgm e.symm);have hF1:=hF.keep hg (Other.blk hB0 (by decide) (zL _));have k1:w1.cell? ⟨g,1,none⟩=some (.map (some m)):=by rw [hB.cell];rfl
   have hx1:=(World.cell?_of_block (hg.block x hxl (fun e=>by injection e with e;exact hxg e))).trans hx;have hy1:=(World.cell?_of_block (hg.block y hyl (fun e=>by injection e with e;exact hyg e))).trans hy;refine (ZbB x y n (by unfold maxLen;omega) al w1 hM1 k1 hx1 hy1).mono ?_;rintro e w2 ⟨rfl,al',hM2,hd2,hg2⟩;refine ⟨rfl,⟨al',?_,hM2,?_⟩,(Tw.grown hg).step (Tw.grownM hg2)⟩
   ·have e1:frD { D with left:=Z1u D.left,done:=D.done+1,l:=Zi D.l n }=IntKind.i64.wrap (frD D-more):=Z2O rfl (by
     have:=Z3K hb;simp only
     omega)
    rw [e1];exact hB.grown hg2 (fun e=>by injection e with e;exact hgm e)
   ·exact (hF1.drop hK.ord hd2).keep hg2 (Other.map hM1)
  ·rintro e w1 ⟨rfl,h1,h2⟩
   exact ⟨rfl,h1,h2⟩
theorem Z22 (h:Dsk w g m D) (hK:OkW D) (n:BA) (hn:n.size≤maxLen):Calls Tryz.prog 42 #[.pointer (some ⟨g,0,none⟩),.string n] w (Z0C w g m (remD D n)):=by
 obtain ⟨t,ht⟩: ∃t,t=ZZ D n:=⟨_,rfl⟩;have ha:=(bR w.heap.size w).alloc (lR _) (.cells #[.pointer (some ⟨g,0,none⟩)] 25);have hX:=Blk.new w 25 [.pointer (some ⟨g,0,none⟩)];have hb0:=ha.alloc ha.size (.cells #[.string n] 9);have hY:=Blk.new (w.alloc (.cells #[.pointer (some ⟨g,0,none⟩)] 25)) 9 [.string n];have hX2:=hX.alloc (.cells #[.string n] 9);rw [World.size_alloc] at hY;obtain ⟨W,hW⟩: ∃W,W=(w.alloc (.cells #[.pointer (some ⟨g,0,none⟩)] 25)).alloc (.cells #[.string n] 9):=⟨_,rfl⟩;change Blk _ _ _ _ at hX2;have hX3:Blk W w.heap.size 25 [.pointer (some ⟨g,0,none⟩)]:=by rw [hW];exact hX2
 have hY3:Blk W (w.heap.size+1) 9 [.string n]:=by rw [hW];exact hY
 have hb1:Below w.heap.size w W:=by rw [hW];exact hb0
 have hD:=h.below hb1;have hT:=Z3I hD hK.ord W.heap.size none [] 0 0 rfl (by simp) n (World.ownsRow_nil _ _ _ _) (lR _) hn;obtain ⟨hgl,hml⟩:=h.lt;rw [Zaa,←ht] at hT;clear hX hX2 hY hb0 ha
 by_cases h0:t=0
 ·obtain ⟨hnb,_,b,hb⟩:=Z1A (ht.symm.trans h0)
  have HF:Hid (remD D n=Zw D (Zi D.l n)):=by unfold Hid remD;rw [if_neg (by rw [←ht,h0];simp)]
  rw [h0] at hT;clear ht h0;have HT:=qI hT;clear hT;have hlook:=hK.small hb;have hnl:=Z05 hnb;obtain ⟨c,hc⟩: ∃c,c=Z2m D n:=⟨_,rfl⟩;have hcb:c=16+n.size+b.length:=by rw [hc];unfold Z2m;rw [hb]
  have f1:IntKind.i64.wrap (-c)= -c:=qJ _ (by omega);have HC:=qI hc;have hcN:0≤c∧c≤140737488355500:=by omega
  clear hcb hc;go_in;go_wp2_with fail;rw [←hW];refine HT.out.mono ?_;rintro e w1 ⟨rfl,hb2,hD1⟩;have hX1:=hX3.below hb2 hX3.lt;have hY1:=hY3.below hb2 hY3.lt;have y1:w1.cell? ⟨w.heap.size,0,none⟩=some (.pointer (some ⟨g,0,none⟩)):=by rw [hX1.cell];rfl
  have y2:w1.cell? ⟨w.heap.size+1,0,none⟩=some (.string n):=by rw [hY1.cell];rfl
  have hcost:=Z74 hD1.drew hK.ord n (by omega) (fun b hb=>hK.small' hb);rw [←HC.out] at hcost;have hspend:=Z78 hD1.drew hK n b hb (-c) (by rw [HC.out]) w.heap.size (w.heap.size+1) (by omega) (by omega) hX1.lt hY1.lt y1 y2;have hb3:=hb1.trans (hb2.mono hb1.size);have hxl:=hX1.lt;have hyl:=hY1.lt;clear hX1 hY1 hX3 hY3 HT;go_wp2_with fail
  go_region_held3 (fun w'=>w'.cell? ⟨w.heap.size,0,none⟩=some (.pointer (some ⟨g,0,none⟩))∧w'.cell? ⟨w.heap.size+1,0,none⟩=some (.string n)) (first | exact ⟨q1,q2⟩ | go_keep) ((first
   | (go_at_call 105;(with_reducible refine hcost.mono ?_);rintro e w3 ⟨rfl,hw3⟩;obtain rfl:=hw3.symm)
   | (go_at_call 104;(with_reducible refine hspend.mono ?_);rintro e w3 ⟨rfl,h4,h5⟩;
          have q1:w3.cell? ⟨w.heap.size,0,none⟩=some (.pointer (some ⟨g,0,none⟩)):=(World.cell?_of_block (h5.block w.heap.size hxl (by omega) (by omega))).trans y1;
          have q2:w3.cell? ⟨w.heap.size+1,0,none⟩=some (.string n):=(World.cell?_of_block (h5.block (w.heap.size+1) hyl (by omega) (by omega))).trans y2)))
  all_goals go_wp2_with fail
  all_goals go_ret
  all_goals rw [HF.out]
  all_goals exact ⟨rfl,h4,((Tw.below hb3).drew).step h5⟩
 ·have HF:Hid (remD D n=(t,D)):=by unfold Hid remD;rw [if_pos (by rw [←ht];exact h0),←ht]
  have hq:(t==0)=false:=beq_eq_false_iff_ne.2 h0;clear ht h0;have y1:W.cell? ⟨w.heap.size,0,none⟩=some (.pointer (some ⟨g,0,none⟩)):=by rw [hX3.cell];rfl
  have y2:W.cell? ⟨w.heap.size+1,0,none⟩=some (.string n):=by rw [hY3.cell];rfl
  go_in;go_wp2_with fail;rw [←hW];refine hT.mono ?_;rintro e w1 ⟨rfl,hb2,hD1⟩;go_wp2_with fail;go_ret;rw [HF.out];exact ⟨rfl,hD1,Tw.below (hb1.trans (hb2.mono hb1.size))⟩
end
theorem Rd.new2v (w:World) (T:TypeId) (u v:Value):Rd (w.alloc (.cells #[u,v] T)) (w.heap.size+1) 1 (some ⟨w.heap.size,0,none⟩) 2 [u,v]:=by
 have hB:=Blk.new w T [u,v];refine ⟨rfl,fun _=>⟨w.heap.size,0,rfl,by omega,fun j x hx=> ?_⟩⟩;rw [Nat.zero_add];rw [show ([u,v]:List Value).toArray= #[u,v] from rfl] at hB;rw [hB.cell];exact hx
section
variable {w w':World} {g m:Nat} {D:Dk}
theorem ZbC (xo xb xd xn:Nat) (n:BA) (hn:n.size≤maxLen) (al:List (Value×Value)) (o b:LU) (Ao Ab:OA) (co cb:Nat) (w:World) (hM:MapL Tryz.prog 9 w m al) (h1:w.cell? ⟨g,1,none⟩=some (.map (some m)))
  (ho:w.cell? ⟨xo,0,none⟩=some (.slice Ao o.length co)) (hb:w.cell? ⟨xb,0,none⟩=some (.slice Ab b.length cb)) (hd:w.cell? ⟨xd,0,none⟩=some (.pointer (some ⟨g,0,none⟩))) (hN:w.cell? ⟨xn,0,none⟩=some (.string n))
  (hro:Rd w w.heap.size 1 Ao o.length (bc o)) (hrb:Rd w w.heap.size 1 Ab b.length (bc b)) (hl:o.length+b.length≤140737488355328) (ne:xo≠m∧xb≠m∧xd≠m∧xn≠m∧g≠m):
  Calls Tryz.prog 108 #[.pointer (some ⟨xo,0,none⟩),.pointer (some ⟨xb,0,none⟩),.pointer (some ⟨xd,0,none⟩),.pointer (some ⟨xn,0,none⟩)] w fun e w'=>
   e= .returned (.tuple #[])∧ ∃al' v,MapL Tryz.prog 9 w' m al'∧MPut al (.string n) v al'∧Byt w' v (o++b)∧w.grownBy w' (some m):=by
 obtain ⟨kl,hkl⟩:=Z4f n hn;have l1:=World.block_lt_of_cell? w _ h1;have l2:=World.block_lt_of_cell? w _ ho;have l3:=World.block_lt_of_cell? w _ hb;have l4:=World.block_lt_of_cell? w _ hd;have l5:=World.block_lt_of_cell? w _ hN;have hba:Below w.heap.size w (World.drew (w.alloc (.cells #[.slice Ao o.length co,.slice Ab b.length cb] 36))):=((bR w.heap.size w).alloc (lR _) _).drew;have hro1:=hro.belowW hba (lR _);have hrb1:=hrb.belowW hba (lR _);have hsz:(World.drew (w.alloc (.cells #[.slice Ao o.length co,.slice Ab b.length cb] 36))).heap.size=w.heap.size+1:=World.size_alloc ..;have hrA:=(Rd.new2v w 36 (.slice Ao o.length co) (.slice Ab b.length cb)).drew;have hcl:catL [(o,Ao,co),(b,Ab,cb)]=o++b:=by simp [catL]
 have hC:=Z9c (some ⟨w.heap.size,0,none⟩) [(o,Ao,co),(b,Ab,cb)] 2 2 rfl (World.drew (w.alloc (.cells #[.slice Ao o.length co,.slice Ab b.length cb] 36))) (by rw [hsz];exact hrA) (by rw [hcl,List.length_append];exact hl) (by omega)
  (qI (by
   intro x hx;rw [hsz];rcases List.mem_cons.1 hx with rfl | hx
   ·exact hro1.more (by omega)
   ·obtain rfl:=List.mem_singleton.1 hx
    exact hrb1.more (by omega)))
 rw [hcl] at hC;have HC:=qI hC;clear hC hcl hrA hro1 hrb1 hro hrb;obtain ⟨n1,n2,n3,n4,n5⟩:=ne;go_in;go_wp2_with fail
 go_region_held3 (fun w'=>w'.cell? ⟨g,1,none⟩=some (.map (some m))∧w'.cell? ⟨xo,0,none⟩=some (.slice Ao o.length co)∧w'.cell? ⟨xb,0,none⟩=some (.slice Ab b.length cb)∧w'.cell? ⟨xd,0,none⟩=some (.pointer (some ⟨g,0,none⟩))∧w'.cell? ⟨xn,0,none⟩=some (.string n))
  (first | exact ⟨q1,q2,q3,q4,q5⟩ | exact ⟨p1,p2,p3,p4,p5⟩ | go_keep) ((first
   | (go_at_call 109;(with_reducible refine HC.out.mono ?_);rintro e w3 ⟨l',A',c',he,rfl,ho3,hb3,_,_⟩;
          have hb4:=hba.trans (hb3.mono (by simp));have p1:w3.cell? ⟨g,1,none⟩=some (.map (some m)):=(hb4.cell (p:=⟨g,1,none⟩) l1).trans h1;have p2:w3.cell? ⟨xo,0,none⟩=some (.slice Ao o.length co):=(hb4.cell (p:=⟨xo,0,none⟩) l2).trans ho;have p3:w3.cell? ⟨xb,0,none⟩=some (.slice Ab b.length cb):=(hb4.cell (p:=⟨xb,0,none⟩) l3).trans hb;have p4:w3.cell? ⟨xd,0,none⟩=some (.pointer (some ⟨g,0,none⟩)):=(hb4.cell (p:=⟨xd,0,none⟩) l4).trans hd;have p5:w3.cell? ⟨xn,0,none⟩=some (.string n):=(hb4.cell (p:=⟨xn,0,none⟩) l5).trans hN;have hM3:=hM.belowW hb4;obtain ⟨al',w4,hrun,hM4,hp4,hg4⟩:=hM3.update Z4e Tryz.underlying140 hkl (.slice A' l'.length c');have q1:w4.cell? ⟨g,1,none⟩=some (.map (some m)):=(World.cell?_of_block (hg4.block g (World.block_lt_of_cell? w3 _ p1) (fun e=>by injection e with e;exact n5 e))).trans p1;have q2:w4.cell? ⟨xo,0,none⟩=some (.slice Ao o.length co):=(World.cell?_of_block (hg4.block xo (World.block_lt_of_cell? w3 _ p2) (fun e=>by injection e with e;exact n1 e))).trans p2;have q3:w4.cell? ⟨xb,0,none⟩=some (.slice Ab b.length cb):=(World.cell?_of_block (hg4.block xb (World.block_lt_of_cell? w3 _ p3) (fun e=>by injection e with e;exact n2 e))).trans p3;have q4:w4.cell? ⟨xd,0,none⟩=some (.pointer (some ⟨g,0,none⟩)):=(World.cell?_of_block (hg4.block xd (World.block_lt_of_cell? w3 _ p4) (fun e=>by injection e with e;exact n3 e))).trans p4;
          have q5:w4.cell? ⟨xn,0,none⟩=some (.string n):=(World.cell?_of_block (hg4.block xn (World.block_lt_of_cell? w3 _ p5) (fun e=>by injection e with e;exact n4 e))).trans p5)))
 all_goals go_wp2_with fail
 all_goals go_end0
 refine ⟨rfl,al',_,hM4,hp4,?_,?_⟩
 ·have h5:=Byt.own ho3
  rw [he.out] at h5;rw [he.out];exact h5.keep hg4 (Other.map hM3)
 ·exact Z6 (Z5 hb4 _) hg4
theorem Z79 (h:Dsk w g m D) (hK:OkW D) (n:BA) (hnb:Z8 n=true) (B:Nat) (o b:LU) (Ao Ab:OA) (co cb:Nat) (ho:(Z4 D.l n).getD []=o) (hbl:b.length≤64) (more:Int) (hmore:more=ZX D n b) (hroom: ¬(0<more∧frD D<more)) (xo xb xd xn:Nat)
  (ne:xo≠m∧xb≠m∧xd≠m∧xn≠m) (ng:xo≠g∧xb≠g∧xd≠g∧xn≠g) (hfo:Far w 0 Ao o) (hfb:Far w B Ab b) (hBg:B≤g)
  (h2:w.cell? ⟨xo,0,none⟩=some (.slice Ao o.length co)) (h3:w.cell? ⟨xb,0,none⟩=some (.slice Ab b.length cb)) (h4:w.cell? ⟨xd,0,none⟩=some (.pointer (some ⟨g,0,none⟩))) (h5:w.cell? ⟨xn,0,none⟩=some (.string n)):
  Calls Tryz.prog 104 #[.pointer (some ⟨g,0,none⟩),.int .i64 more,.func (.func 108) #[] #[.pointer (some ⟨xo,0,none⟩),.pointer (some ⟨xb,0,none⟩),.pointer (some ⟨xd,0,none⟩),.pointer (some ⟨xn,0,none⟩)]] w (Z0C w g m (Zw D (putF D.l n (o++b)))):=by
 have hn:=Z05 hnb;have hol:o.length≤140737488355264:=by
  rw [←ho]
  cases hl:Z4 D.l n with
  | none=>simp
  | some c=>
   exact hK.small hl
 have l2:=World.block_lt_of_cell? w _ h2;have l3:=World.block_lt_of_cell? w _ h3;have l4:=World.block_lt_of_cell? w _ h4;have l5:=World.block_lt_of_cell? w _ h5;have hcost:Zo (putF D.l n (o++b))=Zo D.l+more:=by
  rw [Z1z hK.ord,hmore,←ho];unfold ZX
  cases Z4 D.l n with
  | none=>simp;omega
  | some c=>simp;omega
 by_cases hl:D.left=0
 ·have HF:Zw D (putF D.l n (o++b))=(5,{ D with dark:=true,left:=-1 }):=if_pos hl
  rw [HF];exact Z4h h more _ hroom hl
 ·have HF:Zw D (putF D.l n (o++b))=(0,{ D with left:=Z1u D.left,done:=D.done+1,l:=putF D.l n (o++b) }):=if_neg hl
  rw [HF];refine (Z37 h more _ #[.pointer (some ⟨xo,0,none⟩),.pointer (some ⟨xb,0,none⟩),.pointer (some ⟨xd,0,none⟩),.pointer (some ⟨xn,0,none⟩)] (enters_of Tryz.func108 (by kernel_rfl) rfl _) hroom hl hK.left0 hK.left1 (fun w1=>Dsk w1 g m { D with left:=Z1u D.left,done:=D.done+1,l:=putF D.l n (o++b) }∧Tw w w1 g m) (fun w1 hB hg=> ?_)).mono ?_
  ·obtain ⟨al,hB0,hM,hF⟩:=id h
   have hgm:=hM.blk_ne hB0;have hM1:=hM.grown hg (fun e=>by injection e with e;exact hgm e.symm);have hO0:=Other.blk (B:=0) hB0 (by decide) (zL _);have hF1:=hF.keep hg hO0;have k1:w1.cell? ⟨g,1,none⟩=some (.map (some m)):=by rw [hB.cell];rfl
   have hfo1:=hfo.keep hg hO0;have hfb1:=hfb.keep hg (Other.blk hB0 (by decide) hBg);have e2:=(World.cell?_of_block (hg.block xo l2 (fun e=>by injection e with e;exact ng.1 e))).trans h2;have e3:=(World.cell?_of_block (hg.block xb l3 (fun e=>by injection e with e;exact ng.2.1 e))).trans h3;have e4:=(World.cell?_of_block (hg.block xd l4 (fun e=>by injection e with e;exact ng.2.2.1 e))).trans h4;have e5:=(World.cell?_of_block (hg.block xn l5 (fun e=>by injection e with e;exact ng.2.2.2 e))).trans h5;refine (ZbC xo xb xd xn n (by unfold maxLen;omega) al o b Ao Ab co cb w1 hM1 k1 e2 e3 e4 e5 hfo1.1 hfb1.1 (by omega) ⟨ne.1,ne.2.1,ne.2.2.1,ne.2.2.2,hgm⟩).mono ?_;rintro e w2 ⟨rfl,al',v,hM2,hp2,hv2,hg2⟩;refine ⟨rfl,⟨al',?_,hM2,?_⟩,(Tw.grown hg).step (Tw.grownM hg2)⟩
   ·have e1:frD { D with left:=Z1u D.left,done:=D.done+1,l:=putF D.l n (o++b) }=IntKind.i64.wrap (frD D-more):=Z2O rfl hcost
    rw [e1];exact hB.grown hg2 (fun e=>by injection e with e;exact hgm e)
   ·exact (hF1.keep hg2 (Other.map hM1)).put hK.ord hp2 hv2
  ·rintro e w1 ⟨rfl,h1,h2⟩
   exact ⟨rfl,h1,h2⟩
end
section
variable {w w':World} {g m:Nat} {D:Dk}
theorem Dsk.find1 (h:Dsk w g m D) (hL:InOrder D.l) (n:BA) (hn:n.size≤maxLen):
  ∃o A c,Hid ((Z4 D.l n).getD []=o)∧Far w 0 A o∧ ∀W:World,W.heap[m]?=w.heap[m]?→(Instr.lookup 140 (.map (some m)) (.string n) true).run Tryz.prog W= .ok (.tuple #[.slice A o.length c,.bool (Z4 D.l n).isSome]) W:=by
 rcases h.find hL n hn with ⟨hl,hf,_⟩ | ⟨b,A,c,hl,hF,hc,hcm,hf,_⟩
 ·refine ⟨[],none,0,qI (by rw [hl.out];rfl),Far.nil,fun W hW=> ?_⟩
  rw [hf W hW,hl.out]
  rfl
 ·refine ⟨b,A,c,qI (by rw [hl.out];rfl),hF,fun W hW=> ?_⟩
  rw [hf W hW,hl.out]
  rfl
theorem Z4A (h:Dsk w g m D) (hK:OkW D) (n:BA) (hnb:Z8 n=true) (B:Nat) (o b:LU) (Ao Ab:OA) (co cb:Nat) (ho:(Z4 D.l n).getD []=o) (hbl:b.length≤64) (more:Int) (hmore:more=ZX D n b) (xo xb xd xn:Nat)
  (ne:xo≠m∧xb≠m∧xd≠m∧xn≠m) (ng:xo≠g∧xb≠g∧xd≠g∧xn≠g) (hfo:Far w 0 Ao o) (hfb:Far w B Ab b) (hBg:B≤g)
  (h2:w.cell? ⟨xo,0,none⟩=some (.slice Ao o.length co)) (h3:w.cell? ⟨xb,0,none⟩=some (.slice Ab b.length cb)) (h4:w.cell? ⟨xd,0,none⟩=some (.pointer (some ⟨g,0,none⟩))) (h5:w.cell? ⟨xn,0,none⟩=some (.string n)):
  Calls Tryz.prog 104 #[.pointer (some ⟨g,0,none⟩),.int .i64 more,.func (.func 108) #[] #[.pointer (some ⟨xo,0,none⟩),.pointer (some ⟨xb,0,none⟩),.pointer (some ⟨xd,0,none⟩),.pointer (some ⟨xn,0,none⟩)]] w (Z0C w g m (Z1c D more (putF D.l n (o++b)))):=by
 unfold Z1c
 by_cases hr:0<more∧frD D<more
 ·rw [if_pos hr]
  refine (Z76 h more _ hr.1 hr.2).mono ?_;rintro e w1 ⟨rfl,rfl⟩;exact ⟨rfl,h,Tw.refl _ _ _⟩
 ·rw [if_neg hr]
  exact Z79 h hK n hnb B o b Ao Ab co cb ho hbl more hmore hr xo xb xd xn ne ng hfo hfb hBg h2 h3 h4 h5
theorem Z5d (h:Dsk w g m D) (hK:OkW D) (n:BA) (hn:n.size≤maxLen) (B:Nat) (A:OA) (b:LU) (c:Nat) (hfb:Far w B A b) (hBg:B≤g):
  Calls Tryz.prog 43 #[.pointer (some ⟨g,0,none⟩),.string n,.slice A b.length c] w (Z0C w g m (appD D n b)):=by
 have hb1:=(bR w.heap.size w).alloc (lR _) (.cells #[.pointer (some ⟨g,0,none⟩)] 25);have hb2:=hb1.alloc hb1.size (.cells #[.string n] 9);have hb3:=hb2.alloc hb2.size (.cells #[.slice A b.length c] 36);have hX:=((Blk.new w 25 [.pointer (some ⟨g,0,none⟩)]).alloc (.cells #[.string n] 9)).alloc (.cells #[.slice A b.length c] 36);have hY:=(Blk.new (w.alloc (.cells #[.pointer (some ⟨g,0,none⟩)] 25)) 9 [.string n]).alloc (.cells #[.slice A b.length c] 36);have hZ:=Blk.new ((w.alloc (.cells #[.pointer (some ⟨g,0,none⟩)] 25)).alloc (.cells #[.string n] 9)) 36 [.slice A b.length c];rw [World.size_alloc] at hY;rw [World.size_alloc,World.size_alloc] at hZ;obtain ⟨W3,hW3⟩: ∃W,W=((w.alloc (.cells #[.pointer (some ⟨g,0,none⟩)] 25)).alloc (.cells #[.string n] 9)).alloc (.cells #[.slice A b.length c] 36):=⟨_,rfl⟩;have hX3:Blk W3 w.heap.size 25 [.pointer (some ⟨g,0,none⟩)]:=by rw [hW3];exact hX
 have hY3:Blk W3 (w.heap.size+1) 9 [.string n]:=by rw [hW3];exact hY
 have hZ3:Blk W3 (w.heap.size+1+1) 36 [.slice A b.length c]:=by rw [hW3];exact hZ
 have hB3:Below w.heap.size w W3:=by rw [hW3];exact hb3
 have hs3:W3.heap.size=w.heap.size+1+1+1:=by rw [hW3];simp
 obtain ⟨hgl,hml⟩:=h.lt;clear hX hY hZ hb1 hb2 hb3
 by_cases hlen:64<b.length
 ·have HF:Hid (appD D n b=(1,D)):=if_pos (.inl hlen)
  have d1:decide ((b.length:Int)>64)=true:=dT (by omega);have d1':decide ((64:Int)<(b.length:Int))=true:=dT (by omega);have d1n:decide (64<b.length)=true:=dT (by omega);have hD3:=h.below hB3;clear hlen;rw [hW3] at hD3 hB3;go_in;go_wp2_with fail;go_ret;rw [HF.out];exact ⟨rfl,hD3,Tw.below hB3⟩
 ·have d1:decide ((b.length:Int)>64)=false:=qF (by omega)
  have d1':decide ((64:Int)<(b.length:Int))=false:=qF (by omega);have d1n:decide (64<b.length)=false:=qF (by omega);have hlen':b.length≤64:=by omega
  have hB4:=hB3.alloc hB3.size (.cells #[.string n] 9);have hr4:=Rd.new1 W3 9 (.string n);obtain ⟨W4,hW4⟩: ∃W,W=W3.alloc (.cells #[.string n] 9):=⟨_,rfl⟩;have hX4:Blk W4 w.heap.size 25 [.pointer (some ⟨g,0,none⟩)]:=by rw [hW4];exact hX3.alloc _
  have hY4:Blk W4 (w.heap.size+1) 9 [.string n]:=by rw [hW4];exact hY3.alloc _
  have hZ4:Blk W4 (w.heap.size+1+1) 36 [.slice A b.length c]:=by rw [hW4];exact hZ3.alloc _
  rw [←hW4] at hB4 hr4;have hs4:W4.heap.size=w.heap.size+1+1+1+1:=by rw [hW4,World.size_alloc,hs3]
  rw [hs3] at hr4;rw [hW3] at hW4;have hD4:=h.below hB4;have hfb4:=hfb.below hB4;have hR:=Z2x hD4 _ _ [n] 1 1 rfl hr4 (by simp);obtain ⟨r,hr⟩: ∃r,r=rdD D [n]:=⟨_,rfl⟩;rw [←hr] at hR;clear hX3 hY3 hZ3 hr4 hB3 hs3 hW3
  by_cases h0:r=0
  ·have hz:Z8 n=true∧D.dark=false:=by
    unfold rdD at hr;rw [h0] at hr
    cases hB:Z8 n with
    | false=>rw [if_pos (by simp [hB])] at hr;cases hr
    | true=>
     rw [if_neg (by simp [hB])] at hr
     cases hd:D.dark with
     | true=>rw [if_pos hd] at hr;cases hr
     | false=>exact ⟨rfl,rfl⟩
   obtain ⟨hnb,hdk⟩:=hz;have hns:=Z05 hnb;obtain ⟨o,Ao,co,ho,hfo,hlk⟩:=hD4.find1 hK.ord n hn;have HF:Hid (appD D n b=Z1c D (ZX D n b) (putF D.l n (o++b))):=by
    unfold Hid appD;rw [if_neg (by rw [hnb];simp;omega),if_neg (by rw [hdk];decide),ho.out]
   rw [h0] at hR;have HR:=qI hR;have y1:W4.cell? ⟨w.heap.size,0,none⟩=some (.pointer (some ⟨g,0,none⟩)):=by rw [hX4.cell];rfl
   have y2:W4.cell? ⟨w.heap.size+1,0,none⟩=some (.string n):=by rw [hY4.cell];rfl
   have y3:W4.cell? ⟨w.heap.size+1+1,0,none⟩=some (.slice A b.length c):=by rw [hZ4.cell];rfl
   obtain ⟨_,y4,_⟩:=hD4.cells;have f1:IntKind.i64.wrap (16+(n.size:Int))=16+(n.size:Int):=qJ _ (by omega);have f2:IntKind.i64.wrap ((b.length:Int)+(16+(n.size:Int)))=(b.length:Int)+(16+(n.size:Int)):=qJ _ (by omega);clear hR hr h0 hlen
   cases his:(Z4 D.l n).isSome with
   | true=>
    have hmore:Hid ((b.length:Int)=ZX D n b):=by
     unfold Hid ZX
     cases hl:Z4 D.l n with
     | none=>rw [hl] at his;cases his
     | some c=>simp
    rw [his] at hlk;have HLK:=qI hlk;have hm4:m<W4.heap.size:=by omega
    have hxm:m≠W4.heap.size:=by omega
    have hA5:Below W4.heap.size W4 (World.drew (W4.alloc (.cells #[.slice Ao o.length co] 36))):=((bR W4.heap.size W4).alloc (lR _) _).drew;have hO5:=(Blk.new W4 36 [.slice Ao o.length co]).drew;rw [hs4] at hO5;have c1:(World.drew (W4.alloc (.cells #[.slice Ao o.length co] 36))).cell? ⟨w.heap.size+1+1+1+1,0,none⟩=some (.slice Ao o.length co):=by
     have:=hO5.cell 0;exact this
    have c2:=(hA5.cell (p:=⟨w.heap.size+1+1,0,none⟩) hZ4.lt).trans y3;have c3:=(hA5.cell (p:=⟨w.heap.size,0,none⟩) hX4.lt).trans y1;have c4:=(hA5.cell (p:=⟨w.heap.size+1,0,none⟩) hY4.lt).trans y2;have hSp:=Z4A (hD4.below hA5) hK n hnb B o b Ao A co c ho.out hlen' (b.length:Int) hmore.out (w.heap.size+1+1+1+1) (w.heap.size+1+1) w.heap.size (w.heap.size+1) (by omega) (by omega) (hfo.below hA5) (hfb4.below hA5) hBg c1 c2 c3 c4;have HSp:=qI hSp;have hB5:=hB4.trans (hA5.mono hB4.size);clear hSp c1 c2 c3 c4 hO5;clear hlk his;go_in;go_wp2_with fail;rw [←hW4];clear hW4;refine HR.out.mono ?_;rintro e w1 ⟨rfl,hw1⟩;obtain rfl:=hw1.symm;go_wp2_with fail
    go_region_held3 (fun w'=>w'.cell? ⟨w.heap.size,0,none⟩=some (.pointer (some ⟨g,0,none⟩))∧w'.cell? ⟨w.heap.size+1,0,none⟩=some (.string n)∧w'.cell? ⟨g,1,none⟩=some (.map (some m))∧(Instr.lookup 140 (.map (some m)) (.string n) true).run Tryz.prog w'= .ok (.tuple #[.slice Ao o.length co,.bool true]) w')
     ((go_split_ands;refine ⟨by go_keep,by go_keep,by go_keep,?_⟩;first | exact HLK.out _ rfl | exact HLK.out _ (Below.heap_alloc W4 _ m hm4) | exact HLK.out _ ((Below.heap_setCell _ _ _ m hxm).trans (Below.heap_alloc W4 _ m hm4)))) (fail)
    all_goals go_wp2_with fail
    all_goals have hSp:=HSp.out
    all_goals refine hSp.mono ?_
    all_goals rintro e w6 ⟨rfl,h6,t6⟩
    all_goals go_wp2_with fail
    all_goals go_ret
    all_goals rw [HF.out,←hmore.out]
    all_goals exact ⟨rfl,h6,(Tw.below hB5).step t6⟩
   | false=>
    have hmore:Hid ((b.length:Int)+(16+(n.size:Int))=ZX D n b):=by
     unfold Hid ZX
     cases hl:Z4 D.l n with
     | none=>rfl
     | some c=>rw [hl] at his;cases his
    rw [his] at hlk;have HLK:=qI hlk;have hm4:m<W4.heap.size:=by omega
    have hxm:m≠W4.heap.size:=by omega
    have hA5:Below W4.heap.size W4 (World.drew (W4.alloc (.cells #[.slice Ao o.length co] 36))):=((bR W4.heap.size W4).alloc (lR _) _).drew;have hO5:=(Blk.new W4 36 [.slice Ao o.length co]).drew;rw [hs4] at hO5;have c1:(World.drew (W4.alloc (.cells #[.slice Ao o.length co] 36))).cell? ⟨w.heap.size+1+1+1+1,0,none⟩=some (.slice Ao o.length co):=by
     have:=hO5.cell 0;exact this
    have c2:=(hA5.cell (p:=⟨w.heap.size+1+1,0,none⟩) hZ4.lt).trans y3;have c3:=(hA5.cell (p:=⟨w.heap.size,0,none⟩) hX4.lt).trans y1;have c4:=(hA5.cell (p:=⟨w.heap.size+1,0,none⟩) hY4.lt).trans y2;have hSp:=Z4A (hD4.below hA5) hK n hnb B o b Ao A co c ho.out hlen' ((b.length:Int)+(16+(n.size:Int))) hmore.out (w.heap.size+1+1+1+1) (w.heap.size+1+1) w.heap.size (w.heap.size+1) (by omega) (by omega) (hfo.below hA5) (hfb4.below hA5) hBg c1 c2 c3 c4;have HSp:=qI hSp;have hB5:=hB4.trans (hA5.mono hB4.size);clear hSp c1 c2 c3 c4 hO5;clear hlk his;go_in;go_wp2_with fail;rw [←hW4];clear hW4;refine HR.out.mono ?_;rintro e w1 ⟨rfl,hw1⟩;obtain rfl:=hw1.symm;go_wp2_with fail
    go_region_held3 (fun w'=>w'.cell? ⟨w.heap.size,0,none⟩=some (.pointer (some ⟨g,0,none⟩))∧w'.cell? ⟨w.heap.size+1,0,none⟩=some (.string n)∧w'.cell? ⟨g,1,none⟩=some (.map (some m))∧(Instr.lookup 140 (.map (some m)) (.string n) true).run Tryz.prog w'= .ok (.tuple #[.slice Ao o.length co,.bool false]) w')
     ((go_split_ands;refine ⟨by go_keep,by go_keep,by go_keep,?_⟩;first | exact HLK.out _ rfl | exact HLK.out _ (Below.heap_alloc W4 _ m hm4) | exact HLK.out _ ((Below.heap_setCell _ _ _ m hxm).trans (Below.heap_alloc W4 _ m hm4)))) (fail)
    all_goals go_wp2_with fail
    all_goals have hSp:=HSp.out
    all_goals refine hSp.mono ?_
    all_goals rintro e w6 ⟨rfl,h6,t6⟩
    all_goals go_wp2_with fail
    all_goals go_ret
    all_goals rw [HF.out,←hmore.out]
    all_goals exact ⟨rfl,h6,(Tw.below hB5).step t6⟩
  ·have HF:Hid (appD D n b=(r,D)):=by
    unfold Hid appD;unfold rdD at hr
    cases hB:Z8 n with
    | false=>
     rw [if_pos (by simp [hB])] at hr;rw [if_pos (.inr rfl),hr]
    | true=>
     rw [if_neg (by simp [hB])] at hr
     cases hd:D.dark with
     | true=>
      rw [if_pos hd] at hr;rw [if_neg (by simp;omega),if_pos rfl,hr]
     | false=>
      rw [if_neg (by rw [hd];decide)] at hr;exact absurd hr h0
   have hq:(r==0)=false:=beq_eq_false_iff_ne.2 h0;clear hr h0 hlen;have HR:=qI hR;clear hR;go_in;go_wp2_with fail;rw [←hW4];clear hW4;refine HR.out.mono ?_;rintro e w1 ⟨rfl,hw1⟩;obtain rfl:=hw1.symm;go_wp2_with fail;go_ret;rw [HF.out];exact ⟨rfl,hD4,Tw.below hB4⟩
end
end Go.Proofs.YtecpbcmpncgokaaGreat
namespace Go.Dol
open Go.RowKit
theorem ZfQ (D:Dk) (a b:BA):thD D [b] a=if Z8 a=false∨Z8 b=false then 1 else ZZ D a:=by
 unfold thD ZZ rdD;cases hA:Z8 a<;>cases hB:Z8 b<;>cases hd:D.dark<;>simp [hA,hB]
theorem Z4i {a b:BA} (h:a=b):(a.toList==b.toList)=true:=by rw [h];exact beq_self_eq_true _
theorem Z2Q {a b:BA} (h:a≠b):(a.toList==b.toList)=false:=by
 refine beq_eq_false_iff_ne.2 fun e=>h (Z4U ?_);rw [ByteArray.toList_eq,ByteArray.toList_eq] at e;exact e
end Go.Dol
namespace Go.Proofs.YtecpbcmpncgokaaGreat
open Go.RowKit Go.Dol
section
variable {w w':World} {g m:Nat} {D:Dk}
theorem ZbD (xd xa xb:Nat) (a b:BA) (ha:a.size≤maxLen) (hb:b.size≤maxLen) (al:List (Value×Value)) (v:Value) (w:World) (hM:MapL Tryz.prog 9 w m al) (h1:w.cell? ⟨g,1,none⟩=some (.map (some m)))
  (hd:w.cell? ⟨xd,0,none⟩=some (.pointer (some ⟨g,0,none⟩))) (hA:w.cell? ⟨xa,0,none⟩=some (.string a)) (hB:w.cell? ⟨xb,0,none⟩=some (.string b)) (ne:xd≠m∧xa≠m∧xb≠m∧g≠m)
  (hv: ∀W:World,W.heap[m]?=w.heap[m]?→(Instr.lookup 140 (.map (some m)) (.string a) false).run Tryz.prog W= .ok v W):
  Calls Tryz.prog 237 #[.pointer (some ⟨xd,0,none⟩),.pointer (some ⟨xa,0,none⟩),.pointer (some ⟨xb,0,none⟩)] w fun e w'=>
   e= .returned (.tuple #[])∧ ∃al1 al',MapL Tryz.prog 9 w' m al'∧MDel al (.string a) al1∧MPut al1 (.string b) v al'∧w.grownBy w' (some m):=by
 obtain ⟨ka,hka⟩:=Z4f a ha;obtain ⟨kb,hkb⟩:=Z4f b hb;obtain ⟨n1,n2,n3,n4⟩:=ne;have l1:=World.block_lt_of_cell? w _ h1;have l2:=World.block_lt_of_cell? w _ hd;have l3:=World.block_lt_of_cell? w _ hA;have l4:=World.block_lt_of_cell? w _ hB;have hv0: ∀k,(Instr.lookup 140 (.map (some m)) (.string a) false).run Tryz.prog (w.drewN k)= .ok v (w.drewN k):=fun k=>hv _ rfl;have hv1:(Instr.lookup 140 (.map (some m)) (.string a) false).run Tryz.prog w.drew= .ok v w.drew:=hv _ rfl;go_in;go_wp2_with fail;go_quiet (fail);go_wp2_with fail;obtain ⟨W1,hW1⟩: ∃W1,W1=w.drewN nq:=⟨_,rfl⟩;rw [←hW1];have hM1:MapL Tryz.prog 9 W1 m al:=by rw [hW1];exact hM.drewN nq
 have g1:w.grownBy W1 (some m):=by rw [hW1];exact Z4b (gR w _) nq
 have e1:W1.cell? ⟨g,1,none⟩=some (.map (some m)):=by rw [hW1];exact h1
 have ed:W1.cell? ⟨xd,0,none⟩=some (.pointer (some ⟨g,0,none⟩)):=by rw [hW1];exact hd
 have eA:W1.cell? ⟨xa,0,none⟩=some (.string a):=by rw [hW1];exact hA
 have eB:W1.cell? ⟨xb,0,none⟩=some (.string b):=by rw [hW1];exact hB
 obtain ⟨al1,w2,hrun,hM2,hd2,hg2⟩:=(hM1.drewN 1).drop Z4e Tryz.underlying140 hka 0;change (Builtin.delete_ #[140,9] 0 #[.map (some m),.string a]).run Tryz.prog W1.drew= .ok (.tuple #[]) w2 at hrun;have hg2':W1.grownBy w2 (some m):=⟨hg2.os,hg2.tape,hg2.output,hg2.size,hg2.block⟩;clear hW1 hv hv0 hv1 h1 hd hA hB hM hM1;go_still_tail 5,(by kernel_rfl);change wpList _ _ _ _ _ W1.drew;generalize hW:W1.drew=W at hrun;go_wp2_with fail;have g2:=Z6 g1 hg2';have e1':w2.cell? ⟨g,1,none⟩=some (.map (some m)):=(World.cell?_of_block (hg2'.block g (World.block_lt_of_cell? W1 _ e1) (fun e=>by injection e with e;exact n4 e))).trans e1;have ed':w2.cell? ⟨xd,0,none⟩=some (.pointer (some ⟨g,0,none⟩)):=(World.cell?_of_block (hg2'.block xd (World.block_lt_of_cell? W1 _ ed) (fun e=>by injection e with e;exact n1 e))).trans ed;have eB':w2.cell? ⟨xb,0,none⟩=some (.string b):=(World.cell?_of_block (hg2'.block xb (World.block_lt_of_cell? W1 _ eB) (fun e=>by injection e with e;exact n3 e))).trans eB;obtain ⟨al',w3,hrun3,hM3,hp3,hg3⟩:=(hM2.drewN 1).update Z4e Tryz.underlying140 hkb v;change (Instr.mapUpdate 140 (.map (some m)) (.string b) v).run Tryz.prog w2.drew= .ok () w3 at hrun3;have hg3':w2.grownBy w3 (some m):=⟨hg3.os,hg3.tape,hg3.output,hg3.size,hg3.block⟩;clear hrun hW hg2 hg2' e1 ed eA eB hM2 g1;go_still_tail 6,(by kernel_rfl);change wpList _ _ _ _ _ w2.drew;generalize hW2:w2.drew=W2 at hrun3;go_wp2_with fail;go_end0;exact ⟨rfl,al1,al',hM3,hd2,hp3,Z6 g2 hg3'⟩
theorem Z4B (h:Dsk w g m D) (hK:OkW D) (a b:BA) (hna:Z8 a=true) (hnb:Z8 b=true) (c:LU) (hc:Z4 D.l a=some c) (more:Int) (hmore:more=Z1N D a b) (xd xa xb:Nat)
  (ne:xd≠m∧xa≠m∧xb≠m) (ng:xd≠g∧xa≠g∧xb≠g)
  (h2:w.cell? ⟨xd,0,none⟩=some (.pointer (some ⟨g,0,none⟩))) (h3:w.cell? ⟨xa,0,none⟩=some (.string a)) (h4:w.cell? ⟨xb,0,none⟩=some (.string b)):
  Calls Tryz.prog 104 #[.pointer (some ⟨g,0,none⟩),.int .i64 more,.func (.func 237) #[] #[.pointer (some ⟨xd,0,none⟩),.pointer (some ⟨xa,0,none⟩),.pointer (some ⟨xb,0,none⟩)]] w (Z0C w g m (Z1c D (Z1O D a b) (putF (Zi D.l a) b c))):=by
 have hRR:=Za9 (b:=b) hc hnb hna;rw [←hmore] at hRR;have ha2:=Z05 hna;have hb2:=Z05 hnb;unfold Z1c
 by_cases hr:0<more∧frD D<more
 ·rw [if_pos (hRR.1 hr)]
  refine (Z76 h more _ hr.1 hr.2).mono ?_;rintro e w1 ⟨rfl,rfl⟩;exact ⟨rfl,h,Tw.refl _ _ _⟩
 rw [if_neg (fun e=>hr (hRR.2 e))];have hcost:Zo (putF (Zi D.l a) b c)=Zo D.l+more:=by rw [hmore];exact Z8y hK.ord hc
 have l2:=World.block_lt_of_cell? w _ h2;have l3:=World.block_lt_of_cell? w _ h3;have l4:=World.block_lt_of_cell? w _ h4
 by_cases hl:D.left=0
 ·have HF:Zw D (putF (Zi D.l a) b c)=(5,{ D with dark:=true,left:=-1 }):=if_pos hl
  rw [HF];exact Z4h h more _ hr hl
 ·have HF:Zw D (putF (Zi D.l a) b c)=(0,{ D with left:=Z1u D.left,done:=D.done+1,l:=putF (Zi D.l a) b c }):=if_neg hl
  rw [HF];refine (Z37 h more _ #[.pointer (some ⟨xd,0,none⟩),.pointer (some ⟨xa,0,none⟩),.pointer (some ⟨xb,0,none⟩)] (enters_of Tryz.func237 (by kernel_rfl) rfl _) hr hl hK.left0 hK.left1 (fun w1=>Dsk w1 g m { D with left:=Z1u D.left,done:=D.done+1,l:=putF (Zi D.l a) b c }∧Tw w w1 g m) (fun w1 hB hg=> ?_)).mono ?_
  ·obtain ⟨al,hB0,hM,hF⟩:=id h
   have hgm:=hM.blk_ne hB0;have hgm':some m≠some g:=fun e=>by injection e with e;exact hgm e.symm
   have hM1:=hM.grown hg hgm';have hF1:=hF.keep hg (Other.blk hB0 (by decide) (zL _));have k1:w1.cell? ⟨g,1,none⟩=some (.map (some m)):=by rw [hB.cell];rfl
   have e2:=(World.cell?_of_block (hg.block xd l2 (fun e=>by injection e with e;exact ng.1 e))).trans h2;have e3:=(World.cell?_of_block (hg.block xa l3 (fun e=>by injection e with e;exact ng.2.1 e))).trans h3;have e4:=(World.cell?_of_block (hg.block xb l4 (fun e=>by injection e with e;exact ng.2.2 e))).trans h4;rcases h.find hK.ord a (by unfold maxLen;omega) with ⟨hl,_⟩ | ⟨c',A,cc,hl,hfc,hcl,hcm,_,hlk⟩
   ·rw [hl.out] at hc
    cases hc
   have ec:c'=c:=by
    have:=hl.out;rw [hc] at this;injection this with this
    exact this.symm
   subst ec;have hk:w1.heap[m]?=w.heap[m]?:=hg.block m hM.lt hgm';refine (ZbD xd xa xb a b (by unfold maxLen;omega) (by unfold maxLen;omega) al _ w1 hM1 k1 e2 e3 e4 ⟨ne.1,ne.2.1,ne.2.2,hgm⟩ (fun W hW=>hlk W (hW.trans hk))).mono ?_;rintro e w2 ⟨rfl,al1,al',hM2,hd2,hp2,hg2⟩;refine ⟨rfl,⟨al',?_,hM2,?_⟩,(Tw.grown hg).step (Tw.grownM hg2)⟩
   ·have e1:frD { D with left:=Z1u D.left,done:=D.done+1,l:=putF (Zi D.l a) b c' }=IntKind.i64.wrap (frD D-more):=Z2O rfl hcost
    rw [e1];exact hB.grown hg2 (fun e=>by injection e with e;exact hgm e)
   ·have hv:Byt w1 (.slice A c'.length cc) c':=⟨A,cc,rfl,hfc.keep hg (Other.blk hB0 (by decide) (zL _)),hcl,hcm⟩
    exact ((hF1.drop hK.ord hd2).keep hg2 (Other.map hM1)).put (ZI hK.ord) hp2 (hv.keep hg2 (Other.map hM1))
  ·rintro e w1 ⟨rfl,h1,h2⟩
   exact ⟨rfl,h1,h2⟩
theorem Z5e (h:Dsk w g m D) (hK:OkW D) (a b:BA) (ha:a.size≤maxLen) (hb:b.size≤maxLen):
  Calls Tryz.prog 166 #[.pointer (some ⟨g,0,none⟩),.string a,.string b] w (Z0C w g m (renD D a b)):=by
 have hb1:=(bR w.heap.size w).alloc (lR _) (.cells #[.pointer (some ⟨g,0,none⟩)] 25);have hb2:=hb1.alloc hb1.size (.cells #[.string a] 9);have hb3:=hb2.alloc hb2.size (.cells #[.string b] 9);have hb4:=hb3.alloc hb3.size (.cells #[.string b] 9);have hX:=(((Blk.new w 25 [.pointer (some ⟨g,0,none⟩)]).alloc (.cells #[.string a] 9)).alloc (.cells #[.string b] 9)).alloc (.cells #[.string b] 9);have hY:=((Blk.new (w.alloc (.cells #[.pointer (some ⟨g,0,none⟩)] 25)) 9 [.string a]).alloc (.cells #[.string b] 9)).alloc (.cells #[.string b] 9);have hZ:=(Blk.new ((w.alloc (.cells #[.pointer (some ⟨g,0,none⟩)] 25)).alloc (.cells #[.string a] 9)) 9 [.string b]).alloc (.cells #[.string b] 9);have hO:=ZfE (((w.alloc (.cells #[.pointer (some ⟨g,0,none⟩)] 25)).alloc (.cells #[.string a] 9)).alloc (.cells #[.string b] 9)) 9 (w.heap.size+1+1+1) 1 [.string b] rfl (by simp) (by decide);rw [World.size_alloc] at hY;rw [World.size_alloc,World.size_alloc] at hZ;rw [World.size_alloc,World.size_alloc,World.size_alloc] at hO;obtain ⟨W4,hW4⟩: ∃W,W=(((w.alloc (.cells #[.pointer (some ⟨g,0,none⟩)] 25)).alloc (.cells #[.string a] 9)).alloc (.cells #[.string b] 9)).alloc (.cells #[.string b] 9):=⟨_,rfl⟩;have hX4:Blk W4 w.heap.size 25 [.pointer (some ⟨g,0,none⟩)]:=by rw [hW4];exact hX
 have hY4:Blk W4 (w.heap.size+1) 9 [.string a]:=by rw [hW4];exact hY
 have hZ4:Blk W4 (w.heap.size+1+1) 9 [.string b]:=by rw [hW4];exact hZ
 have hB4:Below w.heap.size w W4:=by rw [hW4];exact hb4
 have hO4:W4.ownsRow (w.heap.size+1+1+1) 9 1 (.slice (some ⟨w.heap.size+1+1+1,0,none⟩) 1 1) 1 (sc [b]):=by rw [hW4];exact hO
 have hs4:W4.heap.size=w.heap.size+1+1+1+1:=by rw [hW4];simp
 obtain ⟨hgl,hml⟩:=h.lt;clear hX hY hZ hO hb1 hb2 hb3 hb4;have hD4:=h.below hB4;have hT:=Z3I hD4 hK.ord (w.heap.size+1+1+1) (some ⟨w.heap.size+1+1+1,0,none⟩) [b] 1 1 rfl (by simp) a hO4 (by omega) ha;obtain ⟨t,ht⟩: ∃t,t=thD D [b] a:=⟨_,rfl⟩;rw [←ht] at hT;have HT:=qI hT;rw [ZfQ] at ht;clear hT
 by_cases h0:t=0
 ·have hz:Z8 a=true∧Z8 b=true∧ZZ D a=0:=by
   rw [h0] at ht
   cases hA:Z8 a with
   | false=>rw [hA,if_pos (.inl rfl)] at ht;cases ht
   | true=>
    cases hB:Z8 b with
    | false=>rw [hB,if_pos (.inr rfl)] at ht;cases ht
    | true=>rw [hA,hB,if_neg (by simp)] at ht;exact ⟨rfl,rfl,ht.symm⟩
  obtain ⟨hna,hnb,htz⟩:=hz;obtain ⟨_,_,c,hc⟩:=Z1A htz;have HF:Hid (renD D a b=Z1c D (Z1O D a b) (putF (Zi D.l a) b c)):=by
   unfold Hid renD;rw [if_neg (by rw [hna,hnb];simp),if_neg (by rw [htz];simp),hc]
   rfl
  have hna2:=Z05 hna;have hnb2:=Z05 hnb;have HT0:Hid (t=0):=h0;clear ht h0;have hcB:0≤Z2m D b∧Z2m D b≤140737488355500:=by
   unfold Z2m
   cases hl:Z4 D.l b with
   | none=>simp
   | some d=>have:=hK.small hl;simp only;omega
  obtain ⟨cb,hcb⟩: ∃cb,cb=Z2m D b:=⟨_,rfl⟩;rw [←hcb] at hcB;have f1:IntKind.i64.wrap ((b.size:Int)-(a.size:Int))=(b.size:Int)-(a.size:Int):=qJ _ (by omega);have f2:IntKind.i64.wrap ((b.size:Int)-(a.size:Int)-cb)=(b.size:Int)-(a.size:Int)-cb:=qJ _ (by omega);have HCB:=qI hcb;clear hcb;have y1: ∀W,Below (w.heap.size+1+1+1) W4 W→W.cell? ⟨w.heap.size,0,none⟩=some (.pointer (some ⟨g,0,none⟩)):=fun W hW=>(hW.cell (p:=⟨w.heap.size,0,none⟩) (by simp;omega)).trans (by rw [hX4.cell];rfl);have y2: ∀W,Below (w.heap.size+1+1+1) W4 W→W.cell? ⟨w.heap.size+1,0,none⟩=some (.string a):=fun W hW=>(hW.cell (p:=⟨w.heap.size+1,0,none⟩) (by simp)).trans (by rw [hY4.cell];rfl);have y3: ∀W,Below (w.heap.size+1+1+1) W4 W→W.cell? ⟨w.heap.size+1+1,0,none⟩=some (.string b):=fun W hW=>(hW.cell (p:=⟨w.heap.size+1+1,0,none⟩) (by simp)).trans (by rw [hZ4.cell];rfl);go_in;go_wp2_with fail;rw [←hW4];clear hW4;refine HT.out.mono ?_;rintro e w1 ⟨rfl,hb5,hD1⟩;rw [HT0.out];have z1:=y1 _ hb5;have z2:=y2 _ hb5;have z3:=y3 _ hb5;have hB5:=hB4.trans (hb5.mono (by omega));have hsz5:=hb5.size;clear y1 y2 y3
  by_cases hab:a=b
  ·have he:=Z4i hab
   have hmore:Hid ((b.size:Int)-(a.size:Int)=Z1N D a b):=by unfold Hid Z1N;rw [if_pos hab,hab];omega
   have hSp:=Z4B hD1 hK a b hna hnb c hc ((b.size:Int)-(a.size:Int)) hmore.out w.heap.size (w.heap.size+1) (w.heap.size+1+1) (by omega) (by omega) z1 z2 z3;have HSp:=qI hSp;clear hSp hab;go_wp2_with fail;refine HSp.out.mono ?_;rintro e w6 ⟨rfl,h6,t6⟩;go_wp2_with fail;go_ret;rw [HF.out];exact ⟨rfl,h6,(Tw.below hB5).step t6⟩
  ·have he:=Z2Q hab
   have hmore:Hid ((b.size:Int)-(a.size:Int)-cb=Z1N D a b):=by
    unfold Hid Z1N;rw [if_neg hab,HCB.out];unfold Z2m;cases Z4 D.l b<;>simp only
   have hSp:=Z4B hD1 hK a b hna hnb c hc ((b.size:Int)-(a.size:Int)-cb) hmore.out w.heap.size (w.heap.size+1) (w.heap.size+1+1) (by omega) (by omega) z1 z2 z3;have HSp:=qI hSp;have hCo:=Z74 hD1 hK.ord b (by omega) (fun b hb=>hK.small' hb);rw [←HCB.out] at hCo;have HCo:=qI hCo;clear hSp hab hCo;go_wp2_with ((go_at_call 105;refine HCo.out.mono ?_;rintro e w6 ⟨rfl,hw6⟩;obtain rfl:=hw6.symm));refine HSp.out.mono ?_;rintro e w6 ⟨rfl,h6,t6⟩;go_wp2_with fail;go_ret;rw [HF.out];exact ⟨rfl,h6,(Tw.below hB5).step t6⟩
 ·have HF:Hid (renD D a b=(t,D)):=by
   unfold Hid renD
   by_cases hc:Z8 a=false∨Z8 b=false
   ·rw [if_pos hc] at ht ⊢
    rw [ht]
   ·rw [if_neg hc] at ht ⊢
    rw [if_pos (by rw [←ht];exact h0),ht]
  have hq:(t==0)=false:=beq_eq_false_iff_ne.2 h0;clear ht h0;go_in;go_wp2_with fail;rw [←hW4];clear hW4;refine HT.out.mono ?_;rintro e w1 ⟨rfl,hb5,hD1⟩;go_wp2_with fail;go_ret;rw [HF.out];exact ⟨rfl,hD1,Tw.below (hB4.trans (hb5.mono (by omega)))⟩
end
end Go.Proofs.YtecpbcmpncgokaaGreat
