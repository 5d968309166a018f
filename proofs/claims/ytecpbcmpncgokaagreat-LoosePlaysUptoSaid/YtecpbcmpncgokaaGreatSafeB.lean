/- The walks of the layer 'safe', its fourth part: Save. Conditions: the disk is in good order; names below 2^46, lengths below 2^46. -/
import Derived.Test.YtecpbcmpncgokaaGreatTw
import Derived.Test.YtecpbcmpncgokaaGreatShort
set_option maxRecDepth 100000
set_option maxHeartbeats 1600000
set_option linter.unusedVariables false
namespace Go.Dol
open Go.RowKit
theorem Zm {P:Program} {fn:Func} {p:Tmp} {ty:TypeId} (h:fn.results= #[.cell p ty]) (tmps:Array Value) (w:World) (a:Addr) (v:Value) (hp:tmps.getD p undef= .pointer (some a)) (hl:(loadVar ty a).run P w= .ok v w):
  (results fn tmps).run P w= .ok v w:=by
 have hp':tmps[p]?.getD undef= .pointer (some a):=by simpa using hp
 simp [results,h,hp',asAddr,hl]
theorem Zba {n:BA} (h:n.size=0):(n.toList==([]:LU))=true:=by
 rw [ByteArray.toList_eq,beq_iff_eq];exact nZ (by rw [Zg];exact h)
theorem Z0K {n:BA} (h:n.size≠0):(n.toList==([]:LU))=false:=by
 rw [ByteArray.toList_eq];refine beq_eq_false_iff_ne.2 fun e=>h ?_;rw [←Zg,e]
 rfl
theorem Tw.new1 {w w' w1:World} {g m:Nat} (h:Tw w w1 g m) {x:Nat} (hg:w1.grownBy w' (some x)) (hx:w.heap.size≤x):Tw w w' g m:=
 ⟨hg.os.trans h.os,hg.tape.trans h.tape,hg.output.trans h.output,lT h.size hg.size,fun i hi h1 h2=>(hg.block i (Nat.lt_of_lt_of_le hi h.size) (fun e=>by injection e with e;omega)).trans (h.block i hi h1 h2)⟩
end Go.Dol
namespace Go.Proofs.YtecpbcmpncgokaaGreat
open Go.RowKit Go.Dol Go.Shelf
attribute [local go_sem] Oper.semAt_some
theorem ZR (w:World) (x:Nat) (k:Int) (h:w.cell? ⟨x,0,none⟩=some (.int .i64 k)):(loadVar 30 ⟨x,0,none⟩).run Tryz.prog w= .ok (.int .i64 k) w:=by
 simp [go_sem,h]
section
variable {w w':World} {g m:Nat} {D:Dk}
theorem Dsk.keepB (h:Dsk w g m D) {x:Nat} {T:TypeId} {cs:List Value} (hx:Blk w x T cs) (hT:T≠145) (hU:T≠5) (hg:w.grownBy w' (some x)):Dsk w' g m D:=by
 obtain ⟨al,hB,hM,hF⟩:=h;have n1:some g≠some x:=fun e=>by
  injection e with e
  subst e;unfold Blk at hB hx;rw [hB] at hx;injection hx with hx
  injection hx with _ hx
  exact hT hx.symm
 have n2:some m≠some x:=fun e=>by
  injection e with e
  exact hM.blk_ne hx e.symm
 exact ⟨al,hB.grown hg n1,hM.grown hg n2,hF.keep hg (Other.blk hx hU (zL _))⟩
theorem Zeu (h:Dsk w g m D) (hK:OkW D) (n:BA) (hn:n.size≤140737488355328) (A:OA) (b:LU) (c:Nat) (hB:Z8 (shd n)=false):
  Calls Tryz.prog 99 #[.pointer (some ⟨g,0,none⟩),.string n,.slice A b.length c] w (Z0C w g m (1,D)):=by
 have hRD:Hid (Zq D (shd n)=([],1)):=if_pos hB;have hsz:n.size+1≤maxLen:=by unfold maxLen;omega
 have hm:(shd n).size≤maxLen:=by rw [Z0d];exact hsz
 have hb1:=(bR w.heap.size w).alloc (lR _) (.cells #[.pointer (some ⟨g,0,none⟩)] 25);have hb2:=hb1.alloc hb1.size (.cells #[.int .i64 0] 30);have hb3:=hb2.alloc hb2.size (.cells #[.string (shd n)] 9);have hX:=((Blk.new w 25 [.pointer (some ⟨g,0,none⟩)]).alloc (.cells #[.int .i64 0] 30)).alloc (.cells #[.string (shd n)] 9);have hY:=(Blk.new (w.alloc (.cells #[.pointer (some ⟨g,0,none⟩)] 25)) 30 [.int .i64 0]).alloc (.cells #[.string (shd n)] 9);have hZ:=Blk.new ((w.alloc (.cells #[.pointer (some ⟨g,0,none⟩)] 25)).alloc (.cells #[.int .i64 0] 30)) 9 [.string (shd n)];rw [World.size_alloc] at hY;rw [World.size_alloc,World.size_alloc] at hZ;obtain ⟨W3,hW3⟩: ∃W,W=((w.alloc (.cells #[.pointer (some ⟨g,0,none⟩)] 25)).alloc (.cells #[.int .i64 0] 30)).alloc (.cells #[.string (shd n)] 9):=⟨_,rfl⟩;have hX3:Blk W3 w.heap.size 25 [.pointer (some ⟨g,0,none⟩)]:=by rw [hW3];exact hX
 have hY3:Blk W3 (w.heap.size+1) 30 [.int .i64 0]:=by rw [hW3];exact hY
 have hZ3:Blk W3 (w.heap.size+1+1) 9 [.string (shd n)]:=by rw [hW3];exact hZ
 have hB3:Below w.heap.size w W3:=by rw [hW3];exact hb3
 have hD3:=h.below hB3;have HR:=qI (ZY hD3 hK.ord (shd n) (fun b hb=>hK.small' hb));obtain ⟨hgl,hml⟩:=h.lt;clear hX hY hZ hb1 hb2 hb3;change W3=((w.alloc (.cells #[.pointer (some ⟨g,0,none⟩)] 25)).alloc (.cells #[.int .i64 0] 30)).alloc (.cells #[.string (n++⟨#[126]⟩)] 9) at hW3;refine (callsIn_wide (n:=6)).1 ?_;refine callsIn_of_wp_marks Tryz.func99 rfl trivial ?_ rfl;simp only [Tryz.ntmps99,List.size_toArray,List.length_cons,List.length_nil,Nat.reduceAdd,Nat.reduceSub,Array.replicate_succ,Array.replicate_zero,List.push_toArray,List.append_toArray,List.nil_append,List.cons_append]
 gi_wp2
 rw [←hW3];clear hW3;refine ⟨trivial,?_⟩;refine (callsIn_wide.2 HR.out).mono ?_;rintro e w1 ⟨l',A1,c1,he,rfl,ho1,hb4⟩;have hX4:=hX3.below hb4 hX3.lt;have hY4:=hY3.below hb4 hY3.lt;have hZ4:=hZ3.below hb4 hZ3.lt;have hD4:=hD3.below hb4;have hB4:=hB3.trans (hb4.mono hB3.size);have y1:w1.cell? ⟨w.heap.size,0,none⟩=some (.pointer (some ⟨g,0,none⟩)):=by rw [hX4.cell];rfl
 have y2:w1.cell? ⟨w.heap.size+1,0,none⟩=some (.int .i64 0):=by rw [hY4.cell];rfl
 have z2:=hY4.free 0;have y3:w1.cell? ⟨w.heap.size+1+1,0,none⟩=some (.string (n++⟨#[126]⟩)):=by rw [hZ4.cell];rfl
 clear hX3 hY3 hZ3 hD3 hb4 ho1 HR;have hE:(Zq D (shd n)).2=1:=by rw [hRD.out]
 rw [hE];clear hE
 gi_wp2
 refine ⟨trivial,?_⟩
 gi_wp2
 have hY5:=hY4.set 0 (.int .i64 1);have hg5:w1.grownBy (w1.setCell ⟨w.heap.size+1,0,none⟩ (.int .i64 1)) (some (w.heap.size+1)):=Z0 (gR w1 _) 0 _;refine ⟨_,Zm (p:=6) (ty:=30) (by kernel_rfl) _ _ ⟨w.heap.size+1,0,none⟩ (.int .i64 1) (by rfl) (ZR _ _ _ (by rw [hY5.cell];rfl)),rfl,hD4.keepB hY4 (by decide) (by decide) hg5,(Tw.below hB4).new1 hg5 (by omega)⟩
theorem Zc9 (h:Dsk w g m D) (hK:OkW D) (n:BA) (hn:n.size≤140737488355328) (A:OA) (b:LU) (c:Nat) (hB:Z8 (shd n)=true) (h0:n.size=0):
  Calls Tryz.prog 99 #[.pointer (some ⟨g,0,none⟩),.string n,.slice A b.length c] w (Z0C w g m (1,D)):=by
 have hE:=Zba h0;have hsz:n.size+1≤maxLen:=by unfold maxLen;omega
 have hm:(shd n).size≤maxLen:=by rw [Z0d];exact hsz
 have hb1:=(bR w.heap.size w).alloc (lR _) (.cells #[.pointer (some ⟨g,0,none⟩)] 25);have hb2:=hb1.alloc hb1.size (.cells #[.int .i64 0] 30);have hb3:=hb2.alloc hb2.size (.cells #[.string (shd n)] 9);have hX:=((Blk.new w 25 [.pointer (some ⟨g,0,none⟩)]).alloc (.cells #[.int .i64 0] 30)).alloc (.cells #[.string (shd n)] 9);have hY:=(Blk.new (w.alloc (.cells #[.pointer (some ⟨g,0,none⟩)] 25)) 30 [.int .i64 0]).alloc (.cells #[.string (shd n)] 9);have hZ:=Blk.new ((w.alloc (.cells #[.pointer (some ⟨g,0,none⟩)] 25)).alloc (.cells #[.int .i64 0] 30)) 9 [.string (shd n)];rw [World.size_alloc] at hY;rw [World.size_alloc,World.size_alloc] at hZ;obtain ⟨W3,hW3⟩: ∃W,W=((w.alloc (.cells #[.pointer (some ⟨g,0,none⟩)] 25)).alloc (.cells #[.int .i64 0] 30)).alloc (.cells #[.string (shd n)] 9):=⟨_,rfl⟩;have hX3:Blk W3 w.heap.size 25 [.pointer (some ⟨g,0,none⟩)]:=by rw [hW3];exact hX
 have hY3:Blk W3 (w.heap.size+1) 30 [.int .i64 0]:=by rw [hW3];exact hY
 have hZ3:Blk W3 (w.heap.size+1+1) 9 [.string (shd n)]:=by rw [hW3];exact hZ
 have hB3:Below w.heap.size w W3:=by rw [hW3];exact hb3
 have hD3:=h.below hB3;have HR:=qI (ZY hD3 hK.ord (shd n) (fun b hb=>hK.small' hb));obtain ⟨hgl,hml⟩:=h.lt;clear hX hY hZ hb1 hb2 hb3;change W3=((w.alloc (.cells #[.pointer (some ⟨g,0,none⟩)] 25)).alloc (.cells #[.int .i64 0] 30)).alloc (.cells #[.string (n++⟨#[126]⟩)] 9) at hW3;refine (callsIn_wide (n:=6)).1 ?_;refine callsIn_of_wp_marks Tryz.func99 rfl trivial ?_ rfl;simp only [Tryz.ntmps99,List.size_toArray,List.length_cons,List.length_nil,Nat.reduceAdd,Nat.reduceSub,Array.replicate_succ,Array.replicate_zero,List.push_toArray,List.append_toArray,List.nil_append,List.cons_append]
 gi_wp2
 rw [←hW3];clear hW3;refine ⟨trivial,?_⟩;refine (callsIn_wide.2 HR.out).mono ?_;rintro e w1 ⟨l',A1,c1,he,rfl,ho1,hb4⟩;have hX4:=hX3.below hb4 hX3.lt;have hY4:=hY3.below hb4 hY3.lt;have hZ4:=hZ3.below hb4 hZ3.lt;have hD4:=hD3.below hb4;have hB4:=hB3.trans (hb4.mono hB3.size);have y1:w1.cell? ⟨w.heap.size,0,none⟩=some (.pointer (some ⟨g,0,none⟩)):=by rw [hX4.cell];rfl
 have y2:w1.cell? ⟨w.heap.size+1,0,none⟩=some (.int .i64 0):=by rw [hY4.cell];rfl
 have z2:=hY4.free 0;have y3:w1.cell? ⟨w.heap.size+1+1,0,none⟩=some (.string (n++⟨#[126]⟩)):=by rw [hZ4.cell];rfl
 clear hX3 hY3 hZ3 hD3 hb4 ho1 HR;have hE0:(Zq D (shd n)).2≠1:=by unfold Zq;rw [if_neg (by rw [hB];decide)];cases Z4 D.l (shd n)<;>simp
 obtain ⟨er,her⟩: ∃er,er=(Zq D (shd n)).2:=⟨_,rfl⟩;rw [←her] at hE0 ⊢;have hE1:(er==1)=false:=beq_eq_false_iff_ne.2 hE0;clear her hE0
 gi_wp2
 refine ⟨trivial,?_⟩
 gi_wp2
 have hY5:=hY4.set 0 (.int .i64 1);have hg5:w1.grownBy (w1.setCell ⟨w.heap.size+1,0,none⟩ (.int .i64 1)) (some (w.heap.size+1)):=Z0 (gR w1 _) 0 _;refine ⟨_,Zm (p:=6) (ty:=30) (by kernel_rfl) _ _ ⟨w.heap.size+1,0,none⟩ (.int .i64 1) (by rfl) (ZR _ _ _ (by rw [hY5.cell];rfl)),rfl,hD4.keepB hY4 (by decide) (by decide) hg5,(Tw.below hB4).new1 hg5 (by omega)⟩
theorem Zca (h:Dsk w g m D) (hK:OkW D) (n:BA) (hn:n.size≤140737488355328) (A:OA) (b:LU) (c:Nat) (hB:Z8 (shd n)=true) (h0:n.size≠0) (hT:Z07 n=true):
  Calls Tryz.prog 99 #[.pointer (some ⟨g,0,none⟩),.string n,.slice A b.length c] w (Z0C w g m (1,D)):=by
 have hE:=Z0K h0;have hsz:n.size+1≤maxLen:=by unfold maxLen;omega
 have hm:(shd n).size≤maxLen:=by rw [Z0d];exact hsz
 have hb1:=(bR w.heap.size w).alloc (lR _) (.cells #[.pointer (some ⟨g,0,none⟩)] 25);have hb2:=hb1.alloc hb1.size (.cells #[.int .i64 0] 30);have hb3:=hb2.alloc hb2.size (.cells #[.string (shd n)] 9);have hX:=((Blk.new w 25 [.pointer (some ⟨g,0,none⟩)]).alloc (.cells #[.int .i64 0] 30)).alloc (.cells #[.string (shd n)] 9);have hY:=(Blk.new (w.alloc (.cells #[.pointer (some ⟨g,0,none⟩)] 25)) 30 [.int .i64 0]).alloc (.cells #[.string (shd n)] 9);have hZ:=Blk.new ((w.alloc (.cells #[.pointer (some ⟨g,0,none⟩)] 25)).alloc (.cells #[.int .i64 0] 30)) 9 [.string (shd n)];rw [World.size_alloc] at hY;rw [World.size_alloc,World.size_alloc] at hZ;obtain ⟨W3,hW3⟩: ∃W,W=((w.alloc (.cells #[.pointer (some ⟨g,0,none⟩)] 25)).alloc (.cells #[.int .i64 0] 30)).alloc (.cells #[.string (shd n)] 9):=⟨_,rfl⟩;have hX3:Blk W3 w.heap.size 25 [.pointer (some ⟨g,0,none⟩)]:=by rw [hW3];exact hX
 have hY3:Blk W3 (w.heap.size+1) 30 [.int .i64 0]:=by rw [hW3];exact hY
 have hZ3:Blk W3 (w.heap.size+1+1) 9 [.string (shd n)]:=by rw [hW3];exact hZ
 have hB3:Below w.heap.size w W3:=by rw [hW3];exact hb3
 have hD3:=h.below hB3;have HR:=qI (ZY hD3 hK.ord (shd n) (fun b hb=>hK.small' hb));obtain ⟨hgl,hml⟩:=h.lt;clear hX hY hZ hb1 hb2 hb3;change W3=((w.alloc (.cells #[.pointer (some ⟨g,0,none⟩)] 25)).alloc (.cells #[.int .i64 0] 30)).alloc (.cells #[.string (n++⟨#[126]⟩)] 9) at hW3;refine (callsIn_wide (n:=6)).1 ?_;refine callsIn_of_wp_marks Tryz.func99 rfl trivial ?_ rfl;simp only [Tryz.ntmps99,List.size_toArray,List.length_cons,List.length_nil,Nat.reduceAdd,Nat.reduceSub,Array.replicate_succ,Array.replicate_zero,List.push_toArray,List.append_toArray,List.nil_append,List.cons_append]
 gi_wp2
 rw [←hW3];clear hW3;refine ⟨trivial,?_⟩;refine (callsIn_wide.2 HR.out).mono ?_;rintro e w1 ⟨l',A1,c1,he,rfl,ho1,hb4⟩;have hX4:=hX3.below hb4 hX3.lt;have hY4:=hY3.below hb4 hY3.lt;have hZ4:=hZ3.below hb4 hZ3.lt;have hD4:=hD3.below hb4;have hB4:=hB3.trans (hb4.mono hB3.size);have y1:w1.cell? ⟨w.heap.size,0,none⟩=some (.pointer (some ⟨g,0,none⟩)):=by rw [hX4.cell];rfl
 have y2:w1.cell? ⟨w.heap.size+1,0,none⟩=some (.int .i64 0):=by rw [hY4.cell];rfl
 have z2:=hY4.free 0;have y3:w1.cell? ⟨w.heap.size+1+1,0,none⟩=some (.string (n++⟨#[126]⟩)):=by rw [hZ4.cell];rfl
 clear hX3 hY3 hZ3 hD3 hb4 ho1 HR;have hE0:(Zq D (shd n)).2≠1:=by unfold Zq;rw [if_neg (by rw [hB];decide)];cases Z4 D.l (shd n)<;>simp
 obtain ⟨er,her⟩: ∃er,er=(Zq D (shd n)).2:=⟨_,rfl⟩;rw [←her] at hE0 ⊢;have hE1:(er==1)=false:=beq_eq_false_iff_ne.2 hE0;clear her hE0;have hS:=Z01 n w1 (by omega);have eS:decide (n.data.toList.getLast?=some 126)=Z07 n:=rfl;rw [eS,hT] at hS;have HS:=qI hS;clear hS eS
 gi_wp2
 refine ⟨trivial,?_⟩;refine (callsIn_wide.2 HS.out).mono ?_;rintro e w2 ⟨rfl,hw2⟩;obtain rfl:=hw2.symm
 gi_wp2
 have hY5:=hY4.set 0 (.int .i64 1);have hg5:w1.grownBy (w1.setCell ⟨w.heap.size+1,0,none⟩ (.int .i64 1)) (some (w.heap.size+1)):=Z0 (gR w1 _) 0 _;refine ⟨_,Zm (p:=6) (ty:=30) (by kernel_rfl) _ _ ⟨w.heap.size+1,0,none⟩ (.int .i64 1) (by rfl) (ZR _ _ _ (by rw [hY5.cell];rfl)),rfl,hD4.keepB hY4 (by decide) (by decide) hg5,(Tw.below hB4).new1 hg5 (by omega)⟩
theorem Zdg (h:Dsk w g m D) (hK:OkW D) (n:BA) (hn:n.size≤140737488355328) (A:OA) (b:LU) (c:Nat) (hB:Z8 (shd n)=true) (h0:n.size≠0) (hT:Z07 n=false) (hd:D.dark=true):
  Calls Tryz.prog 99 #[.pointer (some ⟨g,0,none⟩),.string n,.slice A b.length c] w (Z0C w g m (5,D)):=by
 have hE:=Z0K h0;have hsz:n.size+1≤maxLen:=by unfold maxLen;omega
 have hm:(shd n).size≤maxLen:=by rw [Z0d];exact hsz
 have hb1:=(bR w.heap.size w).alloc (lR _) (.cells #[.pointer (some ⟨g,0,none⟩)] 25);have hb2:=hb1.alloc hb1.size (.cells #[.int .i64 0] 30);have hb3:=hb2.alloc hb2.size (.cells #[.string (shd n)] 9);have hX:=((Blk.new w 25 [.pointer (some ⟨g,0,none⟩)]).alloc (.cells #[.int .i64 0] 30)).alloc (.cells #[.string (shd n)] 9);have hY:=(Blk.new (w.alloc (.cells #[.pointer (some ⟨g,0,none⟩)] 25)) 30 [.int .i64 0]).alloc (.cells #[.string (shd n)] 9);have hZ:=Blk.new ((w.alloc (.cells #[.pointer (some ⟨g,0,none⟩)] 25)).alloc (.cells #[.int .i64 0] 30)) 9 [.string (shd n)];rw [World.size_alloc] at hY;rw [World.size_alloc,World.size_alloc] at hZ;obtain ⟨W3,hW3⟩: ∃W,W=((w.alloc (.cells #[.pointer (some ⟨g,0,none⟩)] 25)).alloc (.cells #[.int .i64 0] 30)).alloc (.cells #[.string (shd n)] 9):=⟨_,rfl⟩;have hX3:Blk W3 w.heap.size 25 [.pointer (some ⟨g,0,none⟩)]:=by rw [hW3];exact hX
 have hY3:Blk W3 (w.heap.size+1) 30 [.int .i64 0]:=by rw [hW3];exact hY
 have hZ3:Blk W3 (w.heap.size+1+1) 9 [.string (shd n)]:=by rw [hW3];exact hZ
 have hB3:Below w.heap.size w W3:=by rw [hW3];exact hb3
 have hD3:=h.below hB3;have HR:=qI (ZY hD3 hK.ord (shd n) (fun b hb=>hK.small' hb));obtain ⟨hgl,hml⟩:=h.lt;clear hX hY hZ hb1 hb2 hb3;change W3=((w.alloc (.cells #[.pointer (some ⟨g,0,none⟩)] 25)).alloc (.cells #[.int .i64 0] 30)).alloc (.cells #[.string (n++⟨#[126]⟩)] 9) at hW3;refine (callsIn_wide (n:=6)).1 ?_;refine callsIn_of_wp_marks Tryz.func99 rfl trivial ?_ rfl;simp only [Tryz.ntmps99,List.size_toArray,List.length_cons,List.length_nil,Nat.reduceAdd,Nat.reduceSub,Array.replicate_succ,Array.replicate_zero,List.push_toArray,List.append_toArray,List.nil_append,List.cons_append]
 gi_wp2
 rw [←hW3];clear hW3;refine ⟨trivial,?_⟩;refine (callsIn_wide.2 HR.out).mono ?_;rintro e w1 ⟨l',A1,c1,he,rfl,ho1,hb4⟩;have hX4:=hX3.below hb4 hX3.lt;have hY4:=hY3.below hb4 hY3.lt;have hZ4:=hZ3.below hb4 hZ3.lt;have hD4:=hD3.below hb4;have hB4:=hB3.trans (hb4.mono hB3.size);have y1:w1.cell? ⟨w.heap.size,0,none⟩=some (.pointer (some ⟨g,0,none⟩)):=by rw [hX4.cell];rfl
 have y2:w1.cell? ⟨w.heap.size+1,0,none⟩=some (.int .i64 0):=by rw [hY4.cell];rfl
 have z2:=hY4.free 0;have y3:w1.cell? ⟨w.heap.size+1+1,0,none⟩=some (.string (n++⟨#[126]⟩)):=by rw [hZ4.cell];rfl
 clear hX3 hY3 hZ3 hD3 hb4 ho1 HR;have hE0:(Zq D (shd n)).2≠1:=by unfold Zq;rw [if_neg (by rw [hB];decide)];cases Z4 D.l (shd n)<;>simp
 obtain ⟨er,her⟩: ∃er,er=(Zq D (shd n)).2:=⟨_,rfl⟩;rw [←her] at hE0 ⊢;have hE1:(er==1)=false:=beq_eq_false_iff_ne.2 hE0;clear her hE0;have hS:=Z01 n w1 (by omega);have eS:decide (n.data.toList.getLast?=some 126)=Z07 n:=rfl;rw [eS,hT] at hS;have HS:=qI hS;clear hS eS
 gi_wp2
 refine ⟨trivial,?_⟩;refine (callsIn_wide.2 HS.out).mono ?_;rintro e w2 ⟨rfl,hw2⟩;obtain rfl:=hw2.symm;have hO:=Z2f hD4;rw [hd] at hO;have HO:=qI hO;clear hO
 gi_wp2
 refine ⟨trivial,?_⟩;refine (callsIn_wide.2 HO.out).mono ?_;rintro e w2 ⟨rfl,hw2⟩;obtain rfl:=hw2.symm
 gi_wp2
 have hY5:=hY4.set 0 (.int .i64 5);have hg5:w1.grownBy (w1.setCell ⟨w.heap.size+1,0,none⟩ (.int .i64 5)) (some (w.heap.size+1)):=Z0 (gR w1 _) 0 _;refine ⟨_,Zm (p:=6) (ty:=30) (by kernel_rfl) _ _ ⟨w.heap.size+1,0,none⟩ (.int .i64 5) (by rfl) (ZR _ _ _ (by rw [hY5.cell];rfl)),rfl,hD4.keepB hY4 (by decide) (by decide) hg5,(Tw.below hB4).new1 hg5 (by omega)⟩
theorem Zdh (h:Dsk w g m D) (hK:OkW D) (n:BA) (hn:n.size≤140737488355328) (A:OA) (b:LU) (c:Nat) (hB:Z8 (shd n)=true) (h0:n.size≠0) (hT:Z07 n=false) (hd:D.dark=false) (hl:(Z4 D.l (shd n)).isSome=true) (hr:(remD D (shd n)).1≠0):
  Calls Tryz.prog 99 #[.pointer (some ⟨g,0,none⟩),.string n,.slice A b.length c] w (Z0C w g m (remD D (shd n))):=by
 have hE:=Z0K h0;have hsz:n.size+1≤maxLen:=by unfold maxLen;omega
 have hm:(shd n).size≤maxLen:=by rw [Z0d];exact hsz
 have hb1:=(bR w.heap.size w).alloc (lR _) (.cells #[.pointer (some ⟨g,0,none⟩)] 25);have hb2:=hb1.alloc hb1.size (.cells #[.int .i64 0] 30);have hb3:=hb2.alloc hb2.size (.cells #[.string (shd n)] 9);have hX:=((Blk.new w 25 [.pointer (some ⟨g,0,none⟩)]).alloc (.cells #[.int .i64 0] 30)).alloc (.cells #[.string (shd n)] 9);have hY:=(Blk.new (w.alloc (.cells #[.pointer (some ⟨g,0,none⟩)] 25)) 30 [.int .i64 0]).alloc (.cells #[.string (shd n)] 9);have hZ:=Blk.new ((w.alloc (.cells #[.pointer (some ⟨g,0,none⟩)] 25)).alloc (.cells #[.int .i64 0] 30)) 9 [.string (shd n)];rw [World.size_alloc] at hY;rw [World.size_alloc,World.size_alloc] at hZ;obtain ⟨W3,hW3⟩: ∃W,W=((w.alloc (.cells #[.pointer (some ⟨g,0,none⟩)] 25)).alloc (.cells #[.int .i64 0] 30)).alloc (.cells #[.string (shd n)] 9):=⟨_,rfl⟩;have hX3:Blk W3 w.heap.size 25 [.pointer (some ⟨g,0,none⟩)]:=by rw [hW3];exact hX
 have hY3:Blk W3 (w.heap.size+1) 30 [.int .i64 0]:=by rw [hW3];exact hY
 have hZ3:Blk W3 (w.heap.size+1+1) 9 [.string (shd n)]:=by rw [hW3];exact hZ
 have hB3:Below w.heap.size w W3:=by rw [hW3];exact hb3
 have hD3:=h.below hB3;have HR:=qI (ZY hD3 hK.ord (shd n) (fun b hb=>hK.small' hb));obtain ⟨hgl,hml⟩:=h.lt;clear hX hY hZ hb1 hb2 hb3;change W3=((w.alloc (.cells #[.pointer (some ⟨g,0,none⟩)] 25)).alloc (.cells #[.int .i64 0] 30)).alloc (.cells #[.string (n++⟨#[126]⟩)] 9) at hW3;refine (callsIn_wide (n:=6)).1 ?_;refine callsIn_of_wp_marks Tryz.func99 rfl trivial ?_ rfl;simp only [Tryz.ntmps99,List.size_toArray,List.length_cons,List.length_nil,Nat.reduceAdd,Nat.reduceSub,Array.replicate_succ,Array.replicate_zero,List.push_toArray,List.append_toArray,List.nil_append,List.cons_append]
 gi_wp2
 rw [←hW3];clear hW3;refine ⟨trivial,?_⟩;refine (callsIn_wide.2 HR.out).mono ?_;rintro e w1 ⟨l',A1,c1,he,rfl,ho1,hb4⟩;have hX4:=hX3.below hb4 hX3.lt;have hY4:=hY3.below hb4 hY3.lt;have hZ4:=hZ3.below hb4 hZ3.lt;have hD4:=hD3.below hb4;have hB4:=hB3.trans (hb4.mono hB3.size);have y1:w1.cell? ⟨w.heap.size,0,none⟩=some (.pointer (some ⟨g,0,none⟩)):=by rw [hX4.cell];rfl
 have y2:w1.cell? ⟨w.heap.size+1,0,none⟩=some (.int .i64 0):=by rw [hY4.cell];rfl
 have z2:=hY4.free 0;have y3:w1.cell? ⟨w.heap.size+1+1,0,none⟩=some (.string (n++⟨#[126]⟩)):=by rw [hZ4.cell];rfl
 clear hX3 hY3 hZ3 hD3 hb4 ho1 HR;have hE0:(Zq D (shd n)).2≠1:=by unfold Zq;rw [if_neg (by rw [hB];decide)];cases Z4 D.l (shd n)<;>simp
 obtain ⟨er,her⟩: ∃er,er=(Zq D (shd n)).2:=⟨_,rfl⟩;rw [←her] at hE0 ⊢;have hE1:(er==1)=false:=beq_eq_false_iff_ne.2 hE0;clear her hE0;have hS:=Z01 n w1 (by omega);have eS:decide (n.data.toList.getLast?=some 126)=Z07 n:=rfl;rw [eS,hT] at hS;have HS:=qI hS;clear hS eS
 gi_wp2
 refine ⟨trivial,?_⟩;refine (callsIn_wide.2 HS.out).mono ?_;rintro e w2 ⟨rfl,hw2⟩;obtain rfl:=hw2.symm;have hO:=Z2f hD4;rw [hd] at hO;have HO:=qI hO;clear hO
 gi_wp2
 refine ⟨trivial,?_⟩;refine (callsIn_wide.2 HO.out).mono ?_;rintro e w2 ⟨rfl,hw2⟩;obtain rfl:=hw2.symm;have hH:=Z19 hD4 hK.ord (shd n) hm;rw [hl] at hH;have HH:=qI hH;clear hH
 gi_wp2
 refine ⟨trivial,?_⟩;refine (callsIn_wide.2 HH.out).mono ?_;rintro e w2 ⟨rfl,hw2⟩;obtain rfl:=hw2.symm;have HM:=qI (Z22 hD4 hK (shd n) hm)
 gi_wp2
 refine ⟨trivial,?_⟩;refine (callsIn_wide.2 HM.out).mono ?_;rintro e w2 ⟨rfl,hD5,ht5⟩;have hX6:=hX4.keepB (ht5.block _ hX4.lt (by omega) (by omega));have hY6:=hY4.keepB (ht5.block _ hY4.lt (by omega) (by omega));have hZ6:=hZ4.keepB (ht5.block _ hZ4.lt (by omega) (by omega));have ht6:=(Tw.below (g:=g) (m:=m) hB4).step ht5;have x1:w2.cell? ⟨w.heap.size,0,none⟩=some (.pointer (some ⟨g,0,none⟩)):=by rw [hX6.cell];rfl
 have x2:w2.cell? ⟨w.heap.size+1,0,none⟩=some (.int .i64 0):=by rw [hY6.cell];rfl
 have v2:=hY6.free 0;have x3:w2.cell? ⟨w.heap.size+1+1,0,none⟩=some (.string (n++⟨#[126]⟩)):=by rw [hZ6.cell];rfl
 obtain ⟨r,hrr⟩: ∃r,r=(remD D (shd n)).1:=⟨_,rfl⟩;rw [←hrr] at hr ⊢;have hr1:(r==0)=false:=beq_eq_false_iff_ne.2 hr;have HRR:=qI hrr;clear hrr hr
 gi_wp2
 have hY5:=hY6.set 0 (.int .i64 r);have hg5:w2.grownBy (w2.setCell ⟨w.heap.size+1,0,none⟩ (.int .i64 r)) (some (w.heap.size+1)):=Z0 (gR w2 _) 0 _;refine ⟨_,Zm (p:=6) (ty:=30) (by kernel_rfl) _ _ ⟨w.heap.size+1,0,none⟩ (.int .i64 r) (by rfl) (ZR _ _ _ (by rw [hY5.cell];rfl)),by rw [HRR.out],hD5.keepB hY6 (by decide) (by decide) hg5,(ht6).new1 hg5 (by omega)⟩
end
end Go.Proofs.YtecpbcmpncgokaaGreat
namespace Go.Dol
open Go.RowKit
theorem Z0f {W:World} {x:Nat} {T:TypeId} {cs:List Value} (h:Blk W x T cs) {l:Nat} (hl:Z0R W l) (o:Go.Obj):Blk (W.putObj l o) x T cs:=by
 refine (World.putObj_heap_other fun e=> ?_).trans h;obtain ⟨o',ho,hc⟩:=hl;unfold Blk at h;rw [←e,h] at ho;injection ho with ho
 rw [←ho] at hc;cases hc
end Go.Dol
namespace Go.Proofs.YtecpbcmpncgokaaGreat
open Go.RowKit Go.Dol Go.Shelf
attribute [local go_sem] Oper.semAt_some
section
variable {w w':World} {g m:Nat} {D:Dk}
theorem Other.no {W:World} {B l:Nat} (h:Z0R W l) (hB:B≤l):Other W B (some l):=by
 intro k hk;injection hk with hk
 subst hk;refine ⟨hB,fun cur fr e=> ?_⟩;obtain ⟨o,ho,hc⟩:=h;rw [ho] at e;injection e with e
 rw [e] at hc;cases hc
theorem Dsk.put (h:Dsk w g m D) {l:Nat} (hl:Z0R w l) (hm:m≠l) (o:Go.Obj):Dsk (w.putObj l o) g m D:=by
 obtain ⟨al,hB,hM,hF⟩:=h;exact ⟨al,Z0f hB hl o,hM.keepB (World.putObj_heap_other hm),hF.keep (grownBy_putObj' w l o) (Other.no hl (zL _))⟩
theorem Z5G (A:OA) (k c:Nat) (w:World):Calls Tryz.prog 164 #[.slice A k c] w fun e w'=>e= .returned (.func (.func 235) #[] #[.pointer (some ⟨w.heap.size,0,none⟩)])∧w'=w.alloc (.cells #[.slice A k c] 36):=by
 go_in;go_wp2_with fail;go_ret;exact ⟨rfl,rfl⟩
structure SvI (w:World) (g m x3:Nat) (D:Dk) (n:BA) (pre:List Chunk) (W:World):Prop where
 b0:Blk W w.heap.size 25 [.pointer (some ⟨g,0,none⟩)]
 b2:Blk W (w.heap.size+1+1) 9 [.string (shd n)]
 b3: ∃u,Blk W x3 36 [u]
 tw:Tw w W g m
 dk:Dsk W g m (Zn D (shd n) (pre.map (·.l))).2
structure SvOn (w:World) (g m x3:Nat) (D:Dk) (n:BA) (pre:List Chunk) (W:World):Prop where
 i:SvI w g m x3 D n pre W
 b1:Blk W (w.heap.size+1) 30 [.int .i64 0]
 ok:(Zn D (shd n) (pre.map (·.l))).1=0
structure SvX (w:World) (g m x3:Nat) (D:Dk) (n:BA) (pre:List Chunk) (W:World):Prop where
 i:SvI w g m x3 D n pre W
 b1:Blk W (w.heap.size+1) 30 [.int .i64 (Zn D (shd n) (pre.map (·.l))).1]
 ok:(Zn D (shd n) (pre.map (·.l))).1≠0
section
variable {x3:Nat} {n:BA} {pre:List Chunk} {W:World}
theorem SvI.alloc (h:SvI w g m x3 D n pre W) (o:Go.Obj):SvI w g m x3 D n pre (W.alloc o):=
 have hb:Below W.heap.size W (W.alloc o):=(bR _ _).alloc (lR _) _
 ⟨h.b0.alloc o,h.b2.alloc o,by obtain ⟨u,hu⟩:=h.b3;exact ⟨u,hu.alloc o⟩,h.tw.step (Tw.below hb),h.dk.below hb⟩
theorem SvI.put (h:SvI w g m x3 D n pre W) (l:Nat) (o:Go.Obj) (hl:Z0R W l) (hwl:w.heap.size≤l) (hm:m<w.heap.size):SvI w g m x3 D n pre (W.putObj l o):=
 ⟨Z0f h.b0 hl o,Z0f h.b2 hl o,by obtain ⟨u,hu⟩:=h.b3;exact ⟨u,Z0f hu hl o⟩,h.tw.new1 (grownBy_putObj' W l o) hwl,h.dk.put hl (by omega) o⟩
theorem SvI.cell (h:SvI w g m x3 D n pre W) (u:Value) (h3:w.heap.size+1+1<x3):SvI w g m x3 D n pre (W.setCell ⟨x3,0,none⟩ u):=by
 obtain ⟨v,hv⟩:=h.b3;have hg:W.grownBy (W.setCell ⟨x3,0,none⟩ u) (some x3):=Z0 (gR W _) 0 _;exact ⟨h.b0.far (p:=⟨x3,0,none⟩) (by show w.heap.size≠x3;omega) u,h.b2.far (p:=⟨x3,0,none⟩) (by show w.heap.size+1+1≠x3;omega) u,⟨u,hv.set 0 u⟩,h.tw.new1 hg (by omega),h.dk.keepB hv (by decide) (by decide) hg⟩
end
theorem Zbb (h:Dsk w g m D) (hK:OkW D) (n:BA) (hn:n.size≤140737488355328) (A:OA) (b:LU) (c:Nat) (hbl:b.length≤140737488355328) (hB:Z8 (shd n)=true) (h0:n.size≠0) (hT:Z07 n=false) (hd:D.dark=false) (hl:(Z4 D.l (shd n)).isSome=false) (hroom:frD D<16+((n.size:Int)+1)+(b.length:Int)):
  Calls Tryz.prog 99 #[.pointer (some ⟨g,0,none⟩),.string n,.slice A b.length c] w (Z0C w g m (4,D)):=by
 have hE:=Z0K h0;have hsz:n.size+1≤maxLen:=by unfold maxLen;omega
 have hm:(shd n).size≤maxLen:=by rw [Z0d];exact hsz
 have hb1:=(bR w.heap.size w).alloc (lR _) (.cells #[.pointer (some ⟨g,0,none⟩)] 25);have hb2:=hb1.alloc hb1.size (.cells #[.int .i64 0] 30);have hb3:=hb2.alloc hb2.size (.cells #[.string (shd n)] 9);have hX:=((Blk.new w 25 [.pointer (some ⟨g,0,none⟩)]).alloc (.cells #[.int .i64 0] 30)).alloc (.cells #[.string (shd n)] 9);have hY:=(Blk.new (w.alloc (.cells #[.pointer (some ⟨g,0,none⟩)] 25)) 30 [.int .i64 0]).alloc (.cells #[.string (shd n)] 9);have hZ:=Blk.new ((w.alloc (.cells #[.pointer (some ⟨g,0,none⟩)] 25)).alloc (.cells #[.int .i64 0] 30)) 9 [.string (shd n)];rw [World.size_alloc] at hY;rw [World.size_alloc,World.size_alloc] at hZ;obtain ⟨W3,hW3⟩: ∃W,W=((w.alloc (.cells #[.pointer (some ⟨g,0,none⟩)] 25)).alloc (.cells #[.int .i64 0] 30)).alloc (.cells #[.string (shd n)] 9):=⟨_,rfl⟩;have hX3:Blk W3 w.heap.size 25 [.pointer (some ⟨g,0,none⟩)]:=by rw [hW3];exact hX
 have hY3:Blk W3 (w.heap.size+1) 30 [.int .i64 0]:=by rw [hW3];exact hY
 have hZ3:Blk W3 (w.heap.size+1+1) 9 [.string (shd n)]:=by rw [hW3];exact hZ
 have hB3:Below w.heap.size w W3:=by rw [hW3];exact hb3
 have hD3:=h.below hB3;have HR:=qI (ZY hD3 hK.ord (shd n) (fun b hb=>hK.small' hb));obtain ⟨hgl,hml⟩:=h.lt;clear hX hY hZ hb1 hb2 hb3;change W3=((w.alloc (.cells #[.pointer (some ⟨g,0,none⟩)] 25)).alloc (.cells #[.int .i64 0] 30)).alloc (.cells #[.string (n++⟨#[126]⟩)] 9) at hW3;refine (callsIn_wide (n:=6)).1 ?_;refine callsIn_of_wp_marks Tryz.func99 rfl trivial ?_ rfl;simp only [Tryz.ntmps99,List.size_toArray,List.length_cons,List.length_nil,Nat.reduceAdd,Nat.reduceSub,Array.replicate_succ,Array.replicate_zero,List.push_toArray,List.append_toArray,List.nil_append,List.cons_append]
 gi_wp2
 rw [←hW3];clear hW3;refine ⟨trivial,?_⟩;refine (callsIn_wide.2 HR.out).mono ?_;rintro e w1 ⟨l',A1,c1,he,rfl,ho1,hb4⟩;have hX4:=hX3.below hb4 hX3.lt;have hY4:=hY3.below hb4 hY3.lt;have hZ4:=hZ3.below hb4 hZ3.lt;have hD4:=hD3.below hb4;have hB4:=hB3.trans (hb4.mono hB3.size);have y1:w1.cell? ⟨w.heap.size,0,none⟩=some (.pointer (some ⟨g,0,none⟩)):=by rw [hX4.cell];rfl
 have y2:w1.cell? ⟨w.heap.size+1,0,none⟩=some (.int .i64 0):=by rw [hY4.cell];rfl
 have z2:=hY4.free 0;have y3:w1.cell? ⟨w.heap.size+1+1,0,none⟩=some (.string (n++⟨#[126]⟩)):=by rw [hZ4.cell];rfl
 clear hX3 hY3 hZ3 hD3 hb4 ho1 HR;have hE0:(Zq D (shd n)).2≠1:=by unfold Zq;rw [if_neg (by rw [hB];decide)];cases Z4 D.l (shd n)<;>simp
 obtain ⟨er,her⟩: ∃er,er=(Zq D (shd n)).2:=⟨_,rfl⟩;rw [←her] at hE0 ⊢;have hE1:(er==1)=false:=beq_eq_false_iff_ne.2 hE0;clear her hE0;have hS:=Z01 n w1 (by omega);have eS:decide (n.data.toList.getLast?=some 126)=Z07 n:=rfl;rw [eS,hT] at hS;have HS:=qI hS;clear hS eS
 gi_wp2
 refine ⟨trivial,?_⟩;refine (callsIn_wide.2 HS.out).mono ?_;rintro e w2 ⟨rfl,hw2⟩;obtain rfl:=hw2.symm;have hO:=Z2f hD4;rw [hd] at hO;have HO:=qI hO;clear hO
 gi_wp2
 refine ⟨trivial,?_⟩;refine (callsIn_wide.2 HO.out).mono ?_;rintro e w2 ⟨rfl,hw2⟩;obtain rfl:=hw2.symm;have hH:=Z19 hD4 hK.ord (shd n) hm;rw [hl] at hH;have HH:=qI hH;clear hH
 gi_wp2
 refine ⟨trivial,?_⟩;refine (callsIn_wide.2 HH.out).mono ?_;rintro e w2 ⟨rfl,hw2⟩;obtain rfl:=hw2.symm;have HFr:=qI (Z34 hD4)
 gi_wp2
 refine ⟨trivial,?_⟩;refine (callsIn_wide.2 HFr.out).mono ?_;rintro e w5 ⟨rfl,hw5⟩;obtain rfl:=hw5.symm;have hN:=Z3t n (b.length:Int) w1 hn (by omega) (by omega);rw [show max (b.length:Int) 0=b.length by omega] at hN;have HN:=qI hN;obtain ⟨fr,hfr⟩: ∃fr,fr=frD D:=⟨_,rfl⟩;rw [←hfr] at hroom ⊢;have dR:decide (fr<16+((n.size:Int)+1)+(b.length:Int))=true:=dT hroom;clear hN hfr hroom
 gi_wp2
 refine ⟨trivial,?_⟩;refine (callsIn_wide.2 HN.out).mono ?_;rintro e w5 ⟨rfl,hw5⟩;obtain rfl:=hw5.symm
 gi_wp2
 have hY5:=hY4.set 0 (.int .i64 4);have hg5:w1.grownBy (w1.setCell ⟨w.heap.size+1,0,none⟩ (.int .i64 4)) (some (w.heap.size+1)):=Z0 (gR w1 _) 0 _;refine ⟨_,Zm (p:=6) (ty:=30) (by kernel_rfl) _ _ ⟨w.heap.size+1,0,none⟩ (.int .i64 4) (by rfl) (ZR _ _ _ (by rw [hY5.cell];rfl)),rfl,hD4.keepB hY4 (by decide) (by decide) hg5,(Tw.below hB4).new1 hg5 (by omega)⟩
theorem Z9I (h:Dsk w g m D) (hK:OkW D) (n:BA) (hn:n.size≤140737488355328) (A:OA) (b:LU) (c:Nat) (hbl:b.length≤140737488355328) (hB:Z8 (shd n)=true) (h0:n.size≠0) (hT:Z07 n=false) (hd:D.dark=false) (hl:(Z4 D.l (shd n)).isSome=true) (hr:(remD D (shd n)).1=0) (hroom:frD (remD D (shd n)).2<16+((n.size:Int)+1)+(b.length:Int)):
  Calls Tryz.prog 99 #[.pointer (some ⟨g,0,none⟩),.string n,.slice A b.length c] w (Z0C w g m (4,(remD D (shd n)).2)):=by
 have hE:=Z0K h0;have hKr:=hK.rem (shd n);obtain ⟨D1,hD1⟩: ∃D1,D1=(remD D (shd n)).2:=⟨_,rfl⟩;rw [←hD1] at hroom hKr;rw [←hD1];have hsz:n.size+1≤maxLen:=by unfold maxLen;omega
 have hm:(shd n).size≤maxLen:=by rw [Z0d];exact hsz
 have hb1:=(bR w.heap.size w).alloc (lR _) (.cells #[.pointer (some ⟨g,0,none⟩)] 25);have hb2:=hb1.alloc hb1.size (.cells #[.int .i64 0] 30);have hb3:=hb2.alloc hb2.size (.cells #[.string (shd n)] 9);have hX:=((Blk.new w 25 [.pointer (some ⟨g,0,none⟩)]).alloc (.cells #[.int .i64 0] 30)).alloc (.cells #[.string (shd n)] 9);have hY:=(Blk.new (w.alloc (.cells #[.pointer (some ⟨g,0,none⟩)] 25)) 30 [.int .i64 0]).alloc (.cells #[.string (shd n)] 9);have hZ:=Blk.new ((w.alloc (.cells #[.pointer (some ⟨g,0,none⟩)] 25)).alloc (.cells #[.int .i64 0] 30)) 9 [.string (shd n)];rw [World.size_alloc] at hY;rw [World.size_alloc,World.size_alloc] at hZ;obtain ⟨W3,hW3⟩: ∃W,W=((w.alloc (.cells #[.pointer (some ⟨g,0,none⟩)] 25)).alloc (.cells #[.int .i64 0] 30)).alloc (.cells #[.string (shd n)] 9):=⟨_,rfl⟩;have hX3:Blk W3 w.heap.size 25 [.pointer (some ⟨g,0,none⟩)]:=by rw [hW3];exact hX
 have hY3:Blk W3 (w.heap.size+1) 30 [.int .i64 0]:=by rw [hW3];exact hY
 have hZ3:Blk W3 (w.heap.size+1+1) 9 [.string (shd n)]:=by rw [hW3];exact hZ
 have hB3:Below w.heap.size w W3:=by rw [hW3];exact hb3
 have hD3:=h.below hB3;have HR:=qI (ZY hD3 hK.ord (shd n) (fun b hb=>hK.small' hb));obtain ⟨hgl,hml⟩:=h.lt;clear hX hY hZ hb1 hb2 hb3;change W3=((w.alloc (.cells #[.pointer (some ⟨g,0,none⟩)] 25)).alloc (.cells #[.int .i64 0] 30)).alloc (.cells #[.string (n++⟨#[126]⟩)] 9) at hW3;refine (callsIn_wide (n:=6)).1 ?_;refine callsIn_of_wp_marks Tryz.func99 rfl trivial ?_ rfl;simp only [Tryz.ntmps99,List.size_toArray,List.length_cons,List.length_nil,Nat.reduceAdd,Nat.reduceSub,Array.replicate_succ,Array.replicate_zero,List.push_toArray,List.append_toArray,List.nil_append,List.cons_append]
 gi_wp2
 rw [←hW3];clear hW3;refine ⟨trivial,?_⟩;refine (callsIn_wide.2 HR.out).mono ?_;rintro e w1 ⟨l',A1,c1,he,rfl,ho1,hb4⟩;have hX4:=hX3.below hb4 hX3.lt;have hY4:=hY3.below hb4 hY3.lt;have hZ4:=hZ3.below hb4 hZ3.lt;have hD4:=hD3.below hb4;have hB4:=hB3.trans (hb4.mono hB3.size);have y1:w1.cell? ⟨w.heap.size,0,none⟩=some (.pointer (some ⟨g,0,none⟩)):=by rw [hX4.cell];rfl
 have y2:w1.cell? ⟨w.heap.size+1,0,none⟩=some (.int .i64 0):=by rw [hY4.cell];rfl
 have z2:=hY4.free 0;have y3:w1.cell? ⟨w.heap.size+1+1,0,none⟩=some (.string (n++⟨#[126]⟩)):=by rw [hZ4.cell];rfl
 clear hX3 hY3 hZ3 hD3 hb4 ho1 HR;have hE0:(Zq D (shd n)).2≠1:=by unfold Zq;rw [if_neg (by rw [hB];decide)];cases Z4 D.l (shd n)<;>simp
 obtain ⟨er,her⟩: ∃er,er=(Zq D (shd n)).2:=⟨_,rfl⟩;rw [←her] at hE0 ⊢;have hE1:(er==1)=false:=beq_eq_false_iff_ne.2 hE0;clear her hE0;have hS:=Z01 n w1 (by omega);have eS:decide (n.data.toList.getLast?=some 126)=Z07 n:=rfl;rw [eS,hT] at hS;have HS:=qI hS;clear hS eS
 gi_wp2
 refine ⟨trivial,?_⟩;refine (callsIn_wide.2 HS.out).mono ?_;rintro e w2 ⟨rfl,hw2⟩;obtain rfl:=hw2.symm;have hO:=Z2f hD4;rw [hd] at hO;have HO:=qI hO;clear hO
 gi_wp2
 refine ⟨trivial,?_⟩;refine (callsIn_wide.2 HO.out).mono ?_;rintro e w2 ⟨rfl,hw2⟩;obtain rfl:=hw2.symm;have hH:=Z19 hD4 hK.ord (shd n) hm;rw [hl] at hH;have HH:=qI hH;clear hH
 gi_wp2
 refine ⟨trivial,?_⟩;refine (callsIn_wide.2 HH.out).mono ?_;rintro e w2 ⟨rfl,hw2⟩;obtain rfl:=hw2.symm;have hRm:=Z22 hD4 hK (shd n) hm;have HM:=qI hRm;clear hRm
 gi_wp2
 refine ⟨trivial,?_⟩;refine (callsIn_wide.2 HM.out).mono ?_;rintro e w2 ⟨rfl,hD5,ht5⟩;rw [←hD1] at hD5;have hX6:=hX4.keepB (ht5.block _ hX4.lt (by omega) (by omega));have hY6:=hY4.keepB (ht5.block _ hY4.lt (by omega) (by omega));have hZ6:=hZ4.keepB (ht5.block _ hZ4.lt (by omega) (by omega));have ht6:=(Tw.below (g:=g) (m:=m) hB4).step ht5;have x1:w2.cell? ⟨w.heap.size,0,none⟩=some (.pointer (some ⟨g,0,none⟩)):=by rw [hX6.cell];rfl
 have x2:w2.cell? ⟨w.heap.size+1,0,none⟩=some (.int .i64 0):=by rw [hY6.cell];rfl
 have v2:=hY6.free 0;have x3:w2.cell? ⟨w.heap.size+1+1,0,none⟩=some (.string (n++⟨#[126]⟩)):=by rw [hZ6.cell];rfl
 rw [hr];have HFr:=qI (Z34 hD5)
 gi_wp2
 refine ⟨trivial,?_⟩;refine (callsIn_wide.2 HFr.out).mono ?_;rintro e w5 ⟨rfl,hw5⟩;obtain rfl:=hw5.symm;have hN:=Z3t n (b.length:Int) w2 hn (by omega) (by omega);rw [show max (b.length:Int) 0=b.length by omega] at hN;have HN:=qI hN;obtain ⟨fr,hfr⟩: ∃fr,fr=frD D1:=⟨_,rfl⟩;rw [←hfr] at hroom ⊢;have dR:decide (fr<16+((n.size:Int)+1)+(b.length:Int))=true:=dT hroom;clear hN hfr hroom
 gi_wp2
 refine ⟨trivial,?_⟩;refine (callsIn_wide.2 HN.out).mono ?_;rintro e w5 ⟨rfl,hw5⟩;obtain rfl:=hw5.symm
 gi_wp2
 have hY5:=hY6.set 0 (.int .i64 4);have hg5:w2.grownBy (w2.setCell ⟨w.heap.size+1,0,none⟩ (.int .i64 4)) (some (w.heap.size+1)):=Z0 (gR w2 _) 0 _;refine ⟨_,Zm (p:=6) (ty:=30) (by kernel_rfl) _ _ ⟨w.heap.size+1,0,none⟩ (.int .i64 4) (by rfl) (ZR _ _ _ (by rw [hY5.cell];rfl)),rfl,hD5.keepB hY6 (by decide) (by decide) hg5,(ht6).new1 hg5 (by omega)⟩
end
end Go.Proofs.YtecpbcmpncgokaaGreat
namespace Go.Proofs.YtecpbcmpncgokaaGreat
open Go.RowKit Go.Dol Go.Shelf
attribute [local go_sem] Oper.semAt_some
section
variable {w w':World} {g m:Nat} {D:Dk}
theorem Zdi (h:Dsk w g m D) (hK:OkW D) (n:BA) (hn:n.size≤140737488355328) (A:OA) (b:LU) (c:Nat) (hbl:b.length≤140737488355328) (hsl:D.l.length+1≤3518437208880) (hbw:b.length≤140737488355264) (B:Nat) (hfb:Far w B A b) (hcl:b.length≤c) (hcm:c≤maxLen) (hBw:B≤w.heap.size) (hBg:B≤g) (hBm:B≤m) (hB:Z8 (shd n)=true) (h0:n.size≠0) (hT:Z07 n=false) (hd:D.dark=false) (hl:(Z4 D.l (shd n)).isSome=false) (hroom: ¬frD D<16+((n.size:Int)+1)+(b.length:Int)):
  Calls Tryz.prog 99 #[.pointer (some ⟨g,0,none⟩),.string n,.slice A b.length c] w (Z0C w g m (Z20 D n b)):=by
 have hE:=Z0K h0;have hsz:n.size+1≤maxLen:=by unfold maxLen;omega
 have hm:(shd n).size≤maxLen:=by rw [Z0d];exact hsz
 have hb1:=(bR w.heap.size w).alloc (lR _) (.cells #[.pointer (some ⟨g,0,none⟩)] 25);have hb2:=hb1.alloc hb1.size (.cells #[.int .i64 0] 30);have hb3:=hb2.alloc hb2.size (.cells #[.string (shd n)] 9);have hX:=((Blk.new w 25 [.pointer (some ⟨g,0,none⟩)]).alloc (.cells #[.int .i64 0] 30)).alloc (.cells #[.string (shd n)] 9);have hY:=(Blk.new (w.alloc (.cells #[.pointer (some ⟨g,0,none⟩)] 25)) 30 [.int .i64 0]).alloc (.cells #[.string (shd n)] 9);have hZ:=Blk.new ((w.alloc (.cells #[.pointer (some ⟨g,0,none⟩)] 25)).alloc (.cells #[.int .i64 0] 30)) 9 [.string (shd n)];rw [World.size_alloc] at hY;rw [World.size_alloc,World.size_alloc] at hZ;obtain ⟨W3,hW3⟩: ∃W,W=((w.alloc (.cells #[.pointer (some ⟨g,0,none⟩)] 25)).alloc (.cells #[.int .i64 0] 30)).alloc (.cells #[.string (shd n)] 9):=⟨_,rfl⟩;have hX3:Blk W3 w.heap.size 25 [.pointer (some ⟨g,0,none⟩)]:=by rw [hW3];exact hX
 have hY3:Blk W3 (w.heap.size+1) 30 [.int .i64 0]:=by rw [hW3];exact hY
 have hZ3:Blk W3 (w.heap.size+1+1) 9 [.string (shd n)]:=by rw [hW3];exact hZ
 have hB3:Below w.heap.size w W3:=by rw [hW3];exact hb3
 have hD3:=h.below hB3;have HR:=qI (ZY hD3 hK.ord (shd n) (fun b hb=>hK.small' hb));obtain ⟨hgl,hml⟩:=h.lt;clear hX hY hZ hb1 hb2 hb3;change W3=((w.alloc (.cells #[.pointer (some ⟨g,0,none⟩)] 25)).alloc (.cells #[.int .i64 0] 30)).alloc (.cells #[.string (n++⟨#[126]⟩)] 9) at hW3;refine (callsIn_wide (n:=6)).1 ?_;refine callsIn_of_wp_marks Tryz.func99 rfl trivial ?_ rfl;simp only [Tryz.ntmps99,List.size_toArray,List.length_cons,List.length_nil,Nat.reduceAdd,Nat.reduceSub,Array.replicate_succ,Array.replicate_zero,List.push_toArray,List.append_toArray,List.nil_append,List.cons_append]
 gi_wp2
 rw [←hW3];clear hW3;refine ⟨trivial,?_⟩;refine (callsIn_wide.2 HR.out).mono ?_;rintro e w1 ⟨l',A1,c1,he,rfl,ho1,hb4⟩;have hX4:=hX3.below hb4 hX3.lt;have hY4:=hY3.below hb4 hY3.lt;have hZ4:=hZ3.below hb4 hZ3.lt;have hD4:=hD3.below hb4;have hB4:=hB3.trans (hb4.mono hB3.size);have y1:w1.cell? ⟨w.heap.size,0,none⟩=some (.pointer (some ⟨g,0,none⟩)):=by rw [hX4.cell];rfl
 have y2:w1.cell? ⟨w.heap.size+1,0,none⟩=some (.int .i64 0):=by rw [hY4.cell];rfl
 have z2:=hY4.free 0;have y3:w1.cell? ⟨w.heap.size+1+1,0,none⟩=some (.string (n++⟨#[126]⟩)):=by rw [hZ4.cell];rfl
 clear hX3 hY3 hZ3 hD3 hb4 ho1 HR;have hE0:(Zq D (shd n)).2≠1:=by unfold Zq;rw [if_neg (by rw [hB];decide)];cases Z4 D.l (shd n)<;>simp
 obtain ⟨er,her⟩: ∃er,er=(Zq D (shd n)).2:=⟨_,rfl⟩;rw [←her] at hE0 ⊢;have hE1:(er==1)=false:=beq_eq_false_iff_ne.2 hE0;clear her hE0;have hS:=Z01 n w1 (by omega);have eS:decide (n.data.toList.getLast?=some 126)=Z07 n:=rfl;rw [eS,hT] at hS;have HS:=qI hS;clear hS eS
 gi_wp2
 refine ⟨trivial,?_⟩;refine (callsIn_wide.2 HS.out).mono ?_;rintro e w2 ⟨rfl,hw2⟩;obtain rfl:=hw2.symm;have hO:=Z2f hD4;rw [hd] at hO;have HO:=qI hO;clear hO
 gi_wp2
 refine ⟨trivial,?_⟩;refine (callsIn_wide.2 HO.out).mono ?_;rintro e w2 ⟨rfl,hw2⟩;obtain rfl:=hw2.symm;have hH:=Z19 hD4 hK.ord (shd n) hm;rw [hl] at hH;have HH:=qI hH;clear hH
 gi_wp2
 refine ⟨trivial,?_⟩;refine (callsIn_wide.2 HH.out).mono ?_;rintro e w2 ⟨rfl,hw2⟩;obtain rfl:=hw2.symm;have HFr:=qI (Z34 hD4)
 gi_wp2
 refine ⟨trivial,?_⟩;refine (callsIn_wide.2 HFr.out).mono ?_;rintro e w5 ⟨rfl,hw5⟩;obtain rfl:=hw5.symm;have hN:=Z3t n (b.length:Int) w1 hn (by omega) (by omega);rw [show max (b.length:Int) 0=b.length by omega] at hN;have HN:=qI hN;obtain ⟨fr,hfr⟩: ∃fr,fr=frD D:=⟨_,rfl⟩;rw [←hfr] at hroom ⊢;have dR:decide (fr<16+((n.size:Int)+1)+(b.length:Int))=false:=qF (by omega);clear hN hfr hroom
 gi_wp2
 refine ⟨trivial,?_⟩;refine (callsIn_wide.2 HN.out).mono ?_;rintro e w5 ⟨rfl,hw5⟩;obtain rfl:=hw5.symm;have hC:=Z5G A b.length c w1;obtain ⟨W5,hW5⟩: ∃W5,W5=w1.alloc (.cells #[.slice A b.length c] 36):=⟨_,rfl⟩;rw [←hW5] at hC;have hA5:Below w1.heap.size w1 W5:=by rw [hW5];exact (bR _ _).alloc (lR _) _
 have q3:Blk W5 w1.heap.size 36 [.slice A b.length c]:=by rw [hW5];exact Blk.new _ _ _
 have hsz5:W5.heap.size=w1.heap.size+1:=by rw [hW5];simp
 clear hW5;have q0:=hX4.below hA5 hX4.lt;have q1:=hY4.below hA5 hY4.lt;have q2:=hZ4.below hA5 hZ4.lt;have hD5:=hD4.below hA5;have ht5:=(Tw.below (g:=g) (m:=m) hB4).step (Tw.below hA5);have hx3:=hZ4.lt;have hfw:Far w1 B A b:=hfb.tw (Tw.below (g:=g) (m:=m) hB4) (h.others hBg hBm).1 (h.others hBg hBm).2;have hf5:=hfw.below hA5;obtain ⟨x3,hx⟩: ∃x3,x3=w1.heap.size:=⟨_,rfl⟩;rw [←hx] at hC q3 hsz5 hx3;have hxa:w1.heap.size≤x3:=by omega
 have hxb:x3<W5.heap.size:=by omega
 clear hx hsz5;have HC:=qI hC;clear hC
 gi_wp2
 refine ⟨trivial,?_⟩;refine (callsIn_wide.2 HC.out).mono ?_;rintro e w5 ⟨rfl,hw5⟩;obtain rfl:=hw5.symm
 gi_wp2
 have hKt: ∀{A B' C:World},ChK B x3 A B'→ChK B x3 B' C→ChK B x3 A C:=fun h k=>⟨fun u hu=>k.1 u (h.1 u hu),fun A l hf=>k.2 A l (h.2 A l hf)⟩;have hKb: ∀W l o,W5.heap.size≤l→Z0R W l→ChK B x3 W (W.putObj l o):=fun W l o hl hn=>⟨fun u hu=>Z0f hu hn o,fun A l' hf=>hf.keep (grownBy_putObj' W l o) (Other.no hn (by omega))⟩;have hseq:=Z7J Fence.wide 5 trivial rfl (by omega) x3 B b A c W5 q3 hf5 hcl hcm (by omega);have hi0:SvOn w g m x3 D n [] W5:=⟨⟨q0,q2,⟨_,q3⟩,ht5,hD5⟩,q1,rfl⟩;refine Z7I (p:=52) (q:=11) rfl (by omega) (gf:=235) (lb:=#[.pointer (some ⟨x3,0,none⟩)]) rfl trivial (enters_of Tryz.func235 (by kernel_rfl) rfl) hseq (by omega) hKt hKb (bR _ _) (SvOn w g m x3 D n) (SvX w g m x3 D n)
  (fun pre W o h=>⟨h.i.alloc o,h.b1.alloc o,h.ok⟩)
  (fun pre W l o hl hn h=>⟨h.i.put l o hn (by omega) hml,Z0f h.b1 hn o,h.ok⟩)
  (fun pre W u h=>⟨h.i.cell u (by omega),h.b1.far (p:=⟨x3,0,none⟩) (by show w.heap.size+1≠x3;omega) u,h.ok⟩)
  (fun pre W l o hl hn h=>⟨h.i.put l o hn (by omega) hml,Z0f h.b1 hn o,h.ok⟩)
  (fun pre y W l o hl hn hp=>⟨hp.1,hp.2.1.keep (grownBy_putObj' W l o) (Other.no hn (by omega)),hp.2.2⟩)
  hi0 ?assign ?body ?done ?stop
 case assign=>
  intro l y W K hK
  gi_wp2
  exact hK
 case body=>
  intro l pre y W hI hP;obtain ⟨yl,yA,yc⟩:=y;obtain ⟨⟨b0,b2,⟨u3,b3⟩,tw0,dk0⟩,b1,ok0⟩:=hI;obtain ⟨hy1,hyf,_,_,rr,hrr⟩:=hP;have hsn:=Z1j (c:=yl) ok0;have hmap:(pre++[(⟨yl,yA,yc⟩:Chunk)]).map (·.l)=pre.map (·.l)++[yl]:=by simp
  obtain ⟨D2,hD2⟩: ∃D2,D2=(Zn D (shd n) (pre.map (·.l))).2:=⟨_,rfl⟩;have hK2:OkW D2:=by rw [hD2];exact hK.pre hl hsl hbw hrr
  clear hrr;rw [←hD2] at dk0 hsn;have HA:=qI (Z5d dk0 hK2 (shd n) hm B yA yl yc hyf hBg);have y0:W.cell? ⟨w.heap.size,0,none⟩=some (.pointer (some ⟨g,0,none⟩)):=by rw [b0.cell];rfl
  have y2:W.cell? ⟨w.heap.size+1+1,0,none⟩=some (.string (n++⟨#[126]⟩)):=by rw [b2.cell];rfl
  obtain ⟨r,hr⟩: ∃r,r=(appD D2 (shd n) yl).1:=⟨_,rfl⟩;have HSN:=qI hsn;have HMP:=qI hmap;have HDD:=qI hD2;have HRR:=qI hr;clear hsn hmap hD2;simp only [List.setIfInBounds_toArray,List.set_cons_succ,List.set_cons_zero,Chunk.val]
  gi_wp2
  refine ⟨trivial,?_⟩;refine (CallsIn.inRound l (callsIn_wide.2 HA.out)).mono ?_;rintro e W2 ⟨rfl,dk2,tw2⟩;rw [←HRR.out];have hW:=b0.lt;have e0:=b0.keepB (tw2.block _ b0.lt (by omega) (by omega));have e1:=b1.keepB (tw2.block _ b1.lt (by omega) (by omega));have e2:=b2.keepB (tw2.block _ b2.lt (by omega) (by omega));have e3:=b3.keepB (tw2.block _ b3.lt (by omega) (by omega));have hKF:KeepsFrom W5.heap.size W W2:=⟨tw2.size,fun k o hk ho hc=>(tw2.block k (Array.getElem?_eq_some_iff.1 ho).1 (by omega) (by omega)).trans ho⟩;have hCK:ChK B x3 W W2:=⟨fun u hu=>hu.keepB (tw2.block x3 hu.lt (by omega) (by omega)),fun A l hf=>hf.tw tw2 (dk0.others hBg hBm).1 (dk0.others hBg hBm).2⟩;have ht2:=tw0.step tw2;have y0':W2.cell? ⟨w.heap.size,0,none⟩=some (.pointer (some ⟨g,0,none⟩)):=by rw [e0.cell];rfl
  have y1':W2.cell? ⟨w.heap.size+1,0,none⟩=some (.int .i64 0):=by rw [e1.cell];rfl
  have v1':=e1.free 0
  by_cases hr0:r=0
  ·have hR0:=qI hr0
   rw [hr0];clear hr hr0
   gi_wp2
   refine ⟨⟨e0,e2,⟨_,e3⟩,ht2,?_⟩,e1,?_⟩
   ·rw [HMP.out,HSN.out]
    exact dk2
   ·rw [HMP.out,HSN.out,←HRR.out]
    exact hR0.out
  ·have hq:(r==0)=false:=beq_eq_false_iff_ne.2 hr0
   have hR0:=qI hr0;clear hr hr0
   gi_wp2
   have hg5:W2.grownBy (W2.setCell ⟨w.heap.size+1,0,none⟩ (.int .i64 r)) (some (w.heap.size+1)):=Z0 (gR W2 _) 0 _;refine ⟨hKF.trans (KeepsFrom.of_grownBy hg5 (fun j e=>by injection e with e;omega)),⟨⟨e0.far (p:=⟨w.heap.size+1,0,none⟩) (by show w.heap.size≠w.heap.size+1;omega) _,e2.far (p:=⟨w.heap.size+1,0,none⟩) (by show w.heap.size+1+1≠w.heap.size+1;omega) _,⟨_,e3.far (p:=⟨w.heap.size+1,0,none⟩) (by show x3≠w.heap.size+1;omega) _⟩,ht2.new1 hg5 (by omega),?_⟩,?_,?_⟩⟩
   ·rw [HMP.out,HSN.out]
    exact dk2.keepB e1 (by decide) (by decide) hg5
   ·rw [HMP.out,HSN.out,←HRR.out]
    exact e1.set 0 _
   ·rw [HMP.out,HSN.out,←HRR.out]
    exact hR0.out
 case done=>
  intro Dd xs W hDd hS hI hdef;obtain ⟨⟨b0,b2,⟨u3,b3⟩,tw0,dk0⟩,b1,ok0⟩:=hI;change xs.map (·.l)=Zf b at hS;rw [hS] at dk0 ok0;obtain ⟨D2,hD2⟩: ∃D2,D2=(Zn D (shd n) (Zf b)).2:=⟨_,rfl⟩;have hK2:OkW D2:=by rw [hD2];exact hK.pre hl hsl hbw (List.append_nil _).symm
  have hLd:Z20 D n b=lstD D2 n:=by unfold Z20;rw [if_neg (by rw [ok0];simp),hD2]
  have HLD:=qI hLd;rw [←hD2] at dk0;have HS2:=qI (Z77 dk0 hK2 (shd n) hm);have y0:W.cell? ⟨w.heap.size,0,none⟩=some (.pointer (some ⟨g,0,none⟩)):=by rw [b0.cell];rfl
  have y2:W.cell? ⟨w.heap.size+1+1,0,none⟩=some (.string (n++⟨#[126]⟩)):=by rw [b2.cell];rfl
  obtain ⟨r,hr⟩: ∃r,r=(ZM D2 (shd n)).1:=⟨_,rfl⟩;obtain ⟨D3,hD3⟩: ∃D3,D3=(ZM D2 (shd n)).2:=⟨_,rfl⟩;have hK3:OkW D3:=by rw [hD3];exact hK2.sync _
  have HRR:=qI hr;have HDD:=qI hD3;clear hD2 hLd hD3 hS ok0
  gi_wp2
  refine ⟨trivial,?_⟩;refine (callsIn_wide.2 HS2.out).mono ?_;rintro e W2 ⟨rfl,dk2,tw2⟩;rw [←HRR.out];rw [←HDD.out] at dk2;have e0:=b0.keepB (tw2.block _ b0.lt (by omega) (by omega));have e1:=b1.keepB (tw2.block _ b1.lt (by omega) (by omega));have e2:=b2.keepB (tw2.block _ b2.lt (by omega) (by omega));have ht2:=tw0.step tw2;have df2:W2.heap[Dd]?=some (.deferred (some [])):=(tw2.block _ (Array.getElem?_eq_some_iff.1 hdef).1 (by omega) (by omega)).trans hdef;have y0':W2.cell? ⟨w.heap.size,0,none⟩=some (.pointer (some ⟨g,0,none⟩)):=by rw [e0.cell];rfl
  have y2':W2.cell? ⟨w.heap.size+1+1,0,none⟩=some (.string (n++⟨#[126]⟩)):=by rw [e2.cell];rfl
  have y1':W2.cell? ⟨w.heap.size+1,0,none⟩=some (.int .i64 0):=by rw [e1.cell];rfl
  have v1':=e1.free 0
  by_cases hr0:r=0
  ·have HF:Hid (lstD D2 n=renD D3 (shd n) n):=by
    unfold Hid lstD;rw [if_neg (by rw [←HRR.out,hr0];simp),←HDD.out]
   have HRn:=qI (Z5e dk2 hK3 (shd n) n hm (by omega));rw [hr0];clear hr hr0
   gi_wp2
   refine ⟨trivial,?_⟩;refine (callsIn_wide.2 HRn.out).mono ?_;rintro e W4 ⟨rfl,dk4,tw4⟩;have f1:=e1.keepB (tw4.block _ e1.lt (by omega) (by omega));have ht4:=ht2.step tw4;have df4:W4.heap[Dd]?=some (.deferred (some [])):=(tw4.block _ (Array.getElem?_eq_some_iff.1 df2).1 (by omega) (by omega)).trans df2;have z1':W4.cell? ⟨w.heap.size+1,0,none⟩=some (.int .i64 0):=by rw [f1.cell];rfl
   have u1':=f1.free 0
   gi_wp2
   rw [HLD.out,HF.out];have hg5:W4.grownBy (W4.setCell ⟨w.heap.size+1,0,none⟩ (.int .i64 (renD D3 (shd n) n).1)) (some (w.heap.size+1)):=Z0 (gR W4 _) 0 _;have hY5:=f1.set 0 (.int .i64 (renD D3 (shd n) n).1);have hd5:(W4.setCell ⟨w.heap.size+1,0,none⟩ (.int .i64 (renD D3 (shd n) n).1)).heap[Dd]?=some (.deferred (some [])):=(Below.heap_setCell _ _ _ _ (by show Dd≠w.heap.size+1;omega)).trans df4;have hY6:=Z0f hY5 ⟨_,hd5,rfl⟩ (.deferred none);refine ⟨by simp,.inl ⟨_,_,rfl,run_takeDeferred hd5,?_⟩⟩;refine ⟨_,Zm (p:=6) (ty:=30) (by kernel_rfl) _ _ ⟨w.heap.size+1,0,none⟩ (.int .i64 (renD D3 (shd n) n).1) (by rfl) (ZR _ _ _ (by rw [hY6.cell];rfl)),rfl,(dk4.keepB f1 (by decide) (by decide) hg5).put ⟨_,hd5,rfl⟩ (by omega) _,(ht4.new1 hg5 (by omega)).new1 (grownBy_putObj' _ _ _) (by omega)⟩
  ·have hq:(r==0)=false:=beq_eq_false_iff_ne.2 hr0
   have HF:Hid (lstD D2 n=(r,D3)):=by
    unfold Hid lstD;rw [if_pos (by rw [←HRR.out];exact hr0),HRR.out,HDD.out]
   clear hr hr0
   gi_wp2
   rw [HLD.out,HF.out];have hg5:W2.grownBy (W2.setCell ⟨w.heap.size+1,0,none⟩ (.int .i64 r)) (some (w.heap.size+1)):=Z0 (gR W2 _) 0 _;have hY5:=e1.set 0 (.int .i64 r);have hd5:(W2.setCell ⟨w.heap.size+1,0,none⟩ (.int .i64 r)).heap[Dd]?=some (.deferred (some [])):=(Below.heap_setCell _ _ _ _ (by show Dd≠w.heap.size+1;omega)).trans df2;have hY6:=Z0f hY5 ⟨_,hd5,rfl⟩ (.deferred none);refine ⟨by simp,.inl ⟨_,_,rfl,run_takeDeferred hd5,?_⟩⟩;refine ⟨_,Zm (p:=6) (ty:=30) (by kernel_rfl) _ _ ⟨w.heap.size+1,0,none⟩ (.int .i64 r) (by rfl) (ZR _ _ _ (by rw [hY6.cell];rfl)),rfl,(dk2.keepB e1 (by decide) (by decide) hg5).put ⟨_,hd5,rfl⟩ (by omega) _,(ht2.new1 hg5 (by omega)).new1 (grownBy_putObj' _ _ _) (by omega)⟩
 case stop=>
  intro Dd pre W hDd hS hI hdef;obtain ⟨⟨b0,b2,⟨u3,b3⟩,tw0,dk0⟩,b1,ok0⟩:=hI;obtain ⟨r,hr⟩:=hS;have hall:Zn D (shd n) (Zf b)=Zn D (shd n) (pre.map (·.l)):=by rw [hr];exact Z1k ok0
  have hLd:Z20 D n b=Zn D (shd n) (pre.map (·.l)):=by unfold Z20;rw [hall,if_pos ok0]
  have HLD:=qI hLd;clear hLd hall hr ok0;have hY6:=Z0f b1 ⟨_,hdef,rfl⟩ (.deferred none)
  gi_wp2
  rw [HLD.out];refine ⟨by simp,.inl ⟨_,_,rfl,run_takeDeferred hdef,?_⟩⟩;exact ⟨_,Zm (p:=6) (ty:=30) (by kernel_rfl) _ _ ⟨w.heap.size+1,0,none⟩ (.int .i64 _) (by rfl) (ZR _ _ _ (by rw [hY6.cell];rfl)),rfl,dk0.put ⟨_,hdef,rfl⟩ (by omega) _,tw0.new1 (grownBy_putObj' _ _ _) (by omega)⟩
theorem Zcb (h:Dsk w g m D) (hK:OkW D) (n:BA) (hn:n.size≤140737488355328) (A:OA) (b:LU) (c:Nat) (hbl:b.length≤140737488355328) (hsl:D.l.length+1≤3518437208880) (hbw:b.length≤140737488355264) (B:Nat) (hfb:Far w B A b) (hcl:b.length≤c) (hcm:c≤maxLen) (hBw:B≤w.heap.size) (hBg:B≤g) (hBm:B≤m) (hB:Z8 (shd n)=true) (h0:n.size≠0) (hT:Z07 n=false) (hd:D.dark=false) (hl:(Z4 D.l (shd n)).isSome=true) (hr:(remD D (shd n)).1=0) (hroom: ¬frD (remD D (shd n)).2<16+((n.size:Int)+1)+(b.length:Int)):
  Calls Tryz.prog 99 #[.pointer (some ⟨g,0,none⟩),.string n,.slice A b.length c] w (Z0C w g m (Z20 (remD D (shd n)).2 n b)):=by
 have hE:=Z0K h0;have hKr:=hK.rem (shd n);have hl1:(Z4 (remD D (shd n)).2.l (shd n)).isSome=false:=by rw [(Z5x hK.ord hr).1];rfl
 have hsl1:(remD D (shd n)).2.l.length+1≤3518437208880:=by rw [(Z5x hK.ord hr).2];have:=Z5w D.l (shd n);omega
 obtain ⟨D1,hD1⟩: ∃D1,D1=(remD D (shd n)).2:=⟨_,rfl⟩;rw [←hD1] at hroom hKr hl1 hsl1;rw [←hD1];have hsz:n.size+1≤maxLen:=by unfold maxLen;omega
 have hm:(shd n).size≤maxLen:=by rw [Z0d];exact hsz
 have hb1:=(bR w.heap.size w).alloc (lR _) (.cells #[.pointer (some ⟨g,0,none⟩)] 25);have hb2:=hb1.alloc hb1.size (.cells #[.int .i64 0] 30);have hb3:=hb2.alloc hb2.size (.cells #[.string (shd n)] 9);have hX:=((Blk.new w 25 [.pointer (some ⟨g,0,none⟩)]).alloc (.cells #[.int .i64 0] 30)).alloc (.cells #[.string (shd n)] 9);have hY:=(Blk.new (w.alloc (.cells #[.pointer (some ⟨g,0,none⟩)] 25)) 30 [.int .i64 0]).alloc (.cells #[.string (shd n)] 9);have hZ:=Blk.new ((w.alloc (.cells #[.pointer (some ⟨g,0,none⟩)] 25)).alloc (.cells #[.int .i64 0] 30)) 9 [.string (shd n)];rw [World.size_alloc] at hY;rw [World.size_alloc,World.size_alloc] at hZ;obtain ⟨W3,hW3⟩: ∃W,W=((w.alloc (.cells #[.pointer (some ⟨g,0,none⟩)] 25)).alloc (.cells #[.int .i64 0] 30)).alloc (.cells #[.string (shd n)] 9):=⟨_,rfl⟩;have hX3:Blk W3 w.heap.size 25 [.pointer (some ⟨g,0,none⟩)]:=by rw [hW3];exact hX
 have hY3:Blk W3 (w.heap.size+1) 30 [.int .i64 0]:=by rw [hW3];exact hY
 have hZ3:Blk W3 (w.heap.size+1+1) 9 [.string (shd n)]:=by rw [hW3];exact hZ
 have hB3:Below w.heap.size w W3:=by rw [hW3];exact hb3
 have hD3:=h.below hB3;have HR:=qI (ZY hD3 hK.ord (shd n) (fun b hb=>hK.small' hb));obtain ⟨hgl,hml⟩:=h.lt;clear hX hY hZ hb1 hb2 hb3;change W3=((w.alloc (.cells #[.pointer (some ⟨g,0,none⟩)] 25)).alloc (.cells #[.int .i64 0] 30)).alloc (.cells #[.string (n++⟨#[126]⟩)] 9) at hW3;refine (callsIn_wide (n:=6)).1 ?_;refine callsIn_of_wp_marks Tryz.func99 rfl trivial ?_ rfl;simp only [Tryz.ntmps99,List.size_toArray,List.length_cons,List.length_nil,Nat.reduceAdd,Nat.reduceSub,Array.replicate_succ,Array.replicate_zero,List.push_toArray,List.append_toArray,List.nil_append,List.cons_append]
 gi_wp2
 rw [←hW3];clear hW3;refine ⟨trivial,?_⟩;refine (callsIn_wide.2 HR.out).mono ?_;rintro e w1 ⟨l',A1,c1,he,rfl,ho1,hb4⟩;have hX4:=hX3.below hb4 hX3.lt;have hY4:=hY3.below hb4 hY3.lt;have hZ4:=hZ3.below hb4 hZ3.lt;have hD4:=hD3.below hb4;have hB4:=hB3.trans (hb4.mono hB3.size);have y1:w1.cell? ⟨w.heap.size,0,none⟩=some (.pointer (some ⟨g,0,none⟩)):=by rw [hX4.cell];rfl
 have y2:w1.cell? ⟨w.heap.size+1,0,none⟩=some (.int .i64 0):=by rw [hY4.cell];rfl
 have z2:=hY4.free 0;have y3:w1.cell? ⟨w.heap.size+1+1,0,none⟩=some (.string (n++⟨#[126]⟩)):=by rw [hZ4.cell];rfl
 clear hX3 hY3 hZ3 hD3 hb4 ho1 HR;have hE0:(Zq D (shd n)).2≠1:=by unfold Zq;rw [if_neg (by rw [hB];decide)];cases Z4 D.l (shd n)<;>simp
 obtain ⟨er,her⟩: ∃er,er=(Zq D (shd n)).2:=⟨_,rfl⟩;rw [←her] at hE0 ⊢;have hE1:(er==1)=false:=beq_eq_false_iff_ne.2 hE0;clear her hE0;have hS:=Z01 n w1 (by omega);have eS:decide (n.data.toList.getLast?=some 126)=Z07 n:=rfl;rw [eS,hT] at hS;have HS:=qI hS;clear hS eS
 gi_wp2
 refine ⟨trivial,?_⟩;refine (callsIn_wide.2 HS.out).mono ?_;rintro e w2 ⟨rfl,hw2⟩;obtain rfl:=hw2.symm;have hO:=Z2f hD4;rw [hd] at hO;have HO:=qI hO;clear hO
 gi_wp2
 refine ⟨trivial,?_⟩;refine (callsIn_wide.2 HO.out).mono ?_;rintro e w2 ⟨rfl,hw2⟩;obtain rfl:=hw2.symm;have hH:=Z19 hD4 hK.ord (shd n) hm;rw [hl] at hH;have HH:=qI hH;clear hH
 gi_wp2
 refine ⟨trivial,?_⟩;refine (callsIn_wide.2 HH.out).mono ?_;rintro e w2 ⟨rfl,hw2⟩;obtain rfl:=hw2.symm;have hRm:=Z22 hD4 hK (shd n) hm;have HM:=qI hRm;clear hRm
 gi_wp2
 refine ⟨trivial,?_⟩;refine (callsIn_wide.2 HM.out).mono ?_;rintro e w2 ⟨rfl,hD5,ht5⟩;rw [←hD1] at hD5;have hX6:=hX4.keepB (ht5.block _ hX4.lt (by omega) (by omega));have hY6:=hY4.keepB (ht5.block _ hY4.lt (by omega) (by omega));have hZ6:=hZ4.keepB (ht5.block _ hZ4.lt (by omega) (by omega));have ht6:=(Tw.below (g:=g) (m:=m) hB4).step ht5;have x1:w2.cell? ⟨w.heap.size,0,none⟩=some (.pointer (some ⟨g,0,none⟩)):=by rw [hX6.cell];rfl
 have x2:w2.cell? ⟨w.heap.size+1,0,none⟩=some (.int .i64 0):=by rw [hY6.cell];rfl
 have v2:=hY6.free 0;have x3:w2.cell? ⟨w.heap.size+1+1,0,none⟩=some (.string (n++⟨#[126]⟩)):=by rw [hZ6.cell];rfl
 rw [hr];have HFr:=qI (Z34 hD5)
 gi_wp2
 refine ⟨trivial,?_⟩;refine (callsIn_wide.2 HFr.out).mono ?_;rintro e w5 ⟨rfl,hw5⟩;obtain rfl:=hw5.symm;have hN:=Z3t n (b.length:Int) w2 hn (by omega) (by omega);rw [show max (b.length:Int) 0=b.length by omega] at hN;have HN:=qI hN;obtain ⟨fr,hfr⟩: ∃fr,fr=frD D1:=⟨_,rfl⟩;rw [←hfr] at hroom ⊢;have dR:decide (fr<16+((n.size:Int)+1)+(b.length:Int))=false:=qF (by omega);clear hN hfr hroom
 gi_wp2
 refine ⟨trivial,?_⟩;refine (callsIn_wide.2 HN.out).mono ?_;rintro e w5 ⟨rfl,hw5⟩;obtain rfl:=hw5.symm;clear hX4 hY4 hZ4 y1 y2 y3 z2;clear hD1;have hC:=Z5G A b.length c w2;obtain ⟨W5,hW5⟩: ∃W5,W5=w2.alloc (.cells #[.slice A b.length c] 36):=⟨_,rfl⟩;rw [←hW5] at hC;have hA5:Below w2.heap.size w2 W5:=by rw [hW5];exact (bR _ _).alloc (lR _) _
 have q3:Blk W5 w2.heap.size 36 [.slice A b.length c]:=by rw [hW5];exact Blk.new _ _ _
 have hsz5:W5.heap.size=w2.heap.size+1:=by rw [hW5];simp
 clear hW5;have q0:=hX6.below hA5 hX6.lt;have q1:=hY6.below hA5 hY6.lt;have q2:=hZ6.below hA5 hZ6.lt;have hD7:=hD5.below hA5;have ht7:=(ht6).step (Tw.below hA5);have hx3:=hZ6.lt;have hfw:Far w2 B A b:=hfb.tw (ht6) (h.others hBg hBm).1 (h.others hBg hBm).2;have hf5:=hfw.below hA5;obtain ⟨x3,hx⟩: ∃x3,x3=w2.heap.size:=⟨_,rfl⟩;rw [←hx] at hC q3 hsz5 hx3;have hxa:w2.heap.size≤x3:=by omega
 have hxb:x3<W5.heap.size:=by omega
 clear hx hsz5;have HC:=qI hC;clear hC
 gi_wp2
 refine ⟨trivial,?_⟩;refine (callsIn_wide.2 HC.out).mono ?_;rintro e w5 ⟨rfl,hw5⟩;obtain rfl:=hw5.symm
 gi_wp2
 have hKt: ∀{A B' C:World},ChK B x3 A B'→ChK B x3 B' C→ChK B x3 A C:=fun h k=>⟨fun u hu=>k.1 u (h.1 u hu),fun A l hf=>k.2 A l (h.2 A l hf)⟩;have hKb: ∀W l o,W5.heap.size≤l→Z0R W l→ChK B x3 W (W.putObj l o):=fun W l o hl hn=>⟨fun u hu=>Z0f hu hn o,fun A l' hf=>hf.keep (grownBy_putObj' W l o) (Other.no hn (by omega))⟩;have hseq:=Z7J Fence.wide 5 trivial rfl (by omega) x3 B b A c W5 q3 hf5 hcl hcm (by omega);have hi0:SvOn w g m x3 D1 n [] W5:=⟨⟨q0,q2,⟨_,q3⟩,ht7,hD7⟩,q1,rfl⟩;refine Z7I (p:=52) (q:=11) rfl (by omega) (gf:=235) (lb:=#[.pointer (some ⟨x3,0,none⟩)]) rfl trivial (enters_of Tryz.func235 (by kernel_rfl) rfl) hseq (by omega) hKt hKb (bR _ _) (SvOn w g m x3 D1 n) (SvX w g m x3 D1 n)
  (fun pre W o h=>⟨h.i.alloc o,h.b1.alloc o,h.ok⟩)
  (fun pre W l o hl hn h=>⟨h.i.put l o hn (by omega) hml,Z0f h.b1 hn o,h.ok⟩)
  (fun pre W u h=>⟨h.i.cell u (by omega),h.b1.far (p:=⟨x3,0,none⟩) (by show w.heap.size+1≠x3;omega) u,h.ok⟩)
  (fun pre W l o hl hn h=>⟨h.i.put l o hn (by omega) hml,Z0f h.b1 hn o,h.ok⟩)
  (fun pre y W l o hl hn hp=>⟨hp.1,hp.2.1.keep (grownBy_putObj' W l o) (Other.no hn (by omega)),hp.2.2⟩)
  hi0 ?assign ?body ?done ?stop
 case assign=>
  intro l y W K hK
  gi_wp2
  exact hK
 case body=>
  intro l pre y W hI hP;obtain ⟨yl,yA,yc⟩:=y;obtain ⟨⟨b0,b2,⟨u3,b3⟩,tw0,dk0⟩,b1,ok0⟩:=hI;obtain ⟨hy1,hyf,_,_,rr,hrr⟩:=hP;have hsn:=Z1j (c:=yl) ok0;have hmap:(pre++[(⟨yl,yA,yc⟩:Chunk)]).map (·.l)=pre.map (·.l)++[yl]:=by simp
  obtain ⟨D2,hD2⟩: ∃D2,D2=(Zn D1 (shd n) (pre.map (·.l))).2:=⟨_,rfl⟩;have hK2:OkW D2:=by rw [hD2];exact hKr.pre hl1 hsl1 hbw hrr
  clear hrr;rw [←hD2] at dk0 hsn;have HA:=qI (Z5d dk0 hK2 (shd n) hm B yA yl yc hyf hBg);have y0:W.cell? ⟨w.heap.size,0,none⟩=some (.pointer (some ⟨g,0,none⟩)):=by rw [b0.cell];rfl
  have y2:W.cell? ⟨w.heap.size+1+1,0,none⟩=some (.string (n++⟨#[126]⟩)):=by rw [b2.cell];rfl
  obtain ⟨r,hr⟩: ∃r,r=(appD D2 (shd n) yl).1:=⟨_,rfl⟩;have HSN:=qI hsn;have HMP:=qI hmap;have HDD:=qI hD2;have HRR:=qI hr;clear hsn hmap hD2;simp only [List.setIfInBounds_toArray,List.set_cons_succ,List.set_cons_zero,Chunk.val]
  gi_wp2
  refine ⟨trivial,?_⟩;refine (CallsIn.inRound l (callsIn_wide.2 HA.out)).mono ?_;rintro e W2 ⟨rfl,dk2,tw2⟩;rw [←HRR.out];have hW:=b0.lt;have e0:=b0.keepB (tw2.block _ b0.lt (by omega) (by omega));have e1:=b1.keepB (tw2.block _ b1.lt (by omega) (by omega));have e2:=b2.keepB (tw2.block _ b2.lt (by omega) (by omega));have e3:=b3.keepB (tw2.block _ b3.lt (by omega) (by omega));have hKF:KeepsFrom W5.heap.size W W2:=⟨tw2.size,fun k o hk ho hc=>(tw2.block k (Array.getElem?_eq_some_iff.1 ho).1 (by omega) (by omega)).trans ho⟩;have hCK:ChK B x3 W W2:=⟨fun u hu=>hu.keepB (tw2.block x3 hu.lt (by omega) (by omega)),fun A l hf=>hf.tw tw2 (dk0.others hBg hBm).1 (dk0.others hBg hBm).2⟩;have ht2:=tw0.step tw2;have y0':W2.cell? ⟨w.heap.size,0,none⟩=some (.pointer (some ⟨g,0,none⟩)):=by rw [e0.cell];rfl
  have y1':W2.cell? ⟨w.heap.size+1,0,none⟩=some (.int .i64 0):=by rw [e1.cell];rfl
  have v1':=e1.free 0
  by_cases hr0:r=0
  ·have hR0:=qI hr0
   rw [hr0];clear hr hr0
   gi_wp2
   refine ⟨⟨e0,e2,⟨_,e3⟩,ht2,?_⟩,e1,?_⟩
   ·rw [HMP.out,HSN.out]
    exact dk2
   ·rw [HMP.out,HSN.out,←HRR.out]
    exact hR0.out
  ·have hq:(r==0)=false:=beq_eq_false_iff_ne.2 hr0
   have hR0:=qI hr0;clear hr hr0
   gi_wp2
   have hg5:W2.grownBy (W2.setCell ⟨w.heap.size+1,0,none⟩ (.int .i64 r)) (some (w.heap.size+1)):=Z0 (gR W2 _) 0 _;refine ⟨hKF.trans (KeepsFrom.of_grownBy hg5 (fun j e=>by injection e with e;omega)),⟨⟨e0.far (p:=⟨w.heap.size+1,0,none⟩) (by show w.heap.size≠w.heap.size+1;omega) _,e2.far (p:=⟨w.heap.size+1,0,none⟩) (by show w.heap.size+1+1≠w.heap.size+1;omega) _,⟨_,e3.far (p:=⟨w.heap.size+1,0,none⟩) (by show x3≠w.heap.size+1;omega) _⟩,ht2.new1 hg5 (by omega),?_⟩,?_,?_⟩⟩
   ·rw [HMP.out,HSN.out]
    exact dk2.keepB e1 (by decide) (by decide) hg5
   ·rw [HMP.out,HSN.out,←HRR.out]
    exact e1.set 0 _
   ·rw [HMP.out,HSN.out,←HRR.out]
    exact hR0.out
 case done=>
  intro Dd xs W hDd hS hI hdef;obtain ⟨⟨b0,b2,⟨u3,b3⟩,tw0,dk0⟩,b1,ok0⟩:=hI;change xs.map (·.l)=Zf b at hS;rw [hS] at dk0 ok0;obtain ⟨D2,hD2⟩: ∃D2,D2=(Zn D1 (shd n) (Zf b)).2:=⟨_,rfl⟩;have hK2:OkW D2:=by rw [hD2];exact hKr.pre hl1 hsl1 hbw (List.append_nil _).symm
  have hLd:Z20 D1 n b=lstD D2 n:=by unfold Z20;rw [if_neg (by rw [ok0];simp),hD2]
  have HLD:=qI hLd;rw [←hD2] at dk0;have HS2:=qI (Z77 dk0 hK2 (shd n) hm);have y0:W.cell? ⟨w.heap.size,0,none⟩=some (.pointer (some ⟨g,0,none⟩)):=by rw [b0.cell];rfl
  have y2:W.cell? ⟨w.heap.size+1+1,0,none⟩=some (.string (n++⟨#[126]⟩)):=by rw [b2.cell];rfl
  obtain ⟨r,hr⟩: ∃r,r=(ZM D2 (shd n)).1:=⟨_,rfl⟩;obtain ⟨D3,hD3⟩: ∃D3,D3=(ZM D2 (shd n)).2:=⟨_,rfl⟩;have hK3:OkW D3:=by rw [hD3];exact hK2.sync _
  have HRR:=qI hr;have HDD:=qI hD3;clear hD2 hLd hD3 hS ok0
  gi_wp2
  refine ⟨trivial,?_⟩;refine (callsIn_wide.2 HS2.out).mono ?_;rintro e W2 ⟨rfl,dk2,tw2⟩;rw [←HRR.out];rw [←HDD.out] at dk2;have e0:=b0.keepB (tw2.block _ b0.lt (by omega) (by omega));have e1:=b1.keepB (tw2.block _ b1.lt (by omega) (by omega));have e2:=b2.keepB (tw2.block _ b2.lt (by omega) (by omega));have ht2:=tw0.step tw2;have df2:W2.heap[Dd]?=some (.deferred (some [])):=(tw2.block _ (Array.getElem?_eq_some_iff.1 hdef).1 (by omega) (by omega)).trans hdef;have y0':W2.cell? ⟨w.heap.size,0,none⟩=some (.pointer (some ⟨g,0,none⟩)):=by rw [e0.cell];rfl
  have y2':W2.cell? ⟨w.heap.size+1+1,0,none⟩=some (.string (n++⟨#[126]⟩)):=by rw [e2.cell];rfl
  have y1':W2.cell? ⟨w.heap.size+1,0,none⟩=some (.int .i64 0):=by rw [e1.cell];rfl
  have v1':=e1.free 0
  by_cases hr0:r=0
  ·have HF:Hid (lstD D2 n=renD D3 (shd n) n):=by
    unfold Hid lstD;rw [if_neg (by rw [←HRR.out,hr0];simp),←HDD.out]
   have HRn:=qI (Z5e dk2 hK3 (shd n) n hm (by omega));rw [hr0];clear hr hr0
   gi_wp2
   refine ⟨trivial,?_⟩;refine (callsIn_wide.2 HRn.out).mono ?_;rintro e W4 ⟨rfl,dk4,tw4⟩;have f1:=e1.keepB (tw4.block _ e1.lt (by omega) (by omega));have ht4:=ht2.step tw4;have df4:W4.heap[Dd]?=some (.deferred (some [])):=(tw4.block _ (Array.getElem?_eq_some_iff.1 df2).1 (by omega) (by omega)).trans df2;have z1':W4.cell? ⟨w.heap.size+1,0,none⟩=some (.int .i64 0):=by rw [f1.cell];rfl
   have u1':=f1.free 0
   gi_wp2
   rw [HLD.out,HF.out];have hg5:W4.grownBy (W4.setCell ⟨w.heap.size+1,0,none⟩ (.int .i64 (renD D3 (shd n) n).1)) (some (w.heap.size+1)):=Z0 (gR W4 _) 0 _;have hY5:=f1.set 0 (.int .i64 (renD D3 (shd n) n).1);have hd5:(W4.setCell ⟨w.heap.size+1,0,none⟩ (.int .i64 (renD D3 (shd n) n).1)).heap[Dd]?=some (.deferred (some [])):=(Below.heap_setCell _ _ _ _ (by show Dd≠w.heap.size+1;omega)).trans df4;have hY6:=Z0f hY5 ⟨_,hd5,rfl⟩ (.deferred none);refine ⟨by simp,.inl ⟨_,_,rfl,run_takeDeferred hd5,?_⟩⟩;refine ⟨_,Zm (p:=6) (ty:=30) (by kernel_rfl) _ _ ⟨w.heap.size+1,0,none⟩ (.int .i64 (renD D3 (shd n) n).1) (by rfl) (ZR _ _ _ (by rw [hY6.cell];rfl)),rfl,(dk4.keepB f1 (by decide) (by decide) hg5).put ⟨_,hd5,rfl⟩ (by omega) _,(ht4.new1 hg5 (by omega)).new1 (grownBy_putObj' _ _ _) (by omega)⟩
  ·have hq:(r==0)=false:=beq_eq_false_iff_ne.2 hr0
   have HF:Hid (lstD D2 n=(r,D3)):=by
    unfold Hid lstD;rw [if_pos (by rw [←HRR.out];exact hr0),HRR.out,HDD.out]
   clear hr hr0
   gi_wp2
   rw [HLD.out,HF.out];have hg5:W2.grownBy (W2.setCell ⟨w.heap.size+1,0,none⟩ (.int .i64 r)) (some (w.heap.size+1)):=Z0 (gR W2 _) 0 _;have hY5:=e1.set 0 (.int .i64 r);have hd5:(W2.setCell ⟨w.heap.size+1,0,none⟩ (.int .i64 r)).heap[Dd]?=some (.deferred (some [])):=(Below.heap_setCell _ _ _ _ (by show Dd≠w.heap.size+1;omega)).trans df2;have hY6:=Z0f hY5 ⟨_,hd5,rfl⟩ (.deferred none);refine ⟨by simp,.inl ⟨_,_,rfl,run_takeDeferred hd5,?_⟩⟩;refine ⟨_,Zm (p:=6) (ty:=30) (by kernel_rfl) _ _ ⟨w.heap.size+1,0,none⟩ (.int .i64 r) (by rfl) (ZR _ _ _ (by rw [hY6.cell];rfl)),rfl,(dk2.keepB e1 (by decide) (by decide) hg5).put ⟨_,hd5,rfl⟩ (by omega) _,(ht2.new1 hg5 (by omega)).new1 (grownBy_putObj' _ _ _) (by omega)⟩
 case stop=>
  intro Dd pre W hDd hS hI hdef;obtain ⟨⟨b0,b2,⟨u3,b3⟩,tw0,dk0⟩,b1,ok0⟩:=hI;obtain ⟨r,hr⟩:=hS;have hall:Zn D1 (shd n) (Zf b)=Zn D1 (shd n) (pre.map (·.l)):=by rw [hr];exact Z1k ok0
  have hLd:Z20 D1 n b=Zn D1 (shd n) (pre.map (·.l)):=by unfold Z20;rw [hall,if_pos ok0]
  have HLD:=qI hLd;clear hLd hall hr ok0;have hY6:=Z0f b1 ⟨_,hdef,rfl⟩ (.deferred none)
  gi_wp2
  rw [HLD.out];refine ⟨by simp,.inl ⟨_,_,rfl,run_takeDeferred hdef,?_⟩⟩;exact ⟨_,Zm (p:=6) (ty:=30) (by kernel_rfl) _ _ ⟨w.heap.size+1,0,none⟩ (.int .i64 _) (by rfl) (ZR _ _ _ (by rw [hY6.cell];rfl)),rfl,dk0.put ⟨_,hdef,rfl⟩ (by omega) _,tw0.new1 (grownBy_putObj' _ _ _) (by omega)⟩
theorem Zbc (h:Dsk w g m D) (hK:OkW D) (n:BA) (hn:n.size≤140737488355328) (A:OA) (b:LU) (c:Nat) (hbl:b.length≤140737488355328) (hsl:D.l.length+1≤3518437208880) (hbw:b.length≤140737488355264) (B:Nat) (hfb:Far w B A b) (hcl:b.length≤c) (hcm:c≤maxLen) (hBw:B≤w.heap.size) (hBg:B≤g) (hBm:B≤m):
  Calls Tryz.prog 99 #[.pointer (some ⟨g,0,none⟩),.string n,.slice A b.length c] w (Z0C w g m (ZP D n b)):=by
 cases hB:Z8 (shd n) with
 | false=>
  have e:ZP D n b=(1,D):=if_pos (.inl hB);rw [e];exact Zeu h hK n hn A b c hB
 | true=>
  by_cases h0:n.size=0
  ·have e:ZP D n b=(1,D):=if_pos (.inr (.inl h0))
   rw [e];exact Zc9 h hK n hn A b c hB h0
  ·cases hT:Z07 n with
   | true=>
    have e:ZP D n b=(1,D):=if_pos (.inr (.inr hT));rw [e];exact Zca h hK n hn A b c hB h0 hT
   | false=>
    have hno: ¬(Z8 (shd n)=false∨n.size=0∨Z07 n=true):=by rw [hB,hT];simp [h0]
    cases hd:D.dark with
    | true=>
     have e:ZP D n b=(5,D):=by unfold ZP;rw [if_neg hno,if_pos hd]
     rw [e];exact Zdg h hK n hn A b c hB h0 hT hd
    | false=>
     cases hl:(Z4 D.l (shd n)).isSome with
     | false=>
      have e:ZP D n b=Z1w D n b:=by unfold ZP;rw [if_neg hno,if_neg (by rw [hd];decide),if_neg (by rw [hl];decide)]
      rw [e];unfold Z1w
      by_cases hr:frD D<16+((n.size:Int)+1)+(b.length:Int)
      ·rw [if_pos hr]
       exact Zbb h hK n hn A b c hbl hB h0 hT hd hl hr
      ·rw [if_neg hr]
       exact Zdi h hK n hn A b c hbl hsl hbw B hfb hcl hcm hBw hBg hBm hB h0 hT hd hl hr
     | true=>
      have e:ZP D n b=if (remD D (shd n)).1≠0 then remD D (shd n) else Z1w (remD D (shd n)).2 n b:=by unfold ZP;rw [if_neg hno,if_neg (by rw [hd];decide),if_pos hl]
      rw [e]
      by_cases hr:(remD D (shd n)).1=0
      ·rw [if_neg (by simp [hr])]
       unfold Z1w
       by_cases hr2:frD (remD D (shd n)).2<16+((n.size:Int)+1)+(b.length:Int)
       ·rw [if_pos hr2]
        exact Z9I h hK n hn A b c hbl hB h0 hT hd hl hr hr2
       ·rw [if_neg hr2]
        exact Zcb h hK n hn A b c hbl hsl hbw B hfb hcl hcm hBw hBg hBm hB h0 hT hd hl hr hr2
      ·rw [if_pos hr]
       exact Zdh h hK n hn A b c hB h0 hT hd hl hr
end
end Go.Proofs.YtecpbcmpncgokaaGreat
