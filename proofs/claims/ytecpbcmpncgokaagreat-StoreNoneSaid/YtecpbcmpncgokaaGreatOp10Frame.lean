/- How an argument of dolmenlaw10's commands reads: its number, its text. Conditions: none. -/
import Derived.Test.YtecpbcmpncgokaaGreatRows
import Derived.Test.YtecpbcmpncgokaaGreatFrame
import Derived.Test.YtecpbcmpncgokaaGreatShort
set_option linter.unusedVariables false
namespace Go.Proofs.YtecpbcmpncgokaaGreat
open Go.ChangeShapes Go.WideShapes Go.RowKit Go.Dol
set_option maxRecDepth 100000 in
theorem Zhv {H:Type} {enc:TypeId×Value→H} {W:World} {r:Reach} {b0:Nat} {v:Value} {d:DataW H} {ps:List MemPlace} (hv:Value.okWide Tryz.prog W r b0 43 v) (h:DataW.Trod enc Tryz.prog W 0 (fun _=>true) true 43 v d ps):
  ∃(x0 x1:Value) (n:Int) (x3 x4 x5 x6 x7 x8 x9 x10 x11 x12:Value) (id:BA) (x14:Value),v= .agg #[x0,x1,.int .i64 n,x3,x4,x5,x6,x7,x8,x9,x10,x11,x12,.string id,x14]∧id.size≤maxLen:=by
 obtain ⟨cs,rfl,hsz⟩:=okWide_struct Tryz.underlying43 hv;obtain ⟨l⟩:=cs;have hC:Tryz.prog.cellsOf 43=15:=by kernel_rfl
 have hI:Tryz.prog.cellsOf 3=1:=by kernel_rfl
 have hS:Tryz.prog.cellsOf 9=1:=by kernel_rfl
 match l,hsz.trans hC with
 | [c0,c1,c2,c3,c4,c5,c6,c7,c8,c9,c10,c11,c12,c13,c14],_=>
  obtain ⟨fuel,hf⟩:=h;obtain ⟨xs,m,_,_,_,hlen,hg⟩:=DataW.trod_struct Tryz.underlying43 hf
  match xs,hlen with
  | [y0,y1,y2,y3,y4,y5],_=>
   have g2:=hg 2 _ rfl;have g4:=hg 4 _ rfl;change DataW.trod enc Tryz.prog W 0 (fun _=>true) true m 3 (([c0,c1,c2,c3,c4,c5,c6,c7,c8,c9,c10,c11,c12,c13,c14].drop 2).take (Tryz.prog.cellsOf 3))=some y2 at g2;change DataW.trod enc Tryz.prog W 0 (fun _=>true) true m 9 (([c0,c1,c2,c3,c4,c5,c6,c7,c8,c9,c10,c11,c12,c13,c14].drop 13).take (Tryz.prog.cellsOf 9))=some y4 at g4;rw [hI] at g2;rw [hS] at g4;obtain ⟨n,e2,_,_⟩:=DataW.trod_int Tryz.underlying3 g2;obtain ⟨s,e4,_,w4⟩:=DataW.trod_string Tryz.underlying9 g4;obtain rfl:c2= .int .i64 n:=by simpa using e2
   obtain rfl:c13= .string s:=by simpa using e4
   exact ⟨c0,c1,n,c3,c4,c5,c6,c7,c8,c9,c10,c11,c12,s,c14,rfl,w4⟩
end Go.Proofs.YtecpbcmpncgokaaGreat
