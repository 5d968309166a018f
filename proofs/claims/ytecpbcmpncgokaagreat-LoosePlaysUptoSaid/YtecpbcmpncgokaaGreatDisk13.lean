/- The library's contracts on slices.Sorted(maps.Keys(m)), at this seat. Conditions: as the library's. The walk of the layer 'disk': its names, in order. Conditions: a disk in good order. -/
import Derived.Shelf.SlIter.Nil
import Derived.Shelf.SortM.Plain
import Derived.Shelf.SortM.SortNone
import Derived.Ground.GgzProg
import Derived.Ground.SlgmProg
import Derived.Test.YtecpbcmpncgokaaGreatRows
import Derived.Test.YtecpbcmpncgokaaGreatShort
import Derived.Test.YtecpbcmpncgokaaGreatTw
import Derived.Test.YtecpbcmpncgokaaGreatDiskLaw
set_option linter.unusedVariables false
namespace Go.Proofs.YtecpbcmpncgokaaGreat
open Go.RowKit Go.Maps Go.Sort Go.Shelf
def Z8D:Go.Shelf.Ren:=⟨fun | 7=>133 | 10=>206 | n=>n,fun | 23=>140 | 26=>9 | 3=>36 | 28=>170 | 0=>0 | 27=>169 | 33=>104 | 4=>4 | n=>n,fun | n=>n⟩
theorem ZfF:Go.Proofs.SlLaysZ.n7 Tryz.prog Z8D:={
  mixed:=by kernel_rfl
  f7:=⟨Tryz.f133.name,by decide,Tryz.func133.trans (congrArg some (by kernel_rfl))⟩
  f10:=⟨Tryz.f206.name,by decide,Tryz.func206.trans (congrArg some (by kernel_rfl))⟩
  t0:=Tryz.underlying0
  a0:=Tryz.isAgg0
  z0:=Tryz.sizeOf0
  v0:=Tryz.zeroValue0
  t4:=Tryz.underlying4
  a4:=Tryz.isAgg4
  z4:=Tryz.sizeOf4
  v4:=Tryz.zeroValue4
  t23:=Tryz.underlying140
  a23:=Tryz.isAgg140
  z23:=Tryz.sizeOf140
  v23:=Tryz.zeroValue140
  t26:=Tryz.underlying9
  a26:=Tryz.isAgg9
  z26:=Tryz.sizeOf9
  v26:=Tryz.zeroValue9
  t27:=Tryz.underlying169
  a27:=Tryz.isAgg169
  z27:=Tryz.sizeOf169
  v27:=Tryz.zeroValue169
  t28:=Tryz.underlying170
  a28:=Tryz.isAgg170
  z28:=Tryz.sizeOf170
  v28:=Tryz.zeroValue170
  t33:=Tryz.underlying104
  a33:=Tryz.isAgg104
  z33:=Tryz.sizeOf104
  v33:=Tryz.zeroValue104 }
def Z6g:Go.Shelf.Ren:=⟨fun | 6=>132 | 8=>114 | 9=>83 | 11=>182 | 13=>155 | 12=>154 | 23=>225 | 24=>226 | 14=>216 | 15=>217 | 16=>218 | 17=>219 | 18=>220 | 19=>221 | 20=>222 | 21=>223 | 22=>224 | 25=>263 | 26=>264 | 27=>265 | 28=>266 | 29=>267 | 30=>268 | 31=>283 | n=>n,fun | 26=>9 | 28=>170 | 24=>38 | 0=>0 | 3=>3 | 37=>202 | 48=>128 | 50=>249 | 4=>4 | 40=>282 | 39=>281 | 45=>209 | 5=>5 | 9=>9 | 51=>313 | 55=>317 | 57=>324 | 58=>234 | 33=>104 | n=>n,fun | n=>n⟩
theorem Zf3:Go.Proofs.SlLaysZ.n6 Tryz.prog Z6g:={
  mixed:=by kernel_rfl
  f6:=⟨Tryz.f132.name,by decide,Tryz.func132.trans (congrArg some (by kernel_rfl))⟩
  f8:=⟨Tryz.f114.name,by decide,Tryz.func114.trans (congrArg some (by kernel_rfl))⟩
  f11:=⟨Tryz.f182.name,by decide,Tryz.func182.trans (congrArg some (by kernel_rfl))⟩
  t0:=Tryz.underlying0
  a0:=Tryz.isAgg0
  z0:=Tryz.sizeOf0
  v0:=Tryz.zeroValue0
  t24:=Tryz.underlying38
  a24:=Tryz.isAgg38
  z24:=Tryz.sizeOf38
  v24:=Tryz.zeroValue38
  t26:=Tryz.underlying9
  a26:=Tryz.isAgg9
  z26:=Tryz.sizeOf9
  v26:=Tryz.zeroValue9
  t28:=Tryz.underlying170
  a28:=Tryz.isAgg170
  z28:=Tryz.sizeOf170
  v28:=Tryz.zeroValue170
  i26:=by kernel_rfl }
def ZcN:Go.Shelf.Ren:=⟨fun | 6=>83 | 8=>155 | 9=>154 | 19=>225 | 20=>226 | 21=>216 | 22=>217 | 23=>218 | 24=>219 | 25=>220 | 26=>221 | 27=>222 | 28=>223 | 29=>224 | 36=>263 | 31=>264 | 32=>265 | 37=>266 | 38=>267 | 39=>268 | 41=>283 | n=>n,fun | 27=>38 | 29=>9 | 3=>3 | 32=>202 | 26=>38 | 0=>0 | 44=>128 | 46=>249 | 4=>4 | 36=>282 | 35=>281 | 41=>209 | 5=>5 | 9=>9 | 53=>313 | 57=>317 | 63=>324 | 64=>234 | n=>n,fun | n=>n⟩
theorem ZfG:Go.Proofs.SlLaysM.n6 Tryz.prog ZcN:={
  mixed:=by kernel_rfl
  f6:=⟨Tryz.f83.name,by decide,Tryz.func83.trans (congrArg some (by kernel_rfl))⟩
  f8:=Tryz.func155.trans (congrArg some (by kernel_rfl))
  f9:=⟨Tryz.f154.name,by decide,Tryz.func154.trans (congrArg some (by kernel_rfl))⟩
  f19:=Tryz.func225.trans (congrArg some (by kernel_rfl))
  f20:=Tryz.func226.trans (congrArg some (by kernel_rfl))
  f21:=⟨Tryz.f216.name,by decide,Tryz.func216.trans (congrArg some (by kernel_rfl))⟩
  f22:=⟨Tryz.f217.name,by decide,Tryz.func217.trans (congrArg some (by kernel_rfl))⟩
  f23:=⟨Tryz.f218.name,by decide,Tryz.func218.trans (congrArg some (by kernel_rfl))⟩
  f24:=⟨Tryz.f219.name,by decide,Tryz.func219.trans (congrArg some (by kernel_rfl))⟩
  f25:=⟨Tryz.f220.name,by decide,Tryz.func220.trans (congrArg some (by kernel_rfl))⟩
  f26:=⟨Tryz.f221.name,by decide,Tryz.func221.trans (congrArg some (by kernel_rfl))⟩
  f27:=⟨Tryz.f222.name,by decide,Tryz.func222.trans (congrArg some (by kernel_rfl))⟩
  f28:=⟨Tryz.f223.name,by decide,Tryz.func223.trans (congrArg some (by kernel_rfl))⟩
  f29:=⟨Tryz.f224.name,by decide,Tryz.func224.trans (congrArg some (by kernel_rfl))⟩
  f31:=Tryz.func264.trans (congrArg some (by kernel_rfl))
  f32:=Tryz.func265.trans (congrArg some (by kernel_rfl))
  f36:=⟨Tryz.f263.name,by decide,Tryz.func263.trans (congrArg some (by kernel_rfl))⟩
  f37:=⟨Tryz.f266.name,by decide,Tryz.func266.trans (congrArg some (by kernel_rfl))⟩
  f38:=⟨Tryz.f267.name,by decide,Tryz.func267.trans (congrArg some (by kernel_rfl))⟩
  f39:=⟨Tryz.f268.name,by decide,Tryz.func268.trans (congrArg some (by kernel_rfl))⟩
  f41:=⟨Tryz.f283.name,by decide,Tryz.func283.trans (congrArg some (by kernel_rfl))⟩
  t0:=Tryz.underlying0
  a0:=Tryz.isAgg0
  z0:=Tryz.sizeOf0
  v0:=Tryz.zeroValue0
  t3:=Tryz.underlying3
  a3:=Tryz.isAgg3
  z3:=Tryz.sizeOf3
  v3:=Tryz.zeroValue3
  t4:=Tryz.underlying4
  a4:=Tryz.isAgg4
  z4:=Tryz.sizeOf4
  v4:=Tryz.zeroValue4
  t5:=Tryz.underlying5
  a5:=Tryz.isAgg5
  z5:=Tryz.sizeOf5
  v5:=Tryz.zeroValue5
  t9:=Tryz.underlying9
  a9:=Tryz.isAgg9
  z9:=Tryz.sizeOf9
  v9:=Tryz.zeroValue9
  t26:=Tryz.underlying38
  a26:=Tryz.isAgg38
  z26:=Tryz.sizeOf38
  v26:=Tryz.zeroValue38
  t27:=Tryz.underlying38
  a27:=Tryz.isAgg38
  z27:=Tryz.sizeOf38
  v27:=Tryz.zeroValue38
  t29:=Tryz.underlying9
  a29:=Tryz.isAgg9
  z29:=Tryz.sizeOf9
  v29:=Tryz.zeroValue9
  t32:=Tryz.underlying202
  a32:=Tryz.isAgg202
  z32:=Tryz.sizeOf202
  v32:=Tryz.zeroValue202
  t35:=Tryz.underlying281
  a35:=Tryz.isAgg281
  z35:=Tryz.sizeOf281
  v35:=Tryz.zeroValue281
  t36:=Tryz.underlying282
  a36:=Tryz.isAgg282
  z36:=Tryz.sizeOf282
  v36:=Tryz.zeroValue282
  t41:=Tryz.underlying209
  a41:=Tryz.isAgg209
  z41:=Tryz.sizeOf209
  v41:=Tryz.zeroValue209
  t44:=Tryz.underlying128
  a44:=Tryz.isAgg128
  z44:=Tryz.sizeOf128
  v44:=Tryz.zeroValue128
  t46:=Tryz.underlying249
  a46:=Tryz.isAgg249
  z46:=Tryz.sizeOf249
  v46:=Tryz.zeroValue249
  t53:=Tryz.underlying313
  a53:=Tryz.isAgg313
  z53:=Tryz.sizeOf313
  v53:=Tryz.zeroValue313
  t57:=Tryz.underlying317
  a57:=Tryz.isAgg317
  z57:=Tryz.sizeOf317
  v57:=Tryz.zeroValue317
  t63:=Tryz.underlying324
  a63:=Tryz.isAgg324
  z63:=Tryz.sizeOf324
  v63:=Tryz.zeroValue324
  t64:=Tryz.underlying234
  a64:=Tryz.isAgg234
  z64:=Tryz.sizeOf234
  v64:=Tryz.zeroValue234 }
theorem ZfS (m:Nat):AnyZ.SortsIn Tryz.prog Z6g Fence.wide m:=
  ⟨fun blk off cap ss W hH hblk hsz=>callsIn_wide.2 (AnyM.slices_Sort_string ZfG blk off cap ss W hH hblk hsz),
   fun p cap W=>callsIn_wide.2 (AnyM.slices_Sort_string_none ZfG p cap W)⟩
theorem ZdF (mb:Option Nat) (W:World):CallsIn Fence.wide 5 Tryz.prog 133 #[.map mb] W fun e w'=>e= .returned (.func (.func 206) #[] #[.pointer (some ⟨W.heap.size,0,none⟩)])∧w'=W.alloc (.cells #[.map mb] 140):=
  AnyZ.keys_in ZfF Fence.wide 5 trivial rfl mb W
set_option maxHeartbeats 1000000 in
theorem ZbH {H:Type} (b nn:Nat) (D0:DataW H) (R:Value→Option (DataW H×List MemPlace)) (w:World) (hown:w.ownsMap Tryz.prog 9 R b nn D0) (hmax:Maps.size D0≤maxLen) (hbytes:Maps.size D0*16≤140737488355328):
    CallsIn Fence.wide 5 Tryz.prog 132 #[.func (.func 206) #[] #[.pointer (some ⟨w.heap.size,0,none⟩)]] (w.alloc (.cells #[.map (some b)] 140)) fun e w'=> ∃(v:Value) (ss:List (LU)),e= .returned v∧ss.Perm (strKeys D0)∧
      w'.ownsRow (w.alloc (.cells #[.map (some b)] 140)).heap.size 9 1 v ss.length ((ss.mergeSort (fun x y=>decide (x≤y))).map encStr)∧(v= .slice none 0 0↔ss=[])∧Below (w.alloc (.cells #[.map (some b)] 140)).heap.size (w.alloc (.cells #[.map (some b)] 140)) w':=by
  have hbl:=hown.lt;have hseq:SeqGives Fence.wide 2 Tryz.prog 206 #[.pointer (some ⟨w.heap.size,0,none⟩)] encStr (fun ss=>ss.Perm (strKeys D0)) (Maps.size D0) (w.alloc (.cells #[.map (some b)] 140)):=
    AnyZ.keys_gives (ρ:=Z8D) { ZfF with } Fence.wide _ trivial rfl (by omega) w.heap.size b nn D0 _ (by simp) (by simp) (by
      obtain ⟨es,clock,hb,Ft,hs,hD⟩:=hown
      exact ⟨es,clock,(Below.heap_alloc _ _ b hbl).trans hb,Ft,hs,hD⟩)
  exact AnyZ.sorted_in Zf3 Fence.wide 5 trivial trivial trivial trivial rfl (by omega) (ZfS _) (enters_of Tryz.func83 (by kernel_rfl) rfl) 206 #[.pointer (some ⟨w.heap.size,0,none⟩)] trivial (enters_of Tryz.func206 (by kernel_rfl) rfl) _ _ hmax hbytes _ hseq
end Go.Proofs.YtecpbcmpncgokaaGreat
set_option linter.unusedVariables false
namespace Go.Dol
open Go.RowKit Go.MapKept Go.Maps
open Go.WideElems (Fit rd rg)
theorem Z9b {l:List Fil} (h:InOrder l) {ss:List (LU)} (hp:ss.Perm (l.map fun f=>f.1.data.toList)):(ss.mergeSort fun x y=>decide (x≤y))=l.map fun f=>f.1.data.toList:=by
 have tr: ∀a b c:LU,decide (a≤b)=true→decide (b≤c)=true→decide (a≤c)=true:=fun a b c h1 h2=>dT (List.le_trans (of_decide_eq_true h1) (of_decide_eq_true h2));have to: ∀a b:LU,(decide (a≤b)||decide (b≤a))=true:=fun a b=>by
  rcases List.le_total a b with h | h<;>simp [h]
 refine List.Perm.eq_of_pairwise (le:=fun a b=>decide (a≤b)=true) (fun a b _ _ h1 h2=>List.le_antisymm (of_decide_eq_true h1) (of_decide_eq_true h2)) (List.pairwise_mergeSort tr to ss) ?_ ((List.mergeSort_perm ss _).trans hp);rw [List.pairwise_map];exact h.imp fun {a b} hab=>by
  unfold sLt at hab;exact dT (List.le_of_lt (of_decide_eq_true hab))
end Go.Dol
namespace Go.Proofs.YtecpbcmpncgokaaGreat
open Go.RowKit Go.Dol
def Z73 (w:World) (D:Dk) (e:Ending) (w':World):Prop:=
 ∃A c,e= .returned (.slice A D.l.length c)∧w'.ownsRow w.heap.size 9 1 (.slice A D.l.length c) D.l.length (sc (D.l.map Prod.fst))∧Below w.heap.size w w'
section
variable {w:World} {g m:Nat} {D:Dk}
theorem Dsk.sorted (h:Dsk w g m D) (hK:OkL D):Calls Tryz.prog 132 #[.func (.func 206) #[] #[.pointer (some ⟨w.heap.size,0,none⟩)]] (w.alloc (.cells #[.map (some m)] 140)) (Z73 w D):=by
 obtain ⟨al,hB,hM,M,hal,hby,hp⟩:=h;have hlen:al.length=D.l.length:=by rw [hal,List.length_map,←hp.length_eq,List.length_map]
 have hle:=hK.len;obtain ⟨D0,hown,hsz,hkeys⟩:=hM.owns Tryz.underlying9 (by unfold maxLen;omega);refine ((callsIn_wide (n:=5)).1 (ZbH m al.length D0 _ w hown (by unfold maxLen;omega) (by omega))).mono ?_;rintro e w' ⟨v,ss,rfl,hS,hrow,_,hb⟩;have hns:al.map Prod.fst=((M.map Prod.fst).map Prod.fst).map Value.string:=by
  rw [hal,List.map_map,List.map_map,List.map_map]
  rfl
 have hperm:ss.Perm (D.l.map fun f=>f.1.data.toList):=by
  refine hS.trans ((hkeys _ hns).trans ?_);rw [List.map_map];exact hp.map _
 have hsl:ss.length=D.l.length:=by rw [hperm.length_eq,List.length_map]
 rw [Z9b hK.ord hperm,List.map_map,hsl] at hrow;have hxs:(D.l.map (Go.Proofs.encStr∘fun f=>f.1.data.toList))=sc (D.l.map Prod.fst):=by
  unfold sc;rw [List.map_map];exact List.map_congr_left fun f _=>rfl
 rw [hxs] at hrow;have hbl:Below w.heap.size w w':=((bR _ _).alloc (lR _) _).trans (hb.mono (by simp));have hrow':w'.ownsRow w.heap.size 9 1 v D.l.length (sc (D.l.map Prod.fst)):=World.ownsRow.mono hrow (by simp);have hv: ∃A c,v= .slice A D.l.length c:=by
  rcases hrow'.2 with ⟨rfl,h0⟩ | ⟨q,cap,cur,rfl,_⟩
  ·exact ⟨none,0,by rw [h0]⟩
  ·exact ⟨_,cap,rfl⟩
 obtain ⟨A,c,rfl⟩:=hv;exact ⟨A,c,rfl,hrow',hbl⟩
theorem Zby (mb:Option Nat) (W:World):Calls Tryz.prog 133 #[.map mb] W fun e w'=>e= .returned (.func (.func 206) #[] #[.pointer (some ⟨W.heap.size,0,none⟩)])∧w'=W.alloc (.cells #[.map mb] 140):=
 (callsIn_wide (n:=5)).1 (ZdF mb W)
set_option maxRecDepth 100000 in
set_option maxHeartbeats 800000 in
theorem Z5c (h:Dsk w g m D) (hK:OkL D):Calls Tryz.prog 59 #[.pointer (some ⟨g,0,none⟩)] w (Z73 w D):=by
 obtain ⟨k0,k1,k2,k3,k4,k5⟩:=h.cells;have HS:=qI (h.sorted hK);have HK:=qI (Zby (some m) w);go_in
 go_wp2_with (first
  | (go_at_call 88;refine (ZA h).mono ?_;rintro e w' ⟨rfl,hw⟩;obtain rfl:=hw.symm)
  | (go_at_call 133;refine HK.out.mono ?_;rintro e w' ⟨rfl,rfl⟩)
  | (go_at_call 132;refine HS.out.mono ?_;rintro e w' ⟨A,c,rfl,ho,hb⟩))
 go_ret;exact ⟨A,c,rfl,ho,hb⟩
end
end Go.Proofs.YtecpbcmpncgokaaGreat
