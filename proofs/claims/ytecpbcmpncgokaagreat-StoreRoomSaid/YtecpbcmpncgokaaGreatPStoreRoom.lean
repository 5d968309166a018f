/- 'Rows.StoreRoomSaid': the law dolmenlaw10.StoreRoom returns true and leaves its arguments as they were, for every input; no condition. -/
import Derived.Test.YtecpbcmpncgokaaGreatStoreRoom
import Derived.Test.YtecpbcmpncgokaaGreatFrame
import Derived.Test.YtecpbcmpncgokaaGreatObsF
import Derived.Test.YtecpbcmpncgokaaGreatShort
set_option maxRecDepth 100000
set_option linter.unusedVariables false
namespace Go.Proofs.YtecpbcmpncgokaaGreat.storeRoom
open Go.ChangeShapes Go.WideShapes Go.ChangeAt Go.RowKit Go.Dol
open Go.ChangeMaps (open_string shut_string)
theorem contract (H:Type) (enc:TypeId×Value→H) (W:World) (base:Nat) (args:Array Value) (ds gs:List (DataW H)) (before:List MemPlace)
  (hval0: ∀(j:Nat) t v,Tryz.f14.params[j]?=some t→args[j]?=some v→Value.okWide Tryz.prog W .any base t v)
  (hW:DataW.Whole enc Tryz.prog Tryz.f14.params.toList Rows.storeRoomSpec.vars false W args.toList ds gs before)
  (hsz:(DataW.weightsEach Tryz.prog (Tryz.f14.params.toList++Rows.storeRoomSpec.plain.varTypes Tryz.prog) (ds++gs)).all (· ≤reachBytes)=true):
  Calls Tryz.prog 14 args W fun e W'=> ∃v,e= .returned v∧Rows.storeRoomSpec.post enc Tryz.prog Tryz.f14 false true false false W args v W':=by
 have hval: ∀(j:Nat) t v,Tryz.f14.params[j]?=some t→args[j]?=some v→Value.okWide Tryz.prog W .any base t v:=hval0;have hW':=hW;obtain ⟨p,q,hA0,hV,rfl,hfz,hnd⟩:=hW;have hA:DataW.TrodAll enc Tryz.prog W 0 (fun _=>true) true Tryz.f14.params.toList args.toList ds p:=hA0;rw [Tryz.params14] at hA hval;obtain ⟨v0,vs0,d0,ds0,p0,q0,hargs,rfl,rfl,h0,r0⟩:=trodAll_cons hA;obtain ⟨v1,vs1,d1,ds1,p1,q1,rfl,rfl,rfl,h1,r1⟩:=trodAll_cons r0;obtain ⟨rfl,rfl,rfl⟩:=trodAll_nil r1;obtain rfl:args= #[v0,v1]:=by cases args;simp_all
 obtain ⟨rfl,rfl⟩:=trodVars_none hV;obtain ⟨a0,len0,cap0,rfl⟩:=okWide_slice Tryz.underlying72 (hval 0 72 v0 rfl rfl);have k0:=h0;have lt0: ∀x∈p0,x.block<W.heap.size:=by obtain ⟨m,hm⟩:=k0;exact DataW.trod_lt m _ _ _ hm
 obtain ⟨l0,hl0,hr0,hx0,hd0,hp0⟩:=Zje a0 len0 cap0 h0;obtain ⟨hn0,ho0⟩:=Zfs (j:=0) hsz rfl rfl hd0 hx0 hp0;subst hl0;obtain ⟨a1,rfl,rfl,rfl,w1⟩:=open_int Tryz.underlying3 (hval 1 3 v1 rfl rfl) h1;clear hA0 hval0;refine (storeRoom_walk a0 l0 cap0 a1 W hr0 ho0 hn0 w1).mono fun e W' ⟨he,bel⟩=> ?_;subst he;exact ⟨_,rfl,_,_,_,[],_,[],hW',trodAll_mk1 (shut_bool Tryz.underlying4 _),(trodAll_cons_mk (Below.trod Zgl (by kernel_rfl) (of_decide_eq_true (by kernel_rfl)) k0 bel lt0) (trodAll_cons_mk (shut_int Tryz.underlying3 w1) trodAll_mk0)),rfl,bel.frame _,fun h=>by cases h⟩
theorem Zjg (os:Os) (started:os.Started) (H:Type) (enc:TypeId×Value→H):
  ReturnsInHanded {} Tryz.checked os 14 .any (Rows.storeRoomSpec.pre6 enc Tryz.prog Tryz.f14 Rows.storeRoomRow.domain false) (Rows.storeRoomSpec.post enc Tryz.prog Tryz.f14 false true false false):=by
 refine returnsInHanded_of_change_sized (C:=Tryz.checked) Zgk started (by kernel_rfl) Tryz.func14
  (ChangeSpec.witness6 (enc:=enc) (C:=Tryz.checked) false ⟨#[],#[.slice none 0 0,.int .i64 0],[]⟩ 8 (by kernel_rfl) (by kernel_rfl) (by kernel_rfl) (by kernel_rfl)) ?_
 intro W base args ds gs before hval hW _ hsz _;exact contract H enc W base args ds gs before hval hW hsz
theorem ZjH:(Rows.storeRoomRow.inPlace==Tryz.prog.inPlace 14)=true:=by kernel_rfl
theorem ZjI:(Rows.storeRoomRow.unfollowed==Tryz.prog.unfollowed 14)=true:=by kernel_rfl
theorem ZjJ:(Rows.storeRoomRow.recurses==Tryz.prog.recurses 14)=true:=by kernel_rfl
theorem ZjK:(Rows.storeRoomRow.named==Tryz.prog.varsNamed 14)=true:=by kernel_rfl
theorem ZjL:joinedFacts Tryz.prog 14 Tryz.f14 Rows.storeRoomSpec Rows.storeRoomRow=true:=by
 unfold joinedFacts;rw [ZjH,ZjI,ZjJ,ZjK]
 kernel_rfl
theorem over:Rows.storeRoomRow.holds Tryz.pinned (OpenSpec.ofChange Rows.storeRoomSpec):=
 OpenClaim.holds_of_wide 14 Tryz.f14 rfl rfl rfl rfl rfl rfl rfl ⟨rfl,rfl,rfl,rfl,rfl⟩ rfl rfl rfl rfl rfl (by kernel_rfl) Tryz.func14 ZjL
  (of_decide_eq_true (by kernel_rfl)) (by unfold Func.isWrapper;first | (rw [if_pos (by decide+kernel)];kernel_rfl) | (rw [if_neg (by decide+kernel)];exact ⟨rfl,rfl⟩))
  (fun os started H enc _=>Zjg os started H enc)
theorem proved:Rows.StoreRoomSaid:=over
end Go.Proofs.YtecpbcmpncgokaaGreat.storeRoom
