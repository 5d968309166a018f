/- 'Rows.StoreNoneSaid': the law dolmenlaw10.StoreNone returns true and leaves its arguments as they were, for every input; no condition. -/
import Derived.Test.YtecpbcmpncgokaaGreatStoreNone
import Derived.Test.YtecpbcmpncgokaaGreatFrame
import Derived.Test.YtecpbcmpncgokaaGreatOp10Frame
import Derived.Test.YtecpbcmpncgokaaGreatShort
set_option maxRecDepth 100000
set_option linter.unusedVariables false
namespace Go.Proofs.YtecpbcmpncgokaaGreat.storeNone
open Go.ChangeShapes Go.WideShapes Go.ChangeAt Go.RowKit Go.Dol
open Go.ChangeMaps (open_string shut_string)
theorem contract (H:Type) (enc:TypeId×Value→H) (W:World) (base:Nat) (args:Array Value) (ds gs:List (DataW H)) (before:List MemPlace)
  (hval0: ∀(j:Nat) t v,Tryz.f13.params[j]?=some t→args[j]?=some v→Value.okWide Tryz.prog W .any base t v)
  (hW:DataW.Whole enc Tryz.prog Tryz.f13.params.toList Rows.storeNoneSpec.vars false W args.toList ds gs before)
  (hsz:(DataW.weightsEach Tryz.prog (Tryz.f13.params.toList++Rows.storeNoneSpec.plain.varTypes Tryz.prog) (ds++gs)).all (· ≤reachBytes)=true):
  Calls Tryz.prog 13 args W fun e W'=> ∃v,e= .returned v∧Rows.storeNoneSpec.post enc Tryz.prog Tryz.f13 false true false false W args v W':=by
 have hval: ∀(j:Nat) t v,Tryz.f13.params[j]?=some t→args[j]?=some v→Value.okWide Tryz.prog W .any base t v:=hval0;have hW':=hW;obtain ⟨p,q,hA0,hV,rfl,hfz,hnd⟩:=hW;have hA:DataW.TrodAll enc Tryz.prog W 0 (fun _=>true) true Tryz.f13.params.toList args.toList ds p:=hA0;rw [Tryz.params13] at hA hval;obtain ⟨v0,vs0,d0,ds0,p0,q0,hargs,rfl,rfl,h0,r0⟩:=trodAll_cons hA;obtain ⟨rfl,rfl,rfl⟩:=trodAll_nil r0;obtain rfl:args= #[v0]:=by cases args;simp_all
 obtain ⟨rfl,rfl⟩:=trodVars_none hV;have k0:=h0;have lt0: ∀x∈p0,x.block<W.heap.size:=by obtain ⟨m,hm⟩:=k0;exact DataW.trod_lt m _ _ _ hm
 obtain ⟨x0,x1,n,x3,x4,x5,x6,x7,x8,x9,x10,x11,x12,id,x14,rfl,hid⟩:=Zhv (hval 0 43 v0 rfl rfl) h0;clear hA0 hval0;refine (storeNone_walk x0 x1 n x3 x4 x5 x6 x7 x8 x9 x10 x11 x12 id x14 W hid).mono fun e W' ⟨he,bel⟩=> ?_;subst he;exact ⟨_,rfl,_,_,_,[],_,[],hW',trodAll_mk1 (shut_bool Tryz.underlying4 _),(trodAll_cons_mk (Below.trod ZfA (by kernel_rfl) (of_decide_eq_true (by kernel_rfl)) k0 bel lt0) trodAll_mk0),rfl,bel.frame _,fun h=>by cases h⟩
theorem Zip (os:Os) (started:os.Started) (H:Type) (enc:TypeId×Value→H):
  ReturnsInHanded {} Tryz.checked os 13 .any (Rows.storeNoneSpec.pre6 enc Tryz.prog Tryz.f13 Rows.storeNoneRow.domain false) (Rows.storeNoneSpec.post enc Tryz.prog Tryz.f13 false true false false):=by
 refine returnsInHanded_of_change_sized (C:=Tryz.checked) Zfz started (by kernel_rfl) Tryz.func13
  (ChangeSpec.witness6 (enc:=enc) (C:=Tryz.checked) false ⟨#[],#[.agg #[.int .i64 0,.int .i64 0,.int .i64 0,.int .i64 0,.slice none 0 0,.slice none 0 0,.string ByteArray.empty,.slice none 0 0,.string ByteArray.empty,.string ByteArray.empty,.string ByteArray.empty,.int .i64 0,.string ByteArray.empty,.string ByteArray.empty,.slice none 0 0]],[]⟩ 8 (by kernel_rfl) (by kernel_rfl) (by kernel_rfl) (by kernel_rfl)) ?_
 intro W base args ds gs before hval hW _ hsz _;exact contract H enc W base args ds gs before hval hW hsz
theorem ZiM:(Rows.storeNoneRow.inPlace==Tryz.prog.inPlace 13)=true:=by kernel_rfl
theorem ZiN:(Rows.storeNoneRow.unfollowed==Tryz.prog.unfollowed 13)=true:=by kernel_rfl
theorem ZiO:(Rows.storeNoneRow.recurses==Tryz.prog.recurses 13)=true:=by kernel_rfl
theorem ZiP:(Rows.storeNoneRow.named==Tryz.prog.varsNamed 13)=true:=by kernel_rfl
theorem ZiQ:joinedFacts Tryz.prog 13 Tryz.f13 Rows.storeNoneSpec Rows.storeNoneRow=true:=by
 unfold joinedFacts;rw [ZiM,ZiN,ZiO,ZiP]
 kernel_rfl
theorem over:Rows.storeNoneRow.holds Tryz.pinned (OpenSpec.ofChange Rows.storeNoneSpec):=
 OpenClaim.holds_of_wide 13 Tryz.f13 rfl rfl rfl rfl rfl rfl rfl ⟨rfl,rfl,rfl,rfl,rfl⟩ rfl rfl rfl rfl rfl (by kernel_rfl) Tryz.func13 ZiQ
  (of_decide_eq_true (by kernel_rfl)) (by unfold Func.isWrapper;first | (rw [if_pos (by decide+kernel)];kernel_rfl) | (rw [if_neg (by decide+kernel)];exact ⟨rfl,rfl⟩))
  (fun os started H enc _=>Zip os started H enc)
theorem proved:Rows.StoreNoneSaid:=over
end Go.Proofs.YtecpbcmpncgokaaGreat.storeNone
