/- 'Rows.LoosePlaysUptoSaid': the law dolmenlaw07.LoosePlays returns true and leaves its arguments as they were, for every input whose arguments hold together at most 1048576 values and letters. -/
import Derived.Test.YtecpbcmpncgokaaGreatFilesF
import Derived.Test.YtecpbcmpncgokaaGreatFrame
import Derived.Test.YtecpbcmpncgokaaGreatOp7
import Derived.Test.YtecpbcmpncgokaaGreatShort
set_option maxRecDepth 100000
set_option linter.unusedVariables false
namespace Go.Proofs.YtecpbcmpncgokaaGreat.loosePlaysUpto
open Go.ChangeShapes Go.WideShapes Go.ChangeAt Go.RowKit Go.Dol
open Go.ChangeMaps (open_string shut_string)
theorem contract (H:Type) (enc:TypeId×Value→H) (W:World) (base:Nat) (args:Array Value) (ds gs:List (DataW H)) (before:List MemPlace)
  (hval0: ∀(j:Nat) t v,Tryz.f9.params[j]?=some t→args[j]?=some v→Value.okWide Tryz.prog W .any base t v)
  (hW:DataW.Whole enc Tryz.prog Tryz.f9.params.toList Rows.loosePlaysSpec.vars false W args.toList ds gs before)
  (hk:Rows.uptoSmall H (ds++gs)=true):
  Calls Tryz.prog 9 args W fun e W'=> ∃v,e= .returned v∧Rows.loosePlaysSpec.post enc Tryz.prog Tryz.f9 false true false false W args v W':=by
 have hval: ∀(j:Nat) t v,Tryz.f9.params[j]?=some t→args[j]?=some v→Value.okWide Tryz.prog W .any base t v:=hval0;have hW':=hW;obtain ⟨p,q,hA0,hV,rfl,hfz,hnd⟩:=hW;have hA:DataW.TrodAll enc Tryz.prog W 0 (fun _=>true) true Tryz.f9.params.toList args.toList ds p:=hA0;rw [Tryz.params9] at hA hval;obtain ⟨v0,vs0,d0,ds0,p0,q0,hargs,rfl,rfl,h0,r0⟩:=trodAll_cons hA;obtain ⟨v1,vs1,d1,ds1,p1,q1,rfl,rfl,rfl,h1,r1⟩:=trodAll_cons r0;obtain ⟨v2,vs2,d2,ds2,p2,q2,rfl,rfl,rfl,h2,r2⟩:=trodAll_cons r1;obtain ⟨rfl,rfl,rfl⟩:=trodAll_nil r2;obtain rfl:args= #[v0,v1,v2]:=by cases args;simp_all
 obtain ⟨rfl,rfl⟩:=trodVars_none hV;obtain ⟨a0,rfl,rfl,rfl,w0⟩:=open_int Tryz.underlying3 (hval 0 3 v0 rfl rfl) h0;obtain ⟨a1,len1,cap1,rfl⟩:=okWide_slice Tryz.underlying22 (hval 1 22 v1 rfl rfl);have k1:=h1;have lt1: ∀x∈p1,x.block<W.heap.size:=by obtain ⟨m,hm⟩:=k1;exact DataW.trod_lt m _ _ _ hm
 obtain ⟨l1,hl1,hr1,hf1,hs1,hd1,hp1⟩:=ZcL a1 len1 cap1 rfl h1;have hn1:=lT (Zaf hk (List.mem_append_left _ (by simp)) hd1) (by decide:1048576≤3518437208780);have hc1:=ZbF hk (List.mem_append_left _ (by simp)) hp1;subst hl1;obtain ⟨a2,len2,cap2,rfl⟩:=okWide_slice Tryz.underlying79 (hval 2 79 v2 rfl rfl);have k2:=h2;have lt2: ∀x∈p2,x.block<W.heap.size:=by obtain ⟨m,hm⟩:=k2;exact DataW.trod_lt m _ _ _ hm
 obtain ⟨l2,hl2,hr2,ho2,hd2,hp2⟩:=Zg8 a2 len2 cap2 h2;have hn2:=lT (Zaf hk (List.mem_append_left _ (by simp)) hd2) (by decide:1048576≤140737488351232);have hx2:=Ze7 hk (List.mem_append_left _ (by simp)) hp2;subst hl2;clear hA0 hval0;refine (loosePlays_walk a0 a1 l1 cap1 a2 l2 cap2 W w0 hr1 hf1 hn1 hc1 hr2 ho2 hn2 hx2).mono fun e W' ⟨he,bel⟩=> ?_;subst he;exact ⟨_,rfl,_,_,_,[],_,[],hW',trodAll_mk1 (shut_bool Tryz.underlying4 _),(trodAll_cons_mk (shut_int Tryz.underlying3 w0) (trodAll_cons_mk (Below.trod Zae (by kernel_rfl) (of_decide_eq_true (by kernel_rfl)) k1 bel lt1) (trodAll_cons_mk (Below.trod Zae (by kernel_rfl) (of_decide_eq_true (by kernel_rfl)) k2 bel lt2) trodAll_mk0))),rfl,bel.frame _,fun h=>by cases h⟩
theorem Zg9 (os:Os) (started:os.Started) (H:Type) (enc:TypeId×Value→H) (F:Stop.Interp):
  ReturnsInHanded {} Tryz.checked os 9 .any ((Rows.OpenSpec.upto Rows.loosePlaysSpec).pre6 enc Tryz.prog Tryz.f9 Rows.loosePlaysUptoRow.domain false) (((Rows.OpenSpec.upto Rows.loosePlaysSpec).at F).post enc Tryz.prog Tryz.f9 false true false false):=by
 refine returnsInHanded_of_cond (C:=Tryz.checked) (s:=Rows.OpenSpec.upto Rows.loosePlaysSpec) (k:=Rows.uptoSmall) rfl ZdD started (by kernel_rfl) Tryz.func9
  (OpenSpec.witness (enc:=enc) (C:=Tryz.checked) (s:=Rows.OpenSpec.upto Rows.loosePlaysSpec) (k:=Rows.uptoSmall) rfl false ⟨#[],#[.int .i64 0,.slice none 0 0,.slice none 0 0],[]⟩ 8 (by kernel_rfl) (by kernel_rfl) (by kernel_rfl)
   (x:=([.lit (.int .i64 0),.nil,.nil],[],[])) (by kernel_rfl) rfl (by kernel_rfl)) ?_
 intro W base args ds gs before hval hW _ hk _;exact contract H enc W base args ds gs before hval hW hk
theorem ZgA:(Rows.loosePlaysUptoRow.inPlace==Tryz.prog.inPlace 9)=true:=by kernel_rfl
theorem ZgB:(Rows.loosePlaysUptoRow.unfollowed==Tryz.prog.unfollowed 9)=true:=by kernel_rfl
theorem ZgC:(Rows.loosePlaysUptoRow.recurses==Tryz.prog.recurses 9)=true:=by kernel_rfl
theorem ZgD:(Rows.loosePlaysUptoRow.named==Tryz.prog.varsNamed 9)=true:=by kernel_rfl
theorem ZgE:joinedFacts Tryz.prog 9 Tryz.f9 (Rows.OpenSpec.upto Rows.loosePlaysSpec).bare Rows.loosePlaysUptoRow=true:=by
 unfold joinedFacts;rw [ZgA,ZgB,ZgC,ZgD]
 kernel_rfl
theorem over:Rows.loosePlaysUptoRow.holds Tryz.pinned (Rows.OpenSpec.upto Rows.loosePlaysSpec):=
 OpenClaim.holds_of_cond 9 Tryz.f9 rfl rfl rfl rfl rfl rfl rfl ⟨rfl,rfl,rfl,rfl,rfl⟩ rfl rfl rfl rfl rfl (by kernel_rfl) Tryz.func9 ZgE
  (of_decide_eq_true (by kernel_rfl)) (by unfold Func.isWrapper;first | (rw [if_pos (by decide+kernel)];kernel_rfl) | (rw [if_neg (by decide+kernel)];exact ⟨rfl,rfl⟩))
  (fun os started H enc _ F=>Zg9 os started H enc F)
theorem proved:Rows.LoosePlaysUptoSaid:=over
end Go.Proofs.YtecpbcmpncgokaaGreat.loosePlaysUpto
