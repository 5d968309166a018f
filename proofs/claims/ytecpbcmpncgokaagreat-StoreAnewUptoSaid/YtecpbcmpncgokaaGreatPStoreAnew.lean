/- 'Rows.StoreAnewUptoSaid': the law dolmenlaw10.StoreAnew returns true and leaves its arguments as they were, for every input whose arguments hold together at most 1048576 values and letters. -/
import Derived.Test.YtecpbcmpncgokaaGreatStoreAnew
set_option maxRecDepth 99999
set_option maxHeartbeats 25600000
set_option linter.all false
open Go.Proofs.Tryz renaming prog->an
namespace Go.Proofs.YtecpbcmpncgokaaGreat.storeAnewUpto
open Go.ChangeShapes Go.WideShapes Go.ChangeAt Go.RowKit Go.Dol
open Go.ChangeMaps (open_string shut_string)
theorem contract (H:Type) (enc:TypeId×Value->H) (a:World) (base:Nat) (args:Array Value) (d gs:List (DataW H)) (B:List MemPlace)
  (k: ∀(j:Nat) b v,Tryz.f3.params[j]?=some b->args[j]?=some v->Value.okWide an a .any base b v)
  (l:DataW.Whole enc an Tryz.f3.params.toList Rows.storeAnewSpec.vars false a args.toList d gs B)
  (c:Rows.uptoSmall H (d++gs)=true):
  Calls an 3 args a fun m n=> ∃v,m= .returned v/\Rows.storeAnewSpec.post enc an Tryz.f3 false true false false a args v n:=by
 have e: ∀(j:Nat) b v,Tryz.f3.params[j]?=some b->args[j]?=some v->Value.okWide an a .any base b v:=k;have C:=l;obtain ⟨D,g0,o,E,rfl,h0,i0⟩:=l;have p:DataW.TrodAll enc an a 0 (fun _=>true) true Tryz.f3.params.toList args.toList d D:=o;rw [Tryz.params3] at p e;obtain ⟨q,j0,k0,l0,F,m0,n0,rfl,rfl,r,G⟩:=trodAll_cons p;obtain ⟨s,o0,p0,q0,I,r0,rfl,rfl,rfl,t,J⟩:=trodAll_cons G;obtain ⟨rfl,rfl,rfl⟩:=trodAll_nil J;obtain rfl:args= #[q,s]:=by cases args;simp_all
 obtain ⟨rfl,rfl⟩:=trodVars_none E;obtain ⟨u,K,w,rfl⟩:=okWide_slice N7 (e 0 22 q rfl rfl);have x:=r;have L: ∀f∈F,f.block<a.heap.size:=by obtain ⟨g,h⟩:=x;exact PE g _ _ _ h
 obtain ⟨M,N,O,P,s0,Q,R⟩:=sQ u K w rfl r;have S:=li c (K7 _ (by simp)) Q;have T:=sT c (K7 _ (by simp)) R;subst N;obtain ⟨y,U,z,rfl⟩:=okWide_slice Tryz.underlying23 (e 1 23 s rfl rfl);have A:=t;have V: ∀f∈I,f.block<a.heap.size:=by obtain ⟨g,h⟩:=A;exact PE g _ _ _ h
 obtain ⟨W,X,Y,Z,a0,b0⟩:=vr y U z t;have c0:=lT (li c (K7 _ (by simp)) a0) (by decide:1048576<=140737488351232);have d0:=vu c (K7 _ (by simp)) b0;subst X;clear o k;refine (FY u M w y W z a O P S T Y Z c0 d0).mono fun m n ⟨e0,i⟩=> ?_;subst e0;exact ⟨_,rfl,_,_,_,[],_,[],C,trodAll_mk1 (shut_bool Ob _),(trodAll_cons_mk (Below.trod lh qkR (of_decide_eq_true qkR) x i L) (trodAll_cons_mk (Below.trod lh qkR (of_decide_eq_true qkR) A i V) trodAll_mk0)),rfl,i.frame _,fun f0=>by cases f0⟩
theorem lifted (os:Os) (a:os.Started) (H:Type) (enc:TypeId×Value->H) (b:Stop.Interp):
  ReturnsInHanded {} Tryz.checked os 3 .any ((Rows.OpenSpec.upto Rows.storeAnewSpec).pre6 enc an Tryz.f3 Rows.storeAnewUptoRow.domain false) (((Rows.OpenSpec.upto Rows.storeAnewSpec).at b).post enc an Tryz.f3 false true false false):=by
 refine returnsInHanded_of_cond (C:=Tryz.checked) (s:=Rows.OpenSpec.upto Rows.storeAnewSpec) (k:=Rows.uptoSmall) rfl sU a qkR Tryz.func3
  (OpenSpec.witness (enc:=enc) (C:=Tryz.checked) (s:=Rows.OpenSpec.upto Rows.storeAnewSpec) (k:=Rows.uptoSmall) rfl false ⟨#[],#[.slice none 0 0,.slice none 0 0],[]⟩ 8 qkR qkR qkR
   (x:=([.nil,.nil],[],[])) qkR rfl qkR) ?_
 intro c d e f g h i j _ l _;exact contract H enc c d e f g h i j l
theorem fact1:(Rows.storeAnewUptoRow.inPlace==an.inPlace 3)=true:=qkR
theorem fact2:(Rows.storeAnewUptoRow.unfollowed==an.unfollowed 3)=true:=qkR
theorem fact3:(Rows.storeAnewUptoRow.recurses==an.recurses 3)=true:=qkR
theorem fact4:(Rows.storeAnewUptoRow.named==an.varsNamed 3)=true:=qkR
theorem facts:joinedFacts an 3 Tryz.f3 (Rows.OpenSpec.upto Rows.storeAnewSpec).bare Rows.storeAnewUptoRow=true:=by
 unfold joinedFacts;rw [fact1,fact2,fact3,fact4]
 kernel_rfl
theorem over:Rows.storeAnewUptoRow.holds Tryz.pinned (Rows.OpenSpec.upto Rows.storeAnewSpec):=
 OpenClaim.holds_of_cond 3 Tryz.f3 rfl rfl rfl rfl rfl rfl rfl ⟨rfl,rfl,rfl,rfl,rfl⟩ rfl rfl rfl rfl rfl qkR Tryz.func3 facts
  (of_decide_eq_true qkR) (by unfold Func.isWrapper;first | (rw [if_pos (by decide+kernel)];kernel_rfl) | (rw [if_neg (by decide+kernel)];exact ⟨rfl,rfl⟩))
  (fun a b c d _ e=>lifted a b c d e)
theorem proved:Rows.StoreAnewUptoSaid:=over
