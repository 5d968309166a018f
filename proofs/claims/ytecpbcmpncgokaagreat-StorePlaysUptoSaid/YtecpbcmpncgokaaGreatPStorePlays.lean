/- 'Rows.StorePlaysUptoSaid': the law dolmenlaw10.StorePlays returns true and leaves its arguments as they were, for every input whose arguments hold together at most 1048576 values and letters. -/
import Derived.Test.YtecpbcmpncgokaaGreatStorePlays
set_option maxRecDepth 99999
set_option maxHeartbeats 25600000
set_option linter.all false
open Go.Proofs.Tryz renaming prog->an
namespace Go.Proofs.YtecpbcmpncgokaaGreat.storePlaysUpto
open Go.ChangeShapes Go.WideShapes Go.ChangeAt Go.RowKit Go.Dol
open Go.ChangeMaps (open_string shut_string)
theorem contract (H:Type) (enc:TypeId×Value->H) (a:World) (base:Nat) (args:Array Value) (e gs:List (DataW H)) (D:List MemPlace)
  (k: ∀(j:Nat) b v,Tryz.f4.params[j]?=some b->args[j]?=some v->Value.okWide an a .any base b v)
  (l:DataW.Whole enc an Tryz.f4.params.toList Rows.storePlaysSpec.vars false a args.toList e gs D)
  (c:Rows.uptoSmall H (e++gs)=true):
  Calls an 4 args a fun m n=> ∃v,m= .returned v/\Rows.storePlaysSpec.post enc an Tryz.f4 false true false false a args v n:=by
 have d: ∀(j:Nat) b v,Tryz.f4.params[j]?=some b->args[j]?=some v->Value.okWide an a .any base b v:=k;have E:=l;obtain ⟨F,l0,o,G,rfl,m0,n0⟩:=l;have p:DataW.TrodAll enc an a 0 (fun _=>true) true Tryz.f4.params.toList args.toList e F:=o;rw [Tryz.params4] at p d;obtain ⟨q,o0,p0,q0,r0,s0,t0,rfl,rfl,I,J⟩:=trodAll_cons p;obtain ⟨r,u0,v0,w0,K,x0,rfl,rfl,rfl,s,L⟩:=trodAll_cons J;obtain ⟨t,y0,z0,A0,M,B0,rfl,rfl,rfl,u,N⟩:=trodAll_cons L;obtain ⟨rfl,rfl,rfl⟩:=trodAll_nil N;obtain rfl:args= #[q,r,t]:=by cases args;simp_all
 obtain ⟨rfl,rfl⟩:=trodVars_none G;obtain ⟨O,rfl,rfl,rfl,w⟩:=open_int B9 (d 0 3 q rfl rfl) I;obtain ⟨x,P,y,rfl⟩:=okWide_slice N7 (d 1 22 r rfl rfl);have z:=s;have Q: ∀f∈K,f.block<a.heap.size:=by obtain ⟨g,h⟩:=z;exact PE g _ _ _ h
 obtain ⟨R,S,T,U,C0,V,W⟩:=sQ x P y rfl s;have X:=li c (K7 _ (by simp)) V;have Y:=sT c (K7 _ (by simp)) W;subst S;obtain ⟨A,Z,B,rfl⟩:=okWide_slice Tryz.underlying23 (d 2 23 t rfl rfl);have C:=u;have a0: ∀f∈M,f.block<a.heap.size:=by obtain ⟨g,h⟩:=C;exact PE g _ _ _ h
 obtain ⟨b0,c0,d0,e0,f0,g0⟩:=vr A Z B u;have h0:=lT (li c (K7 _ (by simp)) f0) (by decide:1048576<=140737488351232);have i0:=vu c (K7 _ (by simp)) g0;subst c0;clear o k;refine (FZ O x R y A b0 B a w T U X Y d0 e0 h0 i0).mono fun m n ⟨j0,i⟩=> ?_;subst j0;exact ⟨_,rfl,_,_,_,[],_,[],E,trodAll_mk1 (shut_bool Ob _),(trodAll_cons_mk (shut_int B9 w) (trodAll_cons_mk (Below.trod lh qkR (of_decide_eq_true qkR) z i Q) (trodAll_cons_mk (Below.trod lh qkR (of_decide_eq_true qkR) C i a0) trodAll_mk0))),rfl,i.frame _,fun k0=>by cases k0⟩
theorem lifted (os:Os) (a:os.Started) (H:Type) (enc:TypeId×Value->H) (b:Stop.Interp):
  ReturnsInHanded {} Tryz.checked os 4 .any ((Rows.OpenSpec.upto Rows.storePlaysSpec).pre6 enc an Tryz.f4 Rows.storePlaysUptoRow.domain false) (((Rows.OpenSpec.upto Rows.storePlaysSpec).at b).post enc an Tryz.f4 false true false false):=by
 refine returnsInHanded_of_cond (C:=Tryz.checked) (s:=Rows.OpenSpec.upto Rows.storePlaysSpec) (k:=Rows.uptoSmall) rfl sU a qkR Tryz.func4
  (OpenSpec.witness (enc:=enc) (C:=Tryz.checked) (s:=Rows.OpenSpec.upto Rows.storePlaysSpec) (k:=Rows.uptoSmall) rfl false ⟨#[],#[.int .i64 0,.slice none 0 0,.slice none 0 0],[]⟩ 8 qkR qkR qkR
   (x:=([.lit (.int .i64 0),.nil,.nil],[],[])) qkR rfl qkR) ?_
 intro c d e f g h i j _ l _;exact contract H enc c d e f g h i j l
theorem fact1:(Rows.storePlaysUptoRow.inPlace==an.inPlace 4)=true:=qkR
theorem fact2:(Rows.storePlaysUptoRow.unfollowed==an.unfollowed 4)=true:=qkR
theorem fact3:(Rows.storePlaysUptoRow.recurses==an.recurses 4)=true:=qkR
theorem fact4:(Rows.storePlaysUptoRow.named==an.varsNamed 4)=true:=qkR
theorem facts:joinedFacts an 4 Tryz.f4 (Rows.OpenSpec.upto Rows.storePlaysSpec).bare Rows.storePlaysUptoRow=true:=by
 unfold joinedFacts;rw [fact1,fact2,fact3,fact4]
 kernel_rfl
theorem over:Rows.storePlaysUptoRow.holds Tryz.pinned (Rows.OpenSpec.upto Rows.storePlaysSpec):=
 OpenClaim.holds_of_cond 4 Tryz.f4 rfl rfl rfl rfl rfl rfl rfl ⟨rfl,rfl,rfl,rfl,rfl⟩ rfl rfl rfl rfl rfl qkR Tryz.func4 facts
  (of_decide_eq_true qkR) (by unfold Func.isWrapper;first | (rw [if_pos (by decide+kernel)];kernel_rfl) | (rw [if_neg (by decide+kernel)];exact ⟨rfl,rfl⟩))
  (fun a b c d _ e=>lifted a b c d e)
theorem proved:Rows.StorePlaysUptoSaid:=over
