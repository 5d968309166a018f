/- The walks of the layer 'pack': are bytes an object's; an object's bytes are few. Conditions: none beyond what each law names. What holds of layer 'loose', in plain Lean: a disk that holds objects alone, and what puts, drops and a cut leave. No program is in sight. Conditions: as each lemma names. The walks of the layer 'loose', its first part: an id's file name; may a disk and an id be. Conditions: an id of at most 2^46 bytes. The walk of the layer 'loose': an object's bytes, by its id. Conditions: a disk in good order; an id of at most 2^46 bytes. -/
import Derived.Test.YtecpbcmpncgokaaGreatDisk2
import Derived.Test.YtecpbcmpncgokaaGreatObjC
import Derived.Test.YtecpbcmpncgokaaGreatShort
import Derived.Test.YtecpbcmpncgokaaGreatStoSpec
import Derived.Test.YtecpbcmpncgokaaGreatIter
import Derived.Test.YtecpbcmpncgokaaGreatDiskM
import Derived.Test.YtecpbcmpncgokaaGreatRefDisk
import Derived.Test.YtecpbcmpncgokaaGreatCodeA
import Derived.Test.YtecpbcmpncgokaaGreatSumA
import Derived.Test.YtecpbcmpncgokaaGreatPressA
set_option linter.unusedVariables false
namespace Go.Proofs.YtecpbcmpncgokaaGreat
open Go.RowKit Go.Dol
theorem ZgO {l:List Ent} (h:Z1K geS l=true):(l.flatMap entB).length≤600000:=by
 have h1:=Z7a entB 143 l fun e he=>by
  obtain ⟨i,hi,rfl⟩:=List.getElem_of_mem he;have hx:=(Z0K h).1 i hi;unfold Z4H at hx;rw [gE hi] at hx;simp only [Bool.and_eq_true,decide_eq_true_eq] at hx;have h0:=Z9w hx.1.1;have h3:=Z0V (s:=l[i].name) (by omega);have h4:=Zq l[i].id;have h5:=hx.1.2;unfold entB;rw [List.length_append,List.length_cons,h4];omega
 have h2:=(Z0K h).2;have h3:l.length*143≤4096*143:=Nat.mul_le_mul_right _ h2;omega
theorem ZeF {o:Go.Dol.Obj} (h:Zf geS o=true):(encO o).length≤1048577:=by
 unfold encO;rw [List.length_cons];rcases Z4Z h with e | e | e | e
 ·rw [if_pos e]
  have:=Z3g e h;omega
 ·rw [if_neg (by omega),if_pos e]
  have h1:=ZgO (Z1o e h);have h3:=Z5 8 o.ents.length (by have:=(Z0K (Z1o e h)).2;omega);unfold Z6x;rw [List.length_append];omega
 ·rw [if_neg (by omega),if_neg (by omega),if_pos e]
  obtain ⟨h1,h2,h3⟩:=Z3h e h;have h4:=Z4Y h2;have h6:=Z5 8 o.pars.length (by have:=(Z1O h2).2;omega);have h7:=Z3j h3;have h8:=Zq o.tree;unfold Z13 at h4;unfold Z7J;simp only [List.length_append];omega
 ·rw [if_neg (by omega),if_neg (by omega),if_neg (by omega)]
  obtain ⟨h1,h2,h3⟩:=Z3i e h;have h7:=Z3j h3;have h8:=Zq o.target;have h9:=Z0V (s:=o.name) (by omega);simp only [List.length_append];omega
theorem Z17: ∀r,Zd geS r=true→r.length≤2097152:=by
 intro r h;unfold Zd at h
 cases hd:decO geS r with
 | none=>rw [hd] at h;cases h
 | some o=>
  obtain ⟨h1,rfl⟩:=Zgu hd;have:=ZeF h1;omega
theorem ZgP {r:LU} (h:Zd geS r=true): ∃k t,r=k::t:=by
 unfold Zd at h
 cases hd:decO geS r with
 | none=>rw [hd] at h;cases h
 | some o=>
  obtain ⟨h1,rfl⟩:=Zgu hd;exact ⟨_,_,rfl⟩
set_option maxRecDepth 100000 in
set_option maxHeartbeats 2000000 in
theorem Z3U (A:OA) (b:LU) (c:Nat) (w:World) (hr:Rd w w.heap.size 1 A b.length (bc b)) (hc:b.length≤c) (hcm:c≤maxLen) (hl:b.length≤140737488351232):
  Calls Tryz.prog 251 #[.slice A b.length c] w fun e w'=>e= .returned (.bool (Zd geS b))∧Below w.heap.size w w':=by
 have hd:=Z24 A b c w hr hc hcm hl;unfold Zd
 cases h:decO geS b with
 | none=>
  rw [h] at hd;go_in;go_wp2_with (go_at_call 96;refine hd.mono ?_);rintro e w1 ⟨rfl,hb1⟩;go_wp2_with fail;go_ret
  first | exact ⟨rfl,hb1.alloc hb1.size _⟩ | exact ⟨rfl,(hb1.alloc hb1.size _).drew⟩
 | some o=>
  rw [h] at hd;go_in;go_wp2_with (go_at_call 96;refine hd.mono ?_);rintro e w1 ⟨k,Ad,d,cd,Ae,en,ce,tr,Ap,pa,cp,ta,na,wh,st,te,ho,rfl,h1,h2,h3,hb1,h4,h5,h6⟩;go_wp2_with fail;go_ret
  first | exact ⟨rfl,hb1.alloc hb1.size _⟩ | exact ⟨rfl,(hb1.alloc hb1.size _).drew⟩
end Go.Proofs.YtecpbcmpncgokaaGreat
set_option linter.unusedVariables false
namespace Go.Dol
theorem Z2x {id:BA} (h:id.size=32):Z4 (Zc id)=true∧Z4 (shd (Zc id))=true∧ZO (Zc id)=false∧(Zc id).size≠0:=by
 have hs:=Z2j id;have hz: ∀x∈(Zc id).data.toList,47≤x.toNat∧x.toNat≤111:=by
  intro x hx;rw [Z09] at hx;rcases List.mem_cons.1 hx with rfl | hx
  ·decide
  ·rcases List.mem_cons.1 hx with rfl | hx
   ·decide
   ·rcases Z3H _ _ hx with h | h<;>omega
 have h0:(Zc id).data.toList.contains 0=false:=by
  rw [Bool.eq_false_iff];intro hc;have:=hz 0 (List.contains_iff_mem.1 hc);have e:(0:UInt8).toNat=0:=rfl;omega
 have hn:Z4 (Zc id)=true:=by
  unfold Z4;rw [h0,hs,h]
  rfl
 have hT:ZO (Zc id)=false:=by
  unfold ZO;refine qF fun e=> ?_;have:=hz 126 (List.mem_of_getLast? e);have e2:(126:UInt8).toNat=126:=rfl;omega
 have hsh:Z4 (shd (Zc id))=true:=by
  have h1:(shd (Zc id)).data.toList=(Zc id).data.toList++[126]:=by
   unfold shd;rw [ByteArray.data_append];simp
  unfold Z4;rw [Z0a,hs,h,h1];have h2:((Zc id).data.toList++[126]).contains 0=false:=by
   rw [Bool.eq_false_iff];intro hc;rcases List.mem_append.1 (List.contains_iff_mem.1 hc) with hm | hm
   ·have:=hz 0 hm
    have e:(0:UInt8).toNat=0:=rfl;omega
   ·cases List.mem_singleton.1 hm
  rw [h2]
  rfl
 exact ⟨hn,hsh,hT,by rw [hs,h];decide⟩
theorem Z9v {a b:BA} (h:a.size=32):Zc a≠shd (Zc b):=fun e=>by
 have h1:=(Z2x h).2.2.1;rw [e] at h1;unfold ZO at h1;have h2:(shd (Zc b)).data.toList.getLast?=some 126:=by
  unfold shd;rw [ByteArray.data_append];simp
 rw [h2] at h1;cases h1
theorem Zia {a b:Bool} {k:Nat} (h1:a=true) (h2:k≠0) (h3:b=false): ¬(a=false∨k=0∨b=true):=by
 rintro (h | h | h)
 ·rw [h1] at h;cases h
 ·exact h2 h
 ·rw [h3] at h;cases h
theorem ZbK (n:BA):ZO (shd n)=true:=by
 unfold ZO shd;rw [ByteArray.data_append];simp
theorem Z3J {l m:List Fil} (hl:InOrder l) (hm:InOrder m) (h: ∀x,Z1 l x=Z1 m x):l=m:=by
 have h1:=Zbk hl hm (fun _=>true) fun x _=>h x;have h2: ∀l:List Fil,(l.filter fun f=>(fun _=>true) f.1)=l:=fun l=>List.filter_eq_self.2 fun _ _=>rfl;rw [h2,h2] at h1;exact h1
theorem ZbL {id:BA} (h:id.size=32):Z0u (Zc id)=some id:=by
 unfold Z0u;rw [Z09];simp only;rw [Z4o];simp only;rw [if_pos (by rw [Array.length_toList];exact h)];cases id;simp [idS]
theorem Z7G {n id:BA} (h:Z0u n=some id):n=Zc id∧id.size=32:=by
 unfold Z0u at h;split at h
 ·rename_i t ht
  split at h
  ·cases h
  ·rename_i q hq
   split at h
   ·rename_i h32
    injection h with h
    subst h;refine ⟨Z3F ?_,by show q.toArray.size=32;rw [List.size_toArray];exact h32⟩;rw [ht,Z09];have:=Z9s t q hq;simp [idS,this]
   ·cases h
 ·cases h
end Go.Dol
namespace Go.Proofs.YtecpbcmpncgokaaGreat
open Go.RowKit Go.Dol
def FO (D:Dk):Prop:=∀ f∈D.l,∃raw,Zd geS raw=true∧f=(Zc (idO raw),Zt raw)
section
variable {D:Dk}
theorem FO.look (h:FO D) (ho:InOrder D.l) {n:BA} {b:LU} (hl:Z1 D.l n=some b): ∃raw,Zd geS raw=true∧n=Zc (idO raw)∧b=Zt raw:=by
 obtain ⟨raw,h1,h2⟩:=h _ ((Zj ho).1 hl);injection h2 with h2 h3
 exact ⟨raw,h1,h2,h3⟩
theorem ZbM {raw:LU} (h:Zd geS raw=true):Z2o (Zt raw) 2097152=some raw:=by
 have:=Z17 raw h;rw [Z88 (by unfold Z02;omega),if_pos (by omega)]
theorem Zdp {id:BA} {raw:LU} (h:Zd geS raw=true) (hid:id=idO raw) (hl:Z1 D.l (Zc id)=some (Zt raw)):getO geS D id= .ok raw:=by
 unfold getO;rw [if_neg (by rw [hid,ZM];simp),hl];simp only;rw [ZbM h];simp only;rw [if_pos ⟨by rw [hid];simp [idO,idS],h⟩]
theorem Z7H {id:BA} (h32:id.size=32) (hl:Z1 D.l (Zc id)=none):getO geS D id= .error 6:=by
 unfold getO;rw [if_neg (by rw [h32];simp),hl]
theorem Zgp {D':Dk} {id:BA} (h:Z1 D'.l (Zc id)=Z1 D.l (Zc id)):getO geS D' id=getO geS D id:=by
 unfold getO;rw [h]
theorem FO.get (h:FO D) (ho:InOrder D.l) {id:BA} (h32:id.size=32):(Z1 D.l (Zc id)=none∧getO geS D id= .error 6)∨ ∃raw,Zd geS raw=true∧id=idO raw∧Z1 D.l (Zc id)=some (Zt raw)∧getO geS D id= .ok raw:=by
 cases hl:Z1 D.l (Zc id) with
 | none=>exact .inl ⟨rfl,Z7H h32 hl⟩
 | some b=>
  obtain ⟨raw,h1,h2,h3⟩:=h.look ho hl;have hid:=Z29 h2;rw [h3] at hl ⊢;exact .inr ⟨raw,h1,hid,rfl,Zdp h1 hid hl⟩
theorem FO.shadow (h:FO D) (ho:InOrder D.l) (id:BA):Z1 D.l (shd (Zc id))=none:=by
 cases hl:Z1 D.l (shd (Zc id)) with
 | none=>rfl
 | some b=>
  obtain ⟨raw,_,h2,_⟩:=h.look ho hl;exact absurd h2.symm (Z9v (ZM raw))
theorem FO.put (h:FO D) (ho:InOrder D.l) {raw:LU} (h1:Zd geS raw=true) {l':List Fil} (hl:l'=putF D.l (Zc (idO raw)) (Zt raw)): ∀f∈l',∃raw,Zd geS raw=true∧f=(Zc (idO raw),Zt raw):=by
 intro f hf;rw [hl] at hf;rcases Z37 f hf with e | hm
 ·exact ⟨raw,h1,e⟩
 ·exact h f hm
theorem Z4p {raw:LU} (h:Zd geS raw=true):(Zt raw).length≤2621449:=by
 have h1:=Z17 raw h;have h2:=Z26 raw (by omega);omega
theorem Zgq (hC:CalmD D) (hF:FO D) {raw:LU} (h1:Zd geS raw=true) (hroom:83+((Zt raw).length:Int)≤frD D):
  (∃b,b≠raw∧getO geS D (idO raw)= .ok b∧putO geS D raw=(.error 7,D))∨(getO geS D (idO raw)= .ok raw∧putO geS D raw=(.ok (idO raw),D))∨
  ∃D',getO geS D (idO raw)= .error 6∧putO geS D raw=(.ok (idO raw),D')∧CalmD D'∧FO D'∧D'.cap=D.cap∧D'.l=putF D.l (Zc (idO raw)) (Zt raw)∧Z1 D.l (Zc (idO raw))=none∧getO geS D' (idO raw)= .ok raw∧
   (∀x,x.size=32→x≠idO raw→getO geS D' x=getO geS D x)∧frD D'=frD D-(82+((Zt raw).length:Int)):=by
 have ho:=hC.ok.ord;have h32:=ZM raw;obtain ⟨b1,b2,b3,b4⟩:=Z2x h32;rcases hF.get ho h32 with ⟨hl,hg⟩ | ⟨r2,g1,g2,g3,g4⟩
 ·refine .inr (.inr ?_)
  have hp:=Z4p h1;have hsz:=Z2j (idO raw);rcases Z6k hC (n:=Zc (idO raw)) (b:=Zt raw) (fun _=>hF.shadow ho _) with e | ⟨_,e,_⟩ | ⟨_,_,_,D',e,L,l1,l2,l3⟩
  ·unfold ZR at e
   rw [if_neg (Zia b2 b4 b3)] at e;split at e
   ·cases (congrArg Prod.fst e)
   ·rw [if_neg (by rw [hF.shadow ho];simp)] at e
    unfold Z2X at e;rw [if_neg (by rw [hsz,h32];omega)] at e;obtain ⟨D2,e2,_⟩:=ZeN hC b2 b4 (hF.shadow ho (idO raw)) (b:=Zt raw) (by rw [hsz,h32];omega);rw [e2] at e;cases (congrArg Prod.fst e)
  ·rw [hsz,h32] at e
   omega
  ·have hl':D'.l=putF D.l (Zc (idO raw)) (Zt raw):=Z3J L.calm.ok.ord (Z05 ho) fun x=>by
    rw [ZL ho]
    by_cases hx:x=Zc (idO raw)
    ·rw [if_pos hx,hx,l1]
    ·rw [if_neg hx]
     by_cases hx2:x=shd (Zc (idO raw))
     ·rw [hx2,l2,hF.shadow ho]
     ·exact l3 x hx hx2
   have hcost:Zg D'.l=Zg D.l+(16+((Zc (idO raw)).size:Int)+(Zt raw).length):=by
    rw [hl',Z9q,Z0x hl];simp only [Z1n];omega
   refine ⟨D',hg,?_,L.calm,hF.put ho h1 hl',L.cap,hl',hl,Zdp h1 rfl l1,fun x hx hne=>Zgp (l3 _ (fun e=>hne (Z29 e)) (Z9v hx)),?_⟩
   ·unfold putO
    rw [if_neg (by rw [h1];simp),hg];simp only;rw [if_neg (by decide),e]
    rfl
   ·rw [hC.free,L.calm.free,L.cap,hcost,hsz,h32]
    omega
 ·by_cases hr:r2=raw
  ·subst hr
   refine .inr (.inl ⟨g4,?_⟩);unfold putO;rw [if_neg (by rw [h1];simp),g4];simp only;rw [if_pos trivial]
  ·refine .inl ⟨r2,hr,g4,?_⟩
   unfold putO;rw [if_neg (by rw [h1];simp),g4];simp only;rw [if_neg hr]
theorem Z7I {id:BA} (ho:InOrder D.l):id∈idsO D↔id.size=32∧(Z1 D.l (Zc id)).isSome=true:=by
 unfold idsO;rw [List.mem_filterMap];constructor
 ·rintro ⟨n,hn,e⟩
  obtain ⟨f,hf,rfl⟩:=List.mem_map.1 hn;obtain ⟨e1,e2⟩:=Z7G e;refine ⟨e2,?_⟩;rw [←e1,(Zj ho).2 (show (f.1,f.2)∈D.l from hf)]
  rfl
 ·rintro ⟨h1,h2⟩
  obtain ⟨b,hb⟩:=Option.isSome_iff_exists.1 h2;exact ⟨Zc id,List.mem_map.2 ⟨_,(Zj ho).1 hb,rfl⟩,ZbL h1⟩
end
end Go.Proofs.YtecpbcmpncgokaaGreat
set_option linter.unusedVariables false
namespace Go.Proofs.YtecpbcmpncgokaaGreat
open Go.RowKit Go.Dol
theorem Z2i (A:OA) (l:LU) (c:Nat) (w:World) (hr:Rd w w.heap.size 1 A l.length (bc l)) (hl:l.length≤140737488355296):
  Calls Tryz.prog 45 #[.slice A l.length c] w fun e w'=>e= .returned (.string (idO l))∧Below w.heap.size w w':=(Z2e A l c w hr hl).mono fun e w' ⟨l',h,he,hb⟩=>⟨by rw [he,h.out];rfl,hb⟩
theorem Zgn (l':LU) (id:BA) (w':World) (e:l'=Z16 id.data.toList) (hl:id.size≤70368744177600):(Op.stringOp .add ⟨#[111,47]⟩ ⟨l'.toArray⟩).run Tryz.prog w'= .ok (.string (Zc id)) w':=by
 rw [show Zc id=(⟨#[111,47]⟩:BA)++⟨l'.toArray⟩ by rw [e];rfl];refine run_string_add_sum w' _ _ ?_;show 2+l'.toArray.size≤_
 rw [List.size_toArray,e,Z1p,Zq];omega
theorem Z3b (id:BA) (w:World) (hl:id.size≤70368744177600):
  Calls Tryz.prog 41 #[.string id] w fun e w'=>e= .returned (.string (Zc id))∧Below w.heap.size w w':=by
 have HX:=Za2 id w hl;go_in;go_wp2_with fail;refine HX.mono ?_;rintro e w1 ⟨l',hl',rfl,hb1⟩;have ad1:=Zgn l' id w1 hl'.out hl;go_wp2_with fail;go_ret;exact ⟨rfl,hb1⟩
section
variable {w:World} {g m:Nat} {D:Dk}
theorem ZiZ (D:Dk):(ZF D ⟨#[111,47]⟩).2≠1:=by
 have hn:Z4 ⟨#[111,47]⟩=true:=by decide
 unfold ZF;rw [if_neg (by rw [hn];decide)];split<;>simp
theorem Z3I (h:Dsk w g m D) (hK:OkW D) (id:BA):
  Calls Tryz.prog 97 #[.pointer (some ⟨g,0,none⟩),.string id] w fun e w'=>e= .returned (.bool (decide (id.size=32)))∧Below w.heap.size w w':=by
 have HR:=qI (ZS h hK.ord ⟨#[111,47]⟩ (fun b hb=>hK.small' hb));have h1:=ZiZ D;obtain ⟨r,hr⟩: ∃r,r=ZF D ⟨#[111,47]⟩:=⟨_,rfl⟩;rw [←hr] at h1 HR;obtain ⟨r1,r2⟩:=r;have e1:(r2 !=1)=true:=bne_iff_ne.2 h1;have e3:(r2==1)=false:=beq_eq_false_iff_ne.2 h1;clear h1 hr;have e2:((id.size:Int)==32)=decide (id.size=32):=by
  by_cases hs:id.size=32
  ·rw [dT hs];simp [hs]
  ·rw [qF hs];simp;omega
 go_in;go_wp2_with fail;refine HR.out.mono ?_;rintro e w1 ⟨l',A,c,hl',rfl,ho,hb⟩;go_wp2_with fail;go_ret;exact ⟨rfl,hb⟩
end
end Go.Proofs.YtecpbcmpncgokaaGreat
set_option linter.unusedVariables false
namespace Go.Dol
open Go.RowKit
theorem Zeo {a b:BA} (h:a=b):(a.toList !=b.toList)=false:=by rw [h];simp
theorem ZbG {a b:BA} (h:a≠b):(a.toList !=b.toList)=true:=by
 have:=Z2N h;unfold bne;rw [this]
 rfl
theorem ZiJ {l:LU} {b:BA}:(⟨l.toArray⟩:BA)=b↔l=b.data.toList:=by
 constructor
 ·intro h
  rw [←h]
 ·intro h
  exact Z3F (by simpa using h)
end Go.Dol
namespace Go.Proofs.YtecpbcmpncgokaaGreat
open Go.RowKit Go.Dol
section
variable {w:World} {g m:Nat} {D:Dk}
set_option maxRecDepth 100000 in
set_option maxHeartbeats 1600000 in
theorem Z7E (h:Dsk w g m D) (hK:OkW D) (id:BA) (hid:id.size≤70368744177600):
  Calls Tryz.prog 44 #[.pointer (some ⟨g,0,none⟩),.string id] w (ZdI w (getO geS D id)):=by
 obtain ⟨r,hr⟩: ∃r,r=getO geS D id:=⟨_,rfl⟩;rw [←hr];have HR:=qI hr;clear hr;have HRi:=qI (Z3I h hK id);go_in;go_wp2_with fail;refine HRi.out.mono ?_
 by_cases hs:id.size=32
 ·have h32:=qI hs
  have hnB:=(Z2x hs).1;clear hs;rw [dT h32.out];rintro e w1 ⟨rfl,hb1⟩;have h1:=h.below hb1;have HN:=qI (Z3b id w1 hid);go_wp2_with fail;refine HN.out.mono ?_;rintro e w2 ⟨rfl,hb2⟩;have h2:=h1.below hb2;have hb02:=hb1.next hb2;have hRd:=ZS h2 hK.ord (Zc id) (fun b hb=>hK.small' hb)
  cases hl:Z1 D.l (Zc id) with
  | none=>
   have hrd:ZF D (Zc id)=([],3):=by
    unfold ZF;rw [if_neg (by rw [hnB];decide),hl]
   rw [hrd] at hRd;have HRd:=qI hRd;have hr:Hid (r= .error 6):=by
    unfold Hid;rw [HR.out];unfold getO;rw [if_neg (by rw [h32.out];simp),hl]
   clear hRd hl hrd;go_wp2_with fail;refine HRd.out.mono ?_;rintro e w3 ⟨b,A,c,hbr,rfl,ho3,hb3⟩;have hb03:=hb02.next hb3;obtain rfl:b=[]:=hbr.out;go_wp2_with fail;go_ret2;rw [hr.out];exact ⟨hb03,rfl⟩
  | some q=>
   have hrd:ZF D (Zc id)=(q,0):=by
    unfold ZF;rw [if_neg (by rw [hnB];decide),hl]
   rw [hrd] at hRd;have HRd:=qI hRd;clear hRd hrd;go_wp2_with fail;refine HRd.out.mono ?_;rintro e w3 ⟨b,A,c,hbr,rfl,ho3,hb3⟩;have hb03:=hb02.next hb3;have hbq:Hid (b=q):=hbr;have hbl:=hK.small' hl;have hcl:=Z5i ho3;have hbl':b.length≤140737488355328:=by rw [hbq.out];exact hbl
   have HOp:=qI (Zcs A b c 2097152 w3 (Rd.of_own ho3) hbl' hcl.1 (fun s r _ h=>by omega));clear hbr HRd;go_wp2_with fail;refine HOp.out.mono ?_
   cases hop:Z2o b 2097152 with
   | none=>
    have hr:Hid (r= .error 2):=by
     unfold Hid;rw [HR.out];unfold getO;rw [if_neg (by rw [h32.out];simp),hl];simp only;rw [←hbq.out,hop]
    rintro e w4 ⟨rfl,hb4⟩;clear hl hop;go_wp2_with fail;go_ret2;rw [hr.out];exact ⟨hb03.next hb4,rfl⟩
   | some raw=>
    rintro e w4 ⟨p,A4,c4,hp,rfl,ho4,hb4,hp1,hp2⟩;have hb04:=hb03.next hb4;have hpl:p.length≤2097152:=by
     rw [hp.out];have:=(Z4x hop).2;omega
    have HS:=qI (Z2i A4 p c4 w4 (Rd.of_own ho4) (by omega));have hr:Hid (r=if ZC p=id.data.toList∧Zd geS p=true then .ok p else .error 2):=by
     unfold Hid;rw [HR.out];unfold getO;rw [if_neg (by rw [h32.out];simp),hl];simp only;rw [←hbq.out,hop];simp only;rw [hp.out]
    clear hl hop hbq;go_wp2_with fail;refine HS.out.mono ?_;rintro e w5 ⟨rfl,hb5⟩;have hb05:=hb04.next hb5;have ho5:=Zi ho4 hb5
    by_cases hs:idO p=id
    ·have q1:((idO p).toList !=id.toList)=false:=Zeo hs
     have q2:((idO p).toList==id.toList)=true:=Z2M hs;have hS:Hid (ZC p=id.data.toList):=ZiJ.1 hs;have hD:=Z24 A4 p c4 w5 (Rd.of_own ho5) hp1 hp2 (by omega);clear hs
     cases hdec:decO geS p with
     | none=>
      rw [hdec] at hD;have HD:=qI hD;have hr2:Hid (r= .error 2):=by
       unfold Hid;rw [hr.out,if_neg (by unfold Zd;rw [hdec];simp)]
      clear hD hdec;go_wp2_with fail;refine HD.out.mono ?_;rintro e w6 ⟨rfl,hb6⟩;go_wp2_with fail;go_ret2;rw [hr2.out];exact ⟨(hb05.next hb6).alloc (hb05.next hb6).size _,rfl⟩
     | some o=>
      rw [hdec] at hD;have HD:=qI hD;have hr2:Hid (r= .ok p):=by
       unfold Hid;rw [hr.out,if_pos ⟨hS.out,by unfold Zd;rw [hdec];rfl⟩]
      clear hD hdec;go_wp2_with fail;refine HD.out.mono ?_;rintro e w6 ⟨k,Ad,d,cd,Ae,en,ce,tr,Ap,pa,cp,ta,na,wh,st,te,ho,rfl,_,_,_,hb6,_,_,_⟩;have ho6:=Zi ho5 hb6;have hsz:w.heap.size≤w3.heap.size:=hb03.size;clear ho;go_wp2_with fail;go_ret2;rw [hr2.out];exact ⟨(hb05.next hb6).alloc (hb05.next hb6).size _,p,A4,c4,rfl,rfl,(ho6.alloc _).base hsz,hp1,hp2⟩
    ·have q1:((idO p).toList !=id.toList)=true:=ZbG hs
     have q2:((idO p).toList==id.toList)=false:=Z2N hs;have hr2:Hid (r= .error 2):=by
      unfold Hid;rw [hr.out,if_neg (fun h=>hs (ZiJ.2 h.1))]
     clear hs;go_wp2_with fail;go_ret2;rw [hr2.out];exact ⟨hb05,rfl⟩
 ·have h32:=qI hs
  have hr:Hid (r= .error 1):=by
   unfold Hid;rw [HR.out];unfold getO;rw [if_pos hs]
  clear hs;rw [qF h32.out];rintro e w1 ⟨rfl,hb1⟩;go_wp2_with fail;go_ret2;rw [hr.out];exact ⟨hb1,rfl⟩
end
end Go.Proofs.YtecpbcmpncgokaaGreat
