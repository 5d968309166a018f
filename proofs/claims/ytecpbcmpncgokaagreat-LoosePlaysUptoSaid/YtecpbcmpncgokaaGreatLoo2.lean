/- The walks of the layer 'pack': are bytes an object's; an object's bytes are few. Conditions: none beyond what each law names. What holds of layer 'loose', in plain Lean: a disk that holds objects alone, and what puts, drops and a cut leave. No program is in sight. Conditions: as each lemma names. The walks of the layer 'loose', its first part: an id's file name; may a disk and an id be. Conditions: an id of at most 2^46 bytes. The walks of the layer 'sum', its eleventh part: bytes of digits. Conditions: bytes that are made fit 2^47. The walks of the layer 'sum', its twelfth part: bytes of digits. Conditions: bytes that are made fit 2^47. The walks of the layer 'loose': which files are called by an id; all ids. Conditions: a disk in good order; texts of at most 2^47 bytes. The walk of the layer 'loose': an object's bytes, by its id. Conditions: a disk in good order; an id of at most 2^46  -/
import Derived.Test.YtecpbcmpncgokaaGreatTw
import Derived.Test.YtecpbcmpncgokaaGreatObjC
import Derived.Test.YtecpbcmpncgokaaGreatShort
import Derived.Test.YtecpbcmpncgokaaGreatColl
import Derived.Test.YtecpbcmpncgokaaGreatDiskM
import Derived.Test.YtecpbcmpncgokaaGreatDisk13
import Derived.Test.YtecpbcmpncgokaaGreatRefDisk
import Derived.Test.YtecpbcmpncgokaaGreatSum10
import Derived.Test.YtecpbcmpncgokaaGreatSumA
import Derived.Test.YtecpbcmpncgokaaGreatDisk3
import Derived.Deep.QuietTactic
import Derived.BigQuiet
import Derived.Test.YtecpbcmpncgokaaGreatPressA
set_option linter.unusedVariables false
namespace Go.Proofs.YtecpbcmpncgokaaGreat
open Go.RowKit Go.Dol
theorem Ze8 {l:List Ent} (h:Z14 geS l=true):(l.flatMap entB).length≤600000:=by
 have h1:=Z6S entB 143 l fun e he=>by
  obtain ⟨i,hi,rfl⟩:=List.getElem_of_mem he;have hx:=(Z0o h).1 i hi;unfold Z4F at hx;rw [gE hi] at hx;simp only [Bool.and_eq_true,decide_eq_true_eq] at hx;have h0:=Z8I hx.1.1;have h3:=ZQ (s:=l[i].name) (by omega);have h4:=Zg l[i].id;have h5:=hx.1.2;unfold entB;rw [List.length_append,List.length_cons,h4];omega
 have h2:=(Z0o h).2;have h3:l.length*143≤4096*143:=Nat.mul_le_mul_right _ h2;omega
theorem Zfp {o:Go.Dol.Obj} (h:Zb geS o=true):(encO o).length≤1048577:=by
 unfold encO;rw [List.length_cons];rcases Z3k h with e | e | e | e
 ·rw [if_pos e]
  have:=Z25 e h;omega
 ·rw [if_neg (by omega),if_pos e]
  have h1:=Ze8 (Z0P e h);have h3:=Za 8 o.ents.length (by have:=(Z0o (Z0P e h)).2;omega);unfold Z4G;rw [List.length_append];omega
 ·rw [if_neg (by omega),if_neg (by omega),if_pos e]
  obtain ⟨h1,h2,h3⟩:=Z26 e h;have h4:=Z3j h2;have h6:=Za 8 o.pars.length (by have:=(Z1e h2).2;omega);have h7:=Z3l h3;have h8:=Zg o.tree;unfold Z0b at h4;unfold Z5i;simp only [List.length_append];omega
 ·rw [if_neg (by omega),if_neg (by omega),if_neg (by omega)]
  obtain ⟨h1,h2,h3⟩:=Z27 e h;have h7:=Z3l h3;have h8:=Zg o.target;have h9:=ZQ (s:=o.name) (by omega);simp only [List.length_append];omega
theorem Z5z: ∀r,ZB geS r=true→r.length≤2097152:=by
 intro r h;unfold ZB at h
 cases hd:decO geS r with
 | none=>rw [hd] at h;cases h
 | some o=>
  obtain ⟨h1,rfl⟩:=ZfV hd;have:=Zfp h1;omega
end Go.Proofs.YtecpbcmpncgokaaGreat
set_option linter.unusedVariables false
namespace Go.Dol
theorem Z3d {id:BA} (h:id.size=32):Z8 (Zd id)=true∧Z8 (shd (Zd id))=true∧Z07 (Zd id)=false∧(Zd id).size≠0:=by
 have hs:=Z0q id;have hz: ∀x∈(Zd id).data.toList,47≤x.toNat∧x.toNat≤111:=by
  intro x hx;rw [Z0N] at hx;rcases List.mem_cons.1 hx with rfl | hx
  ·decide
  ·rcases List.mem_cons.1 hx with rfl | hx
   ·decide
   ·rcases Z6f _ _ hx with h | h<;>omega
 have h0:(Zd id).data.toList.contains 0=false:=by
  rw [Bool.eq_false_iff];intro hc;have:=hz 0 (List.contains_iff_mem.1 hc);have e:(0:UInt8).toNat=0:=rfl;omega
 have hn:Z8 (Zd id)=true:=by
  unfold Z8;rw [h0,hs,h]
  rfl
 have hT:Z07 (Zd id)=false:=by
  unfold Z07;refine qF fun e=> ?_;have:=hz 126 (List.mem_of_getLast? e);have e2:(126:UInt8).toNat=126:=rfl;omega
 have hsh:Z8 (shd (Zd id))=true:=by
  have h1:(shd (Zd id)).data.toList=(Zd id).data.toList++[126]:=by
   unfold shd;rw [ByteArray.data_append];simp
  unfold Z8;rw [Z0d,hs,h,h1];have h2:((Zd id).data.toList++[126]).contains 0=false:=by
   rw [Bool.eq_false_iff];intro hc;rcases List.mem_append.1 (List.contains_iff_mem.1 hc) with hm | hm
   ·have:=hz 0 hm
    have e:(0:UInt8).toNat=0:=rfl;omega
   ·cases List.mem_singleton.1 hm
  rw [h2]
  rfl
 exact ⟨hn,hsh,hT,by rw [hs,h];decide⟩
theorem Z8H {a b:BA} (h:a.size=32):Zd a≠shd (Zd b):=fun e=>by
 have h1:=(Z3d h).2.2.1;rw [e] at h1;unfold Z07 at h1;have h2:(shd (Zd b)).data.toList.getLast?=some 126:=by
  unfold shd;rw [ByteArray.data_append];simp
 rw [h2] at h1;cases h1
theorem Zfa {a b:Bool} {k:Nat} (h1:a=true) (h2:k≠0) (h3:b=false): ¬(a=false∨k=0∨b=true):=by
 rintro (h | h | h)
 ·rw [h1] at h;cases h
 ·exact h2 h
 ·rw [h3] at h;cases h
theorem Zak {l m:List Fil} (hl:InOrder l) (hm:InOrder m) (h: ∀x,Z4 l x=Z4 m x):l=m:=by
 have h1:=Za3 hl hm (fun _=>true) fun x _=>h x;have h2: ∀l:List Fil,(l.filter fun f=>(fun _=>true) f.1)=l:=fun l=>List.filter_eq_self.2 fun _ _=>rfl;rw [h2,h2] at h1;exact h1
theorem Z6i {id:BA} (h:id.size=32):Z03 (Zd id)=some id:=by
 unfold Z03;rw [Z0N];simp only;rw [Z4j];simp only;rw [if_pos (by rw [Array.length_toList];exact h)];cases id;simp [idS]
theorem ZdI {n id:BA} (h:Z03 n=some id):n=Zd id∧id.size=32:=by
 unfold Z03 at h;split at h
 ·rename_i t ht
  split at h
  ·cases h
  ·rename_i q hq
   split at h
   ·rename_i h32
    injection h with h
    subst h;refine ⟨Z4U ?_,by show q.toArray.size=32;rw [List.size_toArray];exact h32⟩;rw [ht,Z0N];have:=Z4k t q hq;simp [idS,this]
   ·cases h
 ·cases h
end Go.Dol
namespace Go.Proofs.YtecpbcmpncgokaaGreat
open Go.RowKit Go.Dol
def FO (D:Dk):Prop:=∀ f∈D.l,∃raw,ZB geS raw=true∧f=(Zd (idO raw),Zp raw)
section
variable {D:Dk}
theorem FO.look (h:FO D) (ho:InOrder D.l) {n:BA} {b:LU} (hl:Z4 D.l n=some b): ∃raw,ZB geS raw=true∧n=Zd (idO raw)∧b=Zp raw:=by
 obtain ⟨raw,h1,h2⟩:=h _ ((Zu ho).1 hl);injection h2 with h2 h3
 exact ⟨raw,h1,h2,h3⟩
theorem Zal {raw:LU} (h:ZB geS raw=true):Z1v (Zp raw) 2097152=some raw:=by
 have:=Z5z raw h;rw [ZbY (by unfold Z4t;omega),if_pos (by omega)]
theorem ZdJ {id:BA} {raw:LU} (h:ZB geS raw=true) (hid:id=idO raw) (hl:Z4 D.l (Zd id)=some (Zp raw)):getO geS D id= .ok raw:=by
 unfold getO;rw [if_neg (by rw [hid,Z2p];simp),hl];simp only;rw [Zal h];simp only;rw [if_pos ⟨by rw [hid];simp [idO,idS],h⟩]
theorem Z7j {id:BA} (h32:id.size=32) (hl:Z4 D.l (Zd id)=none):getO geS D id= .error 6:=by
 unfold getO;rw [if_neg (by rw [h32];simp),hl]
theorem Zam {D':Dk} {id:BA} (h:Z4 D'.l (Zd id)=Z4 D.l (Zd id)):getO geS D' id=getO geS D id:=by
 unfold getO;rw [h]
theorem FO.get (h:FO D) (ho:InOrder D.l) {id:BA} (h32:id.size=32):(Z4 D.l (Zd id)=none∧getO geS D id= .error 6)∨ ∃raw,ZB geS raw=true∧id=idO raw∧Z4 D.l (Zd id)=some (Zp raw)∧getO geS D id= .ok raw:=by
 cases hl:Z4 D.l (Zd id) with
 | none=>exact .inl ⟨rfl,Z7j h32 hl⟩
 | some b=>
  obtain ⟨raw,h1,h2,h3⟩:=h.look ho hl;have hid:=Z5M h2;rw [h3] at hl ⊢;exact .inr ⟨raw,h1,hid,rfl,ZdJ h1 hid hl⟩
theorem FO.shadow (h:FO D) (ho:InOrder D.l) (id:BA):Z4 D.l (shd (Zd id))=none:=by
 cases hl:Z4 D.l (shd (Zd id)) with
 | none=>rfl
 | some b=>
  obtain ⟨raw,_,h2,_⟩:=h.look ho hl;exact absurd h2.symm (Z8H (Z2p raw))
theorem FO.put (h:FO D) (ho:InOrder D.l) {raw:LU} (h1:ZB geS raw=true) {l':List Fil} (hl:l'=putF D.l (Zd (idO raw)) (Zp raw)): ∀f∈l',∃raw,ZB geS raw=true∧f=(Zd (idO raw),Zp raw):=by
 intro f hf;rw [hl] at hf;rcases Z38 f hf with e | hm
 ·exact ⟨raw,h1,e⟩
 ·exact h f hm
theorem Z4l {raw:LU} (h:ZB geS raw=true):(Zp raw).length≤2621449:=by
 have h1:=Z5z raw h;have h2:=Z5B raw (by omega);omega
theorem ZdK (hC:CalmD D) (hF:FO D) {raw:LU} (h1:ZB geS raw=true) (hroom:83+((Zp raw).length:Int)≤frD D):
  (∃b,b≠raw∧getO geS D (idO raw)= .ok b∧putO geS D raw=(.error 7,D))∨(getO geS D (idO raw)= .ok raw∧putO geS D raw=(.ok (idO raw),D))∨
  ∃D',getO geS D (idO raw)= .error 6∧putO geS D raw=(.ok (idO raw),D')∧CalmD D'∧FO D'∧D'.cap=D.cap∧D'.l=putF D.l (Zd (idO raw)) (Zp raw)∧Z4 D.l (Zd (idO raw))=none∧getO geS D' (idO raw)= .ok raw∧
   (∀x,x.size=32→x≠idO raw→getO geS D' x=getO geS D x)∧frD D'=frD D-(82+((Zp raw).length:Int)):=by
 have ho:=hC.ok.ord;have h32:=Z2p raw;obtain ⟨b1,b2,b3,b4⟩:=Z3d h32;rcases hF.get ho h32 with ⟨hl,hg⟩ | ⟨r2,g1,g2,g3,g4⟩
 ·refine .inr (.inr ?_)
  have hp:=Z4l h1;have hsz:=Z0q (idO raw);rcases Zdj hC (n:=Zd (idO raw)) (b:=Zp raw) (fun _=>hF.shadow ho _) with e | ⟨_,e,_⟩ | ⟨_,_,_,D',e,L,l1,l2,l3⟩
  ·unfold ZP at e
   rw [if_neg (Zfa b2 b4 b3)] at e;split at e
   ·cases (congrArg Prod.fst e)
   ·rw [if_neg (by rw [hF.shadow ho];simp)] at e
    unfold Z1w at e;rw [if_neg (by rw [hsz,h32];omega)] at e;obtain ⟨D2,e2,_⟩:=ZcA hC b2 b4 (hF.shadow ho (idO raw)) (b:=Zp raw) (by rw [hsz,h32];omega);rw [e2] at e;cases (congrArg Prod.fst e)
  ·rw [hsz,h32] at e
   omega
  ·have hl':D'.l=putF D.l (Zd (idO raw)) (Zp raw):=Zak L.calm.ok.ord (Z0g ho) fun x=>by
    rw [Z0i ho]
    by_cases hx:x=Zd (idO raw)
    ·rw [if_pos hx,hx,l1]
    ·rw [if_neg hx]
     by_cases hx2:x=shd (Zd (idO raw))
     ·rw [hx2,l2,hF.shadow ho]
     ·exact l3 x hx hx2
   have hcost:Zo D'.l=Zo D.l+(16+((Zd (idO raw)).size:Int)+(Zp raw).length):=by
    rw [hl',Z8B,Z0h hl];simp only [Z2n];omega
   refine ⟨D',hg,?_,L.calm,hF.put ho h1 hl',L.cap,hl',hl,ZdJ h1 rfl l1,fun x hx hne=>Zam (l3 _ (fun e=>hne (Z5M e)) (Z8H hx)),?_⟩
   ·unfold putO
    rw [if_neg (by rw [h1];simp),hg];simp only;rw [if_neg (by decide),e]
    rfl
   ·rw [hC.free,L.calm.free,L.cap,hcost,hsz,h32]
    omega
 ·by_cases hr:r2=raw
  ·subst hr
   refine .inr (.inl ⟨g4,?_⟩);unfold putO;rw [if_neg (by rw [h1];simp),g4];simp only;rw [if_pos trivial]
  ·refine .inl ⟨r2,hr,g4,?_⟩
   unfold putO;rw [if_neg (by rw [h1];simp),g4];simp only;rw [if_neg hr]
theorem ZdL {id:BA} (ho:InOrder D.l):id∈idsO D↔id.size=32∧(Z4 D.l (Zd id)).isSome=true:=by
 unfold idsO;rw [List.mem_filterMap];constructor
 ·rintro ⟨n,hn,e⟩
  obtain ⟨f,hf,rfl⟩:=List.mem_map.1 hn;obtain ⟨e1,e2⟩:=ZdI e;refine ⟨e2,?_⟩;rw [←e1,(Zu ho).2 (show (f.1,f.2)∈D.l from hf)]
  rfl
 ·rintro ⟨h1,h2⟩
  obtain ⟨b,hb⟩:=Option.isSome_iff_exists.1 h2;exact ⟨Zd id,List.mem_map.2 ⟨_,(Zu ho).1 hb,rfl⟩,Z6i h1⟩
theorem ZcR (hC:CalmD D) (hF:FO D) {id:BA} (h32:id.size=32) {b:LU} (hl:Z4 D.l (Zd id)=some b):
  ∃D',dropO D id=(0,D')∧CalmD D'∧FO D'∧D'.cap=D.cap∧D'.l=Zi D.l (Zd id)∧getO geS D' id= .error 6∧(∀x,x.size=32→x≠id→getO geS D' x=getO geS D x)∧frD D'=frD D+(82+(b.length:Int)):=by
 have ho:=hC.ok.ord;obtain ⟨b1,b2,b3,b4⟩:=Z3d h32;obtain ⟨e,L⟩:=Zgl hC hl b1;refine ⟨_,?_,L.calm,?_,rfl,rfl,?_,?_,?_⟩
 ·unfold dropO
  rw [if_neg (by rw [h32];simp),if_pos (by rw [hl];rfl),e]
 ·intro f hf
  exact hF f (Z2R f hf)
 ·exact Z7j h32 (by show Z4 (Zi D.l (Zd id)) _=_;rw [Z1b ho,if_pos rfl])
 ·intro x hx hne
  refine Zam ?_;show Z4 (Zi D.l (Zd id)) _=_
  rw [Z1b ho,if_neg (fun e=>hne (Z5M e))]
 ·rw [hC.free,L.calm.free]
  show D.cap-Zo (Zi D.l (Zd id))=_
  have hc:=Z39 hl;have hs:=Z0q id;unfold Z2n at hc;simp only at hc;rw [hs,h32] at hc;omega
theorem ZdM (ho:InOrder D.l) {n:BA} {b:LU} (hl:Z4 D.l n=some b):putF (Zi D.l n) n b=D.l:=
 Zak (Z0g (ZI ho)) ho fun x=>by
  rw [Z0i (ZI ho),Z1b ho]
  by_cases hx:x=n
  ·rw [if_pos hx,hx,hl]
  ·rw [if_neg hx,if_neg hx]
theorem ZdN (ho:InOrder D.l) {n:BA} {b:LU} (hl:Z4 D.l n=some b):(Zi D.l n).length+1=D.l.length:=by
 have h:=congrArg List.length (ZdM ho hl);rw [Z3n,Z1b ho,if_pos rfl] at h;exact h
end
end Go.Proofs.YtecpbcmpncgokaaGreat
set_option linter.unusedVariables false
namespace Go.Proofs.YtecpbcmpncgokaaGreat
open Go.RowKit Go.Dol
theorem Z3b (A:OA) (l:LU) (c:Nat) (w:World) (hr:Rd w w.heap.size 1 A l.length (bc l)) (hl:l.length≤140737488355296):
  Calls Tryz.prog 45 #[.slice A l.length c] w fun e w'=>e= .returned (.string (idO l))∧Below w.heap.size w w':=(Zdo A l c w hr hl).mono fun e w' ⟨l',h,he,hb⟩=>⟨by rw [he,h.out];rfl,hb⟩
theorem Zah (l':LU) (id:BA) (w':World) (e:l'=Z1x id.data.toList) (hl:id.size≤70368744177600):(Op.stringOp .add ⟨#[111,47]⟩ ⟨l'.toArray⟩).run Tryz.prog w'= .ok (.string (Zd id)) w':=by
 rw [show Zd id=(⟨#[111,47]⟩:BA)++⟨l'.toArray⟩ by rw [e];rfl];refine run_string_add_sum w' _ _ ?_;show 2+l'.toArray.size≤_
 rw [List.size_toArray,e,Z0T,Zg];omega
theorem Z1C (id:BA) (w:World) (hl:id.size≤70368744177600):
  Calls Tryz.prog 41 #[.string id] w fun e w'=>e= .returned (.string (Zd id))∧Below w.heap.size w w':=by
 have HX:=Zdt id w hl;go_in;go_wp2_with fail;refine HX.mono ?_;rintro e w1 ⟨l',hl',rfl,hb1⟩;have ad1:=Zah l' id w1 hl'.out hl;go_wp2_with fail;go_ret;exact ⟨rfl,hb1⟩
section
variable {w:World} {g m:Nat} {D:Dk}
theorem ZfT (D:Dk):(Zq D ⟨#[111,47]⟩).2≠1:=by
 have hn:Z8 ⟨#[111,47]⟩=true:=by decide
 unfold Zq;rw [if_neg (by rw [hn];decide)];split<;>simp
theorem Z3M (h:Dsk w g m D) (hK:OkW D) (id:BA):
  Calls Tryz.prog 97 #[.pointer (some ⟨g,0,none⟩),.string id] w fun e w'=>e= .returned (.bool (decide (id.size=32)))∧Below w.heap.size w w':=by
 have HR:=qI (ZY h hK.ord ⟨#[111,47]⟩ (fun b hb=>hK.small' hb));have h1:=ZfT D;obtain ⟨r,hr⟩: ∃r,r=Zq D ⟨#[111,47]⟩:=⟨_,rfl⟩;rw [←hr] at h1 HR;obtain ⟨r1,r2⟩:=r;have e1:(r2 !=1)=true:=bne_iff_ne.2 h1;have e3:(r2==1)=false:=beq_eq_false_iff_ne.2 h1;clear h1 hr;have e2:((id.size:Int)==32)=decide (id.size=32):=by
  by_cases hs:id.size=32
  ·rw [dT hs];simp [hs]
  ·rw [qF hs];simp;omega
 go_in;go_wp2_with fail;refine HR.out.mono ?_;rintro e w1 ⟨l',A,c,hl',rfl,ho,hb⟩;go_wp2_with fail;go_ret;exact ⟨rfl,hb⟩
end
end Go.Proofs.YtecpbcmpncgokaaGreat
set_option linter.unusedVariables false
namespace Go.Proofs.YtecpbcmpncgokaaGreat
open Go.RowKit Go.Dol
theorem Zcc (x:Nat) (hx:x<256):Lib.indexByte [48,49,50,51,52,53,54,55,56,57,97,98,99,100,101,102] (x:Int).toNat.toUInt8=digV x:=by
 have h: ∀i:_root_.Fin 256,Lib.indexByte [48,49,50,51,52,53,54,55,56,57,97,98,99,100,101,102] (i.val:Int).toNat.toUInt8=digV i.val:=by decide+kernel
 exact h ⟨x,hx⟩
theorem Z5H (x:Nat) (hx:x<256) (w:World):
  Calls Tryz.prog 172 #[.string ⟨#[48,49,50,51,52,53,54,55,56,57,97,98,99,100,101,102]⟩,.int .u8 x] w fun e w'=>e= .returned (.int .i64 (digV x))∧w'=w:=by
 refine (Z3C _ x w).mono ?_;rintro e w' ⟨rfl,h⟩;exact ⟨by rw [←Zcc x hx],h⟩
end Go.Proofs.YtecpbcmpncgokaaGreat
set_option linter.unusedVariables false
namespace Go.Dol
theorem Z7M: ∀l:LU,l.length%2=1→Zx l=none
 | [],h=>by simp at h
 | [_],_=>rfl
 | a::b::t,h=>by
  rw [Zx,Z7M t (by simp at h;omega)];simp
end Go.Dol
namespace Go.Proofs.YtecpbcmpncgokaaGreat
open Go.RowKit Go.Dol
set_option maxRecDepth 100000 in
set_option maxHeartbeats 400000 in
theorem Zbi (s:BA) (w:World) (hl:s.size≤140737488355200):
  Calls Tryz.prog 185 #[.string s] w (Zex w (Zx s.data.toList)):=by
 obtain ⟨l,hls⟩: ∃l,l=s.data.toList:=⟨_,rfl⟩;have hsz:s.size=l.length:=by rw [hls,Zg]
 rw [←hls];have HSZ:=qI hsz;have HLS:=qI hls;clear hsz hls;have hsb:(s.size:Int)=(l.length:Int):=by have:=HSZ.out;omega
 by_cases hev:l.length%2=0
 rotate_left
 ·have hmod:(s.size:Int)%2=1:=by omega
  have hmod2:(s.size:Int).tmod 2=1:=by rw [Int.tmod_eq_emod_of_nonneg (by omega)];exact hmod
  have hnone:Hid (Zx l=none):=Z7M l (by omega);clear hsb hev;go_in;go_wp2_with fail;go_ret2;rw [hnone.out];exact ⟨rfl,bR _ _⟩
 have hmod:(s.size:Int)%2=0:=by omega
 have hmod2:(s.size:Int).tmod 2=0:=by rw [Int.tmod_eq_emod_of_nonneg (by omega)];exact hmod
 have HEV:=qI hev;clear hsb hev;go_in;go_wp2_with fail;go_loopw [4,5,6,7] (fun out i _ _ wr=>Zbh l w 5 out i wr) (fun _ i _ _ _=>l.length-(intOf i).toNat)
 case atStart=>exact ⟨0,[],none,0,rfl,rfl,zL _,rfl,rfl,by unfold Hid;simp,⟨by simp [bc],.inl ⟨rfl,rfl⟩⟩,bR _ _,lR _,by unfold maxLen;omega⟩
 case round=>
  obtain ⟨k,l1,A1,c1,rfl,rfl,hk,hk2,hk1,e1,ho,hbl,j1,j2⟩:=hrel;have hs1:=hbl.size;have HK1:=qI hk1;have HK2:=qI hk2;have hl1b:l1.length≤140737488355200:=by have:=HSZ.out;omega
  clear hk1 hk2
  by_cases hlt:k+1<l.length
  ·have hkl:k<s.size:=by rw [HSZ.out];omega
   have hkl1:k+1<s.size:=by rw [HSZ.out];omega
   have hlt0:k<l.length:=by omega
   have hki:(k:Int)<(s.size:Int):=by omega
   have hki1:(k:Int)+1<(s.size:Int):=by omega
   obtain ⟨x,hx⟩: ∃x,x=(l[k]).toNat:=⟨_,rfl⟩;obtain ⟨y,hy⟩: ∃y,y=(l[k+1]).toNat:=⟨_,rfl⟩;have hx256:x<256:=by have:=(l[k]).toNat_lt;omega
   have hy256:y<256:=by have:=(l[k+1]).toNat_lt;omega
   have hsx: ∀h:k<s.size,(s[k]'h).toNat=x:=fun h=>by rw [hx];exact Z7Q HLS.out hlt0 h
   have hsy: ∀h:k+1<s.size,(s[k+1]'h).toNat=y:=fun h=>by rw [hy];exact Z7Q HLS.out hlt h
   have HX:=qI hx;have HY:=qI hy;clear hx hy;go_wp2_with fail;go_quiet ((go_at_call 172;first | exact Calls.quiet_of_same (Z5H x hx256 _) | exact Calls.quiet_of_same (Z5H y hy256 _)));obtain ⟨wq,hwq⟩: ∃wq,wq=World.drewN wr nq:=⟨_,rfl⟩;have ho':wq.ownsRow w.heap.size 5 1 (.slice A1 l1.length c1) l1.length (bc l1):=by rw [hwq];exact ho
   have hbl':Below w.heap.size w wq:=by rw [hwq];exact ⟨hbl.os,hbl.tape,hbl.output,hbl.size,hbl.block⟩
   have hs':w.heap.size≤wq.heap.size:=hbl'.size;rw [←hwq];clear hwq;have hdrop:=Zbg hlt;have hstep:Hid (Zx (l.drop k)=if digV x<0∨digV y<0 then none else (Zx (l.drop (k+2))).map (UInt8.ofNat (16*(digV x).toNat+(digV y).toNat):: ·)):=by
    unfold Hid;rw [hdrop,Zx,HX.out,HY.out]
   have hpx:=Z6W x;have hpy:=Z6W y;obtain ⟨p,hp⟩: ∃p,p=digV x:=⟨_,rfl⟩;obtain ⟨q,hq⟩: ∃q,q=digV y:=⟨_,rfl⟩;rw [←hp,←hq] at hstep;rw [←hp] at hpx ⊢;rw [←hq] at hpy ⊢;clear hp hq hdrop hsx hsy
   by_cases hbad:p<0∨q<0
   ·have hnone:Hid (Zx l=none):=by unfold Hid;rw [e1.out,hstep.out,if_pos hbad];rfl
    rcases (by omega:p<0∨(0≤p∧q<0)) with hp | ⟨hp,hq⟩
    ·go_wp2_with fail
     go_ret2;rw [hnone.out];exact ⟨rfl,hbl'⟩
    ·go_wp2_with fail
     go_ret2;rw [hnone.out];exact ⟨rfl,hbl'⟩
   ·have hp:0≤p:=by omega
    have hq:0≤q:=by omega
    obtain ⟨p',rfl⟩:=Int.eq_ofNat_of_zero_le hp;obtain ⟨q',rfl⟩:=Int.eq_ofNat_of_zero_le hq;have hp16:p'<16:=by omega
    have hq16:q'<16:=by omega
    obtain ⟨m,hm⟩: ∃m,m=16*p'+q':=⟨_,rfl⟩;have hmi:IntKind.u8.wrap (16*(p':Int)+(q':Int))=(m:Int):=by rw [IntKind.wrap_u8];omega
    have hm256:m<256:=by omega
    have HM:=qI hm;rw [if_neg hbad] at hstep;clear hm hbad hpx hpy hp hq;go_wp2_with (at_builtin;refine Z1y rfl (.tmp 33) (.tmp 39) rfl w.heap.size _ l1.length l1 rfl ho' rfl (by omega) (by omega) (by omega) hs' ?_);intro d l2 A2 c2 w2 ed e2 ho2 hb2 _ _ j3 j4;have h2l:l2.length=l1.length+1:=by rw [e2.out];simp
    have H2L:=qI h2l;clear h2l;go_wp2_with fail;refine ⟨⟨k+2,l2,A2,c2,rfl,by go_num,by omega,by have:=HK2.out;omega,by rw [H2L.out];have:=HK1.out;omega,?_,ho2,hbl'.trans hb2,j3,j4⟩,by simp [intOf];omega⟩;have hd:d=UInt8.ofNat m:=Z0F ed rfl;unfold Hid;rw [e1.out,hstep.out,Option.map_map,e2.out,hd,HM.out]
    congr 1
    funext z
    simp
  ·have hkl:l.length=k:=by have:=HEV.out;have:=HK2.out;omega
   have hkb:k≤140737488355200:=by have:=HSZ.out;omega
   have hnk: ¬((k:Int)<(s.size:Int)):=by have:=HSZ.out;omega
   have hd1:Zx (l.drop k)=some []:=by
    rw [List.drop_eq_nil_of_le (by omega)]
    rfl
   have hsome:Hid (Zx l=some l1):=by unfold Hid;rw [e1.out,hd1];simp
   have HO:=qI hkl;clear hd1 hkl;go_wp2_with (refine Z6x rfl (.tmp 41) rfl wr.heap.size A1 l1.length c1 l1 rfl (Rd.of_own ho) ?_);go_ret2;rw [hsome.out];exact ⟨l1,rfl,rfl,hbl⟩
end Go.Proofs.YtecpbcmpncgokaaGreat
set_option maxRecDepth 100000
set_option maxHeartbeats 3200000
set_option linter.unusedVariables false
namespace Go.Dol
open Go.RowKit
def cutS (s p:BA):BA×Bool:=if s.data.toList.take p.size=p.data.toList then (⟨(s.data.toList.drop p.size).toArray⟩,true) else (s,false)
theorem ZdG (s p:BA):((s.extract 0 p.size).toList==p.toList)=decide (s.data.toList.take p.size=p.data.toList):=by
 rw [ByteArray.toList_eq,ByteArray.toList_eq,ByteArray.data_extract,Array.toList_extract];simp only [List.extract_eq_take_drop,List.drop_zero,Nat.sub_zero]
 by_cases h:s.data.toList.take p.size=p.data.toList<;>simp [h]
theorem Zaj (s:BA) (k:Nat):s.extract k s.size=⟨(s.data.toList.drop k).toArray⟩:=by
 apply Z4U;rw [ByteArray.data_extract,Array.toList_extract];simp only [List.extract_eq_take_drop];exact List.take_of_length_le (by rw [List.length_drop,Zg];omega)
end Go.Dol
namespace Go.Proofs.YtecpbcmpncgokaaGreat
open Go.RowKit Go.Dol
theorem Z85 (s p:BA) (w:World) (hn:s.size≤maxLen) (hp:p.size≤maxLen):
  Calls Tryz.prog 207 #[.string s,.string p] w fun e w'=>e= .returned (.bool (decide (s.data.toList.take p.size=p.data.toList)))∧w'=w:=by
 by_cases h0:p.size≤s.size
 ·have d1:decide ((s.size:Int)≥(p.size:Int))=true:=dT (by omega)
  have d1':decide ((p.size:Int)≤(s.size:Int))=true:=dT (by omega);have d2:(p.size:Int)≤(s.size:Int):=by omega
  have d3:(0:Int)≤(p.size:Int):=by omega
  go_in;go_wp2_with fail;go_ret;refine ⟨?_,rfl⟩;rw [←ZdG]
  first | rfl | simp
 ·have d1:decide ((s.size:Int)≥(p.size:Int))=false:=qF (by omega)
  have d1':decide ((p.size:Int)≤(s.size:Int))=false:=qF (by omega);go_in;go_wp2_with fail;go_ret;have h9:decide (s.data.toList.take p.size=p.data.toList)=false:=qF fun e=>by
   have h1:=congrArg List.length e;rw [List.length_take,Zg,Zg] at h1;omega
  rw [h9];exact ⟨rfl,rfl⟩
theorem Z86 (s p:BA) (w:World) (hn:s.size≤maxLen) (hp:p.size≤maxLen):
  Calls Tryz.prog 247 #[.string s,.string p] w fun e w'=>e= .returned (.tuple #[.string (cutS s p).1,.bool (cutS s p).2])∧w'=w:=by
 have h:=Z85 s p w hn hp
 by_cases h0:s.data.toList.take p.size=p.data.toList
 ·rw [dT h0] at h
  have H:=qI h;have hE:Hid (cutS s p=(⟨(s.data.toList.drop p.size).toArray⟩,true)):=if_pos h0;have hle:p.size≤s.size:=by
   have h1:=congrArg List.length h0;rw [List.length_take,Zg,Zg] at h1;omega
  have d2:(p.size:Int)≤(s.size:Int):=by omega
  have d3:(0:Int)≤(p.size:Int):=by omega
  clear h0 h;go_in;go_wp2_with fail;refine H.out.mono ?_;rintro e w1 ⟨rfl,hw1⟩;obtain rfl:=hw1.symm;go_wp2_with fail;go_ret2;rw [hE.out,←Zaj];exact ⟨rfl,rfl⟩
 ·rw [qF h0] at h
  have H:=qI h;have hE:Hid (cutS s p=(s,false)):=if_neg h0;clear h0 h;go_in;go_wp2_with fail;refine H.out.mono ?_;rintro e w1 ⟨rfl,hw1⟩;obtain rfl:=hw1.symm;go_wp2_with fail;go_ret2;rw [hE.out];exact ⟨rfl,rfl⟩
theorem Z9i (s p:BA) (w:World) (hn:s.size≤maxLen) (hp:p.size≤maxLen):
  Calls Tryz.prog 184 #[.string s,.string p] w fun e w'=>e= .returned (.tuple #[.string (cutS s p).1,.bool (cutS s p).2])∧w'=w:=by
 have h:=Z86 s p w hn hp;generalize cutS s p=r at h ⊢;have H:=qI h;clear h;go_in;go_wp2_with fail;refine H.out.mono ?_;rintro e w1 ⟨rfl,hw1⟩;obtain rfl:=hw1.symm;go_wp2_with fail;go_ret2;exact ⟨rfl,rfl⟩
def Zf4 (ns:List BA) (A:OA) (c base:Nat) (J:List BA→World→Prop) (i:Value) (wr:World):Prop:=
 ∃k:Nat,i= .int .i64 k∧k≤ns.length∧Hid (J ((ns.take k).filterMap Z03) wr)∧wr.ownsRow base 9 1 (.slice A ns.length c) ns.length (sc ns)
theorem Z5L (n:BA):Z03 n=if (cutS n ⟨#[111,47]⟩).2=true then (match Zx (cutS n ⟨#[111,47]⟩).1.data.toList with | none=>none | some q=>if q.length=32 then some (idS q) else none) else none:=by
 unfold Z03 cutS;rw [show (⟨#[111,47]⟩:BA).size=2 from rfl,show (⟨#[111,47]⟩:BA).data.toList=[111,47] from rfl];generalize n.data.toList=l
 by_cases h:l.take 2=[111,47]
 ·rw [if_pos h,if_pos rfl]
  rcases l with _ | ⟨a,_ | ⟨b,t⟩⟩
  ·cases h
  ·cases h
  ·injection h with h1 h2
   injection h2 with h2 _
   subst h1 h2
   rfl
 ·rw [if_neg h,if_neg (by simp)]
  split
  ·exact absurd rfl h
  ·rfl
section
variable {w:World} {g m:Nat} {D:Dk}
theorem Zf5 (h:Dsk w g m D) (hK:OkW D) (x:Nat) (hx:w.cell? ⟨x,0,none⟩=some (.pointer (some ⟨g,0,none⟩))) (hxl:x<w.heap.size):
  Z7H Fence.wide 4 Tryz.prog 183 #[.pointer (some ⟨x,0,none⟩)] Value.string 3518437208880 (fun xs=>xs=idsO D) w:=by
 intro l J W hW hJb hY hJ0;have hD:=h.below hW;have hx0:W.cell? ⟨x,0,none⟩=some (.pointer (some ⟨g,0,none⟩)):=by rw [hW.cell (p:=⟨x,0,none⟩) hxl];exact hx
 obtain ⟨ns,hns⟩: ∃ns,ns=D.l.map Prod.fst:=⟨_,rfl⟩;have hnl:D.l.length=ns.length:=by rw [hns,List.length_map]
 have hsm: ∀n∈ns,n.size≤200:=by
  intro n hn;rw [hns] at hn;obtain ⟨f,hf,rfl⟩:=List.mem_map.1 hn;exact Z05 (hK.names f hf)
 have hNm:=Z5c hD hK.toL;have HID:Hid (idsO D=ns.filterMap Z03):=by unfold Hid;rw [hns];rfl
 refine callsIn_of_wp Tryz.func183 rfl trivial ?_ rfl;simp only [Tryz.ntmps183,List.size_toArray,List.length_cons,List.length_nil,Nat.reduceAdd,Nat.reduceSub,Array.replicate_succ,Array.replicate_zero,List.push_toArray,List.append_toArray,List.nil_append,List.cons_append];have HNm:=qI hNm;clear hNm
 gi_wp2
 refine ⟨trivial,?_⟩;refine (callsIn_wide.2 HNm.out).mono ?_;rintro e w1 ⟨A,c,rfl,ho,hb⟩;have hJ1:=qI (hJ0 (Value.slice A D.l.length c).ownBlock w1 hb (fun k hk=>Z2C ho k hk));rw [←hns,hnl] at ho;rw [hnl] at hJ1 ⊢;clear hJ0 hns;have hN:=hK.len;rw [hnl] at hN
 gi_wp2
 gi_loopw [12] (fun i wr=>Zf4 ns A c W.heap.size (J (Value.slice A ns.length c).ownBlock) i wr) (fun i _=>ns.length-(intOf i).toNat)
 case atStart=>exact ⟨0,rfl,zL _,hJ1,ho⟩
 case round=>
  clear hJ1 ho hb;obtain ⟨k,rfl,hk,hJ,ho⟩:=hrel;have f1:IntKind.i64.wrap ((k:Int)+1)=(k:Int)+1:=qJ _ (by omega)
  by_cases hlt:k<ns.length
  ·have hd:decide ((k:Int)<(ns.length:Int))=true:=dT (by omega)
   have hd':(k:Int)<(ns.length:Int):=by omega
   have hk0:(0:Int)≤(k:Int):=by omega
   obtain ⟨y,hy⟩: ∃y,ns[k]?=some y:=⟨ns[k],gE hlt⟩;have hys:=hsm y (List.mem_of_getElem? hy);obtain ⟨bb,off,rfl,hbb,hcell⟩:=(Rd.of_own ho).at_ (by omega);have q0:wr.cell? ⟨bb,off+k,none⟩=some (.string y):=hcell _ _ (by rw [sc,List.getElem?_map,hy];rfl);have hTk:Hid ((ns.take (k+1)).filterMap Z03=(ns.take k).filterMap Z03++(Z03 y).toList):=by
    unfold Hid;rw [List.take_add_one,hy,List.filterMap_append];cases h9:Z03 y<;>simp [h9]
   have hid:=Z5L y;obtain ⟨cs,cb,hcs⟩: ∃cs cb,cutS y ⟨#[111,47]⟩=(cs,cb):=⟨_,_,rfl⟩;have hcsz:cs.size≤200:=by
    have h9:(cutS y ⟨#[111,47]⟩).1.size≤y.size:=by
     unfold cutS;split
     ·show (List.drop _ _).toArray.size≤_
      rw [List.size_toArray,List.length_drop,Zg];omega
     ·exact lR _
    rw [hcs] at h9;exact lT h9 hys
   have hC:=Z9i y ⟨#[111,47]⟩ wr (by unfold maxLen;omega) (by decide);rw [hcs] at hC hid;simp only at hC hid;have HC:=qI hC;have HI:=qI hid;clear hC hid hcs hy hcell
   gi_wp2
   refine ⟨trivial,?_⟩;refine (callsIn_wide.2 HC.out).mono ?_;rintro e z1 ⟨rfl,hz1⟩;obtain rfl:=hz1.symm;have hU:=Zbi cs wr (by omega)
   cases hu:Zx cs.data.toList with
   | none=>
    rw [hu] at hU;have HU:=qI hU;have hE:Hid ((ns.take (k+1)).filterMap Z03=(ns.take k).filterMap Z03):=by
     unfold Hid;rw [hTk.out,HI.out,hu];cases cb<;>simp
    clear hU hu
    gi_wp2
    refine ⟨trivial,?_⟩;refine (callsIn_wide.2 HU.out).mono ?_;rintro e z2 ⟨rfl,hz2⟩;have ho2:=Zh ho hz2;have hJ2:=qI (hJb _ _ _ _ hJ.out hz2)
    cases cb with
    | true=>
     gi_wp2
     refine ⟨fun f h=>(by cases h),?_⟩
     gi_wp2
     exact ⟨⟨k+1,by go_num,by omega,by rw [hE.out];exact hJ2,ho2⟩,by simp [intOf];omega⟩
    | false=>
     gi_wp2
     refine ⟨fun f h=>(by cases h),?_⟩
     gi_wp2
     exact ⟨⟨k+1,by go_num,by omega,by rw [hE.out];exact hJ2,ho2⟩,by simp [intOf];omega⟩
   | some q=>
    rw [hu] at hU;have HU:=qI hU;clear hU
    gi_wp2
    refine ⟨trivial,?_⟩;refine (callsIn_wide.2 HU.out).mono ?_;rintro e z2 ⟨q',hq',rfl,hz2⟩;have ho2:=Zh ho hz2;have hJ2:=qI (hJb _ _ _ _ hJ.out hz2)
    cases cb with
    | false=>
     have hE:Hid ((ns.take (k+1)).filterMap Z03=(ns.take k).filterMap Z03):=by
      unfold Hid;rw [hTk.out,HI.out];simp
     clear hu hq'
     gi_wp2
     refine ⟨fun f h=>(by cases h),?_⟩
     gi_wp2
     exact ⟨⟨k+1,by go_num,by omega,by rw [hE.out];exact hJ2,ho2⟩,by simp [intOf];omega⟩
    | true=>
     have hsz:(⟨q'.toArray⟩:BA).size=q'.length:=by show q'.toArray.size=_;rw [List.size_toArray]
     by_cases h32:q'.length=32
     ·have hT:Hid ((ns.take (k+1)).filterMap Z03=(ns.take k).filterMap Z03++[⟨q'.toArray⟩]):=by
       unfold Hid;rw [hTk.out,HI.out,hu];simp only [if_true];rw [←hq'.out,if_pos h32]
       rfl
      obtain ⟨s9,hs9⟩: ∃s9:BA,s9=⟨q'.toArray⟩:=⟨_,rfl⟩;rw [←hs9] at hT hsz ⊢;have d3:((s9.size:Int)==32)=true:=by rw [hsz,h32];rfl
      have hlen:((ns.take k).filterMap Z03).length<3518437208880:=by
       have h9:=List.length_filterMap_le Z03 (ns.take k);rw [List.length_take] at h9;omega
      obtain ⟨fn,tmps,assign,body,hyl,hRn⟩:=hY _ _ s9 z2 hJ2.out hlen;clear hu hq' hs9 hsz h32 hlen
      gi_wp2
      refine hRn.mono ?_;rintro e z3 ⟨rfl,hJ3,hsz3,hk3⟩;have ho3:=Z67 ho2 hk3
      gi_wp2
      exact ⟨⟨k+1,by go_num,by omega,by unfold Hid;rw [hT.out];exact hJ3,ho3⟩,by simp [intOf];omega⟩
     ·have hE:Hid ((ns.take (k+1)).filterMap Z03=(ns.take k).filterMap Z03):=by
       unfold Hid;rw [hTk.out,HI.out,hu];simp only [if_true];rw [←hq'.out,if_neg h32];simp
      obtain ⟨s9,hs9⟩: ∃s9:BA,s9=⟨q'.toArray⟩:=⟨_,rfl⟩;rw [←hs9] at hsz ⊢;have d3:((s9.size:Int)==32)=false:=by rw [hsz];simp;omega
      clear hu hq' hs9 hsz h32
      gi_wp2
      refine ⟨fun f h=>(by cases h),?_⟩
      gi_wp2
      exact ⟨⟨k+1,by go_num,by omega,by rw [hE.out];exact hJ2,ho2⟩,by simp [intOf];omega⟩
  ·have hd:decide ((k:Int)<(ns.length:Int))=false:=qF (by omega)
   have hE:Hid ((ns.take k).filterMap Z03=idsO D):=by unfold Hid;rw [HID.out,List.take_of_length_le (by omega)]
   gi_wp2
   go_end0;exact ⟨⟨_,rfl⟩,_,_,rfl,by rw [←hE.out];exact hJ.out⟩
theorem Z8E (p:OA) (W:World):Calls Tryz.prog 115 #[.pointer p] W fun e w'=>e= .returned (.func (.func 183) #[] #[.pointer (some ⟨W.heap.size,0,none⟩)])∧w'=W.alloc (.cells #[.pointer p] 25):=by
 go_in;go_wp2_with fail;go_ret;exact ⟨rfl,rfl⟩
def Zf6 (w:World) (l:List BA) (e:Ending) (w':World):Prop:=
 ∃(xs:List BA) (A:OA) (c:Nat),Hid (xs=l)∧e= .returned (.slice A xs.length c)∧w'.ownsRow w.heap.size 9 1 (.slice A xs.length c) xs.length (sc xs)∧Below w.heap.size w w'
theorem Z4X (h:Dsk w g m D) (hK:OkW D):Calls Tryz.prog 46 #[.pointer (some ⟨g,0,none⟩)] w (Zf6 w (idsO D)):=by
 have hb:Below w.heap.size w (w.alloc (.cells #[.pointer (some ⟨g,0,none⟩)] 25)):=(bR _ _).alloc (lR _) _;have hB:=Blk.new w 25 [.pointer (some ⟨g,0,none⟩)];have HI:=qI (Z8E (some ⟨g,0,none⟩) w);have HC:=qI (Z4z 183 #[.pointer (some ⟨w.heap.size,0,none⟩)] (enters_of Tryz.func183 (by kernel_rfl) rfl) _ 3518437208880 (lR _) _ (Zf5 (h.below hb) hK w.heap.size (by rw [hB.cell];rfl) (by simp)));go_in;go_wp2_with fail;refine HI.out.mono ?_;rintro e w1 ⟨rfl,hw1⟩;obtain rfl:=hw1.symm;go_wp2_with fail;refine HC.out.mono ?_;rintro e w2 ⟨xs,A,c,hS,rfl,ho,hb2⟩;go_wp2_with fail;go_ret;exact ⟨xs,A,c,hS,rfl,ho.base (by simp),hb.trans (hb2.mono (by simp))⟩
end
end Go.Proofs.YtecpbcmpncgokaaGreat
set_option linter.unusedVariables false
namespace Go.Dol
open Go.RowKit
theorem Z9g {a b:BA} (h:a=b):(a.toList !=b.toList)=false:=by rw [h];simp
theorem Z7g {a b:BA} (h:a≠b):(a.toList !=b.toList)=true:=by
 have:=Z2Q h;unfold bne;rw [this]
 rfl
theorem Zcl {l:LU} {b:BA}:(⟨l.toArray⟩:BA)=b↔l=b.data.toList:=by
 constructor
 ·intro h
  rw [←h]
 ·intro h
  exact Z4U (by simpa using h)
end Go.Dol
namespace Go.Proofs.YtecpbcmpncgokaaGreat
open Go.RowKit Go.Dol
section
variable {w:World} {g m:Nat} {D:Dk}
set_option maxRecDepth 100000 in
set_option maxHeartbeats 1600000 in
theorem Z3c (h:Dsk w g m D) (hK:OkW D) (id:BA) (hid:id.size≤70368744177600):
  Calls Tryz.prog 44 #[.pointer (some ⟨g,0,none⟩),.string id] w (Ze9 w (getO geS D id)):=by
 obtain ⟨r,hr⟩: ∃r,r=getO geS D id:=⟨_,rfl⟩;rw [←hr];have HR:=qI hr;clear hr;have HRi:=qI (Z3M h hK id);go_in;go_wp2_with fail;refine HRi.out.mono ?_
 by_cases hs:id.size=32
 ·have h32:=qI hs
  have hnB:=(Z3d hs).1;clear hs;rw [dT h32.out];rintro e w1 ⟨rfl,hb1⟩;have h1:=h.below hb1;have HN:=qI (Z1C id w1 hid);go_wp2_with fail;refine HN.out.mono ?_;rintro e w2 ⟨rfl,hb2⟩;have h2:=h1.below hb2;have hb02:=hb1.next hb2;have hRd:=ZY h2 hK.ord (Zd id) (fun b hb=>hK.small' hb)
  cases hl:Z4 D.l (Zd id) with
  | none=>
   have hrd:Zq D (Zd id)=([],3):=by
    unfold Zq;rw [if_neg (by rw [hnB];decide),hl]
   rw [hrd] at hRd;have HRd:=qI hRd;have hr:Hid (r= .error 6):=by
    unfold Hid;rw [HR.out];unfold getO;rw [if_neg (by rw [h32.out];simp),hl]
   clear hRd hl hrd;go_wp2_with fail;refine HRd.out.mono ?_;rintro e w3 ⟨b,A,c,hbr,rfl,ho3,hb3⟩;have hb03:=hb02.next hb3;obtain rfl:b=[]:=hbr.out;go_wp2_with fail;go_ret2;rw [hr.out];exact ⟨hb03,rfl⟩
  | some q=>
   have hrd:Zq D (Zd id)=(q,0):=by
    unfold Zq;rw [if_neg (by rw [hnB];decide),hl]
   rw [hrd] at hRd;have HRd:=qI hRd;clear hRd hrd;go_wp2_with fail;refine HRd.out.mono ?_;rintro e w3 ⟨b,A,c,hbr,rfl,ho3,hb3⟩;have hb03:=hb02.next hb3;have hbq:Hid (b=q):=hbr;have hbl:=hK.small' hl;have hcl:=Z3w ho3;have hbl':b.length≤140737488355328:=by rw [hbq.out];exact hbl
   have HOp:=qI (Zef A b c 2097152 w3 (Rd.of_own ho3) hbl' hcl.1 (fun s r _ h=>by omega));clear hbr HRd;go_wp2_with fail;refine HOp.out.mono ?_
   cases hop:Z1v b 2097152 with
   | none=>
    have hr:Hid (r= .error 2):=by
     unfold Hid;rw [HR.out];unfold getO;rw [if_neg (by rw [h32.out];simp),hl];simp only;rw [←hbq.out,hop]
    rintro e w4 ⟨rfl,hb4⟩;clear hl hop;go_wp2_with fail;go_ret2;rw [hr.out];exact ⟨hb03.next hb4,rfl⟩
   | some raw=>
    rintro e w4 ⟨p,A4,c4,hp,rfl,ho4,hb4,hp1,hp2⟩;have hb04:=hb03.next hb4;have hpl:p.length≤2097152:=by
     rw [hp.out];have:=(Z8X hop).2;omega
    have HS:=qI (Z3b A4 p c4 w4 (Rd.of_own ho4) (by omega));have hr:Hid (r=if Z21 p=id.data.toList∧ZB geS p=true then .ok p else .error 2):=by
     unfold Hid;rw [HR.out];unfold getO;rw [if_neg (by rw [h32.out];simp),hl];simp only;rw [←hbq.out,hop];simp only;rw [hp.out]
    clear hl hop hbq;go_wp2_with fail;refine HS.out.mono ?_;rintro e w5 ⟨rfl,hb5⟩;have hb05:=hb04.next hb5;have ho5:=Zh ho4 hb5
    by_cases hs:idO p=id
    ·have q1:((idO p).toList !=id.toList)=false:=Z9g hs
     have q2:((idO p).toList==id.toList)=true:=Z4i hs;have hS:Hid (Z21 p=id.data.toList):=Zcl.1 hs;have hD:=Z3m A4 p c4 w5 (Rd.of_own ho5) hp1 hp2 (by omega);clear hs
     cases hdec:decO geS p with
     | none=>
      rw [hdec] at hD;have HD:=qI hD;have hr2:Hid (r= .error 2):=by
       unfold Hid;rw [hr.out,if_neg (by unfold ZB;rw [hdec];simp)]
      clear hD hdec;go_wp2_with fail;refine HD.out.mono ?_;rintro e w6 ⟨rfl,hb6⟩;go_wp2_with fail;go_ret2;rw [hr2.out];exact ⟨(hb05.next hb6).alloc (hb05.next hb6).size _,rfl⟩
     | some o=>
      rw [hdec] at hD;have HD:=qI hD;have hr2:Hid (r= .ok p):=by
       unfold Hid;rw [hr.out,if_pos ⟨hS.out,by unfold ZB;rw [hdec];rfl⟩]
      clear hD hdec;go_wp2_with fail;refine HD.out.mono ?_;rintro e w6 ⟨k,Ad,d,cd,Ae,en,ce,tr,Ap,pa,cp,ta,na,wh,st,te,ho,rfl,_,_,_,hb6,_,_,_⟩;have ho6:=Zh ho5 hb6;have hsz:w.heap.size≤w3.heap.size:=hb03.size;clear ho;go_wp2_with fail;go_ret2;rw [hr2.out];exact ⟨(hb05.next hb6).alloc (hb05.next hb6).size _,p,A4,c4,rfl,rfl,(ho6.alloc _).base hsz,hp1,hp2⟩
    ·have q1:((idO p).toList !=id.toList)=true:=Z7g hs
     have q2:((idO p).toList==id.toList)=false:=Z2Q hs;have hr2:Hid (r= .error 2):=by
      unfold Hid;rw [hr.out,if_neg (fun h=>hs (Zcl.2 h.1))]
     clear hs;go_wp2_with fail;go_ret2;rw [hr2.out];exact ⟨hb05,rfl⟩
 ·have h32:=qI hs
  have hr:Hid (r= .error 1):=by
   unfold Hid;rw [HR.out];unfold getO;rw [if_pos hs]
  clear hs;rw [qF h32.out];rintro e w1 ⟨rfl,hb1⟩;go_wp2_with fail;go_ret2;rw [hr.out];exact ⟨hb1,rfl⟩
end
end Go.Proofs.YtecpbcmpncgokaaGreat
