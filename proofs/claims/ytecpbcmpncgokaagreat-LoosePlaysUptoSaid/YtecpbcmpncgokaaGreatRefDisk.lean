/- The walks of the document's 'disk', its first part: names, how its disk lies, where a name stands. Conditions: a disk in good order. -/
import Derived.Test.YtecpbcmpncgokaaGreatTw
import Derived.Test.YtecpbcmpncgokaaGreatDisk3
import Derived.Laws.Cover1
import Derived.Deep.QuietTactic
import Derived.BigQuiet
import Derived.Test.YtecpbcmpncgokaaGreatWordsA
import Derived.Test.YtecpbcmpncgokaaGreatDiskLaw
import Derived.Deep.Onto
import Derived.Deep.RegionHeld3
import Derived.Test.YtecpbcmpncgokaaGreatShort
set_option maxRecDepth 100000
set_option maxHeartbeats 3200000
set_option linter.unusedVariables false
namespace Go.Dol
open Go.RowKit
theorem Zfu (x y:LU):Op.bytesLess x y=decide (x<y):=by
 induction x generalizing y with
 | nil=>
  cases y with
  | nil=>rfl
  | cons b y=>simp [Op.bytesLess]
 | cons a x ih=>
  cases y with
  | nil=>simp [Op.bytesLess]
  | cons b y=>
   simp only [Op.bytesLess,ih,List.cons_lt_cons_iff]
   by_cases h1:a<b<;>by_cases h2:a=b<;>simp [h1,h2]
theorem Zb4 (a b:BA):Op.bytesLess a.toList b.toList=sLt a b:=by
 rw [ByteArray.toList_eq,ByteArray.toList_eq,Zfu]
 rfl
theorem Zc5 {a b:BA} (h:a=b):(a.toList==b.toList)=true:=by rw [h];exact beq_self_eq_true _
theorem Zc6 {a b:BA} (h: ¬a=b):(a.toList==b.toList)=false:=by
 refine beq_eq_false_iff_ne.2 fun e=>h (Z4U ?_);rw [ByteArray.toList_eq,ByteArray.toList_eq] at e;exact e
theorem Zb5 (s:BA) {k:Nat} (h:k<s.size):s[k]'h=s.data.toList[k]'(by rw [Zg];exact h):=rfl
theorem Z9C {s:BA} {k:Nat} (h:k<s.data.toList.length) (hc:s.data.toList[k]=0):Z8 s=false:=by
 unfold Z8;have:s.data.toList.contains 0=true:=by rw [List.contains_iff_mem,←hc];exact List.getElem_mem h
 rw [this];simp
theorem Zc7 {s:BA} (h: ∀(j:Nat) (hj:j<s.data.toList.length),s.data.toList[j]≠0):Z8 s=(decide (1≤s.size)&&decide (s.size≤200)):=by
 have h0:s.data.toList.contains 0=false:=by
  rw [Bool.eq_false_iff];intro h1;rw [List.contains_iff_mem] at h1;obtain ⟨j,hj,e⟩:=List.getElem_of_mem h1;exact h j hj e
 unfold Z8;rw [h0];simp
theorem Zde {x:UInt8} (h:x≠0):((x.toNat:Int)==0)=false:=beq_eq_false_iff_ne.2 fun e=>h (UInt8.toNat_inj.1 (by show x.toNat=0;omega))
end Go.Dol
namespace Go.Proofs.YtecpbcmpncgokaaGreat
open Go.RowKit Go.Dol
def ZgM (s:BA) (w:World) (i:Value) (wr:World):Prop:=w=wr∧ ∃k:Nat,i= .int .i64 k∧k≤s.size∧Hid (∀(j:Nat) (hj:j<s.data.toList.length),j<k→s.data.toList[j]≠0)
theorem Z06 (s:BA) (w:World) (hs:s.size≤maxLen):Calls Tryz.prog 136 #[.string s] w fun e w'=>e= .returned (.bool (Z8 s))∧w'=w:=by
 have hsm:s.size≤9223372036854775807:=by unfold maxLen at hs;omega
 obtain ⟨r,hr⟩: ∃r,r=Z8 s:=⟨_,rfl⟩;rw [←hr];have HR:=qI hr;clear hr;go_in;go_wp2_with fail;go_loopw [3] (fun i wr=>ZgM s w i wr) (fun i _=>s.size-(intOf i).toNat)
 case atStart=>exact ⟨rfl,0,rfl,zL _,qI (fun j _ h=>by omega)⟩
 case round=>
  obtain ⟨rfl,k,rfl,hk,hall⟩:=hrel
  by_cases h1:k<s.size
  ·have f2:IntKind.i64.wrap ((k:Int)+1)=(k:Int)+1:=qJ _ (by omega)
   have d1:decide ((k:Int)<(s.size:Int))=true:=dT (by omega);have d1':(k:Int)<(s.size:Int):=by omega
   have hk0:(0:Int)≤(k:Int):=by omega
   have hkl:k<s.data.toList.length:=by rw [Zg];exact h1
   obtain ⟨c,hc⟩: ∃c,c=s.data.toList[k]:=⟨_,rfl⟩;have hsx: ∀h:k<s.size,(s[k]'h).toNat=c.toNat:=fun h=>by rw [Zb5 s h,hc]
   have HC:=qI hc;clear hc
   by_cases h2:c=0
   ·have g2:((c.toNat:Int)==0)=true:=by rw [h2];rfl
    have HF:Hid (r=false):=by unfold Hid;rw [HR.out];exact Z9C hkl (by rw [←HC.out];exact h2)
    clear h2;go_wp2_with fail;go_ret;rw [HF.out];exact ⟨rfl,rfl⟩
   ·have g2:=Zde h2
    have H2:Hid (c≠0):=h2;clear h2;go_wp2_with fail;refine ⟨⟨rfl,k+1,by go_num,by omega,qI fun j hj hjk=> ?_⟩,by simp [intOf];omega⟩
    by_cases e:j=k
    ·subst e
     rw [←HC.out];exact H2.out
    ·exact hall.out j hj (by omega)
  ·have d1:decide ((k:Int)<(s.size:Int))=false:=qF (by omega)
   have d1n:decide (k<s.size)=false:=qF h1;have HF:Hid (r=(decide (1≤s.size)&&decide (s.size≤200))):=by
    unfold Hid;rw [HR.out];exact Zc7 fun j hj=>hall.out j hj (by rw [Zg] at hj;omega)
   by_cases h3:1≤s.size
   ·have e1:decide ((s.size:Int)≥1)=true:=dT (by omega)
    have e1':decide ((1:Int)≤(s.size:Int))=true:=dT (by omega);have n1:decide (1≤s.size)=true:=dT h3
    by_cases h4:s.size≤200
    ·have e2:decide ((s.size:Int)≤200)=true:=dT (by omega)
     have n2:decide (s.size≤200)=true:=dT h4;have HF2:Hid (r=true):=by unfold Hid;rw [HF.out,n1,n2];rfl
     clear h3 h4;go_wp2_with fail;go_ret;rw [HF2.out];exact ⟨rfl,rfl⟩
    ·have e2:decide ((s.size:Int)≤200)=false:=qF (by omega)
     have n2:decide (s.size≤200)=false:=qF h4;have HF2:Hid (r=false):=by unfold Hid;rw [HF.out,n1,n2];rfl
     clear h3 h4;go_wp2_with fail;go_ret;rw [HF2.out];exact ⟨rfl,rfl⟩
   ·have e1:decide ((s.size:Int)≥1)=false:=qF (by omega)
    have e1':decide ((1:Int)≤(s.size:Int))=false:=qF (by omega);have n1:decide (1≤s.size)=false:=qF h3;have HF2:Hid (r=false):=by unfold Hid;rw [HF.out,n1];rfl
    clear h3;go_wp2_with fail;go_ret;rw [HF2.out];exact ⟨rfl,rfl⟩
def Z43 (cap:Int) (A:OA) (n c:Nat) (done:Nat) (left:Int) (dark:Bool):List Value:=[.int .i64 cap,.slice A n c,.int .i64 (opsD done),.int .i64 left,.bool dark]
def Rdk (w:World) (g:Nat) (D:Dk):Prop:=
 ∃(fs:List FilA) (A:OA) (c:Nat),Blk w g 54 (Z43 D.cap A fs.length c D.done D.left D.dark)∧w.ownsRow 0 110 2 (.slice A fs.length c) fs.length (fc fs)∧Fls8 w 0 fs∧Hid (fs.map FilA.f=D.l)
section
variable {w w':World} {g:Nat} {D:Dk}
theorem Rdk.lt (h:Rdk w g D):g<w.heap.size:=by
 obtain ⟨fs,A,c,hB,_⟩:=h;exact hB.lt
theorem Rdk.below (h:Rdk w g D) (hb:Below w.heap.size w w'):Rdk w' g D:=by
 obtain ⟨fs,A,c,hB,hO,hF,hL⟩:=h;exact ⟨fs,A,c,hB.below hb hB.lt,Zh hO hb,hF.below hb,hL⟩
theorem Rdk.drew (h:Rdk w g D):Rdk w.drew g D:=h.below ⟨rfl,rfl,rfl,lR _,fun _ _=>rfl⟩
theorem Rdk.drewN (h:Rdk w g D) (k:Nat):Rdk (w.drewN k) g D:=h.below ⟨rfl,rfl,rfl,lR _,fun _ _=>rfl⟩
theorem Rdk.row (h:Rdk w g D): ∃(fs:List FilA) (A:OA) (c:Nat),w.cell? ⟨g,0,none⟩=some (.int .i64 D.cap)∧w.cell? ⟨g,1,none⟩=some (.slice A fs.length c)∧w.cell? ⟨g,2,none⟩=some (.int .i64 (opsD D.done))∧w.cell? ⟨g,3,none⟩=some (.int .i64 D.left)∧w.cell? ⟨g,4,none⟩=some (.bool D.dark)∧
  Rd w w.heap.size 2 A fs.length (fc fs)∧fs.length≤c∧c≤maxLen∧Fls8 w 0 fs∧Hid (fs.map FilA.f=D.l):=by
 obtain ⟨fs,A,c,hB,hO,hF,hL⟩:=h;obtain ⟨h1,h2⟩:=Z3w hO;exact ⟨fs,A,c,by rw [hB.cell];rfl,by rw [hB.cell];rfl,by rw [hB.cell];rfl,by rw [hB.cell];rfl,by rw [hB.cell];rfl,Rd.of_own hO,h1,h2,hF,hL⟩
theorem Z9D {fs:List FilA} {l:List Fil} (h:fs.map FilA.f=l) {k:Nat} {x:FilA} (hx:fs[k]?=some x):l[k]?=some (x.n,x.b):=by
 rw [←h,List.getElem?_map,hx]
 rfl
def ZgN (l:List Fil) (n:BA) (w:World) (i:Value) (wr:World):Prop:=w=wr∧ ∃k:Nat,i= .int .i64 k∧k≤l.length∧Hid (∀j,j<k→ ∃f,l[j]?=some f∧sLt f.1 n=true)
theorem Z3r (h:Rdk w g D) (n:BA) (hl:D.l.length≤140737488355328):
  Calls Tryz.prog 157 #[.pointer (some ⟨g,0,none⟩),.string n] w fun e w'=> ∃nq,e= .returned (.tuple #[.int .i64 (Z0e D.l n:Nat),.bool (Z4 D.l n).isSome])∧w'=w.drewN nq:=by
 obtain ⟨fs,A,c,k0,k1,k2,k3,k4,hr,hc,hcm,hF,hL⟩:=h.row;have hlen:D.l.length=fs.length:=by rw [←hL.out,List.length_map]
 have HLen:=qI hlen;have hfl:fs.length≤140737488355328:=by omega
 have hle1:D.l.length≤fs.length:=by omega
 have hle2:fs.length≤D.l.length:=by omega
 clear hlen;go_in;go_wp2_with fail;go_loopw [6] (fun i wr=>ZgN D.l n w i wr) (fun i _=>fs.length-(intOf i).toNat)
 case atStart=>exact ⟨rfl,0,rfl,zL _,qI (fun j h=>by omega)⟩
 case round=>
  obtain ⟨rfl,k,rfl,hk,hb⟩:=hrel
  by_cases h1:k<fs.length
  ·have d1:decide ((k:Int)<(fs.length:Int))=true:=dT (by omega)
   have d1':(k:Int)<(fs.length:Int):=by omega
   have hk0:(0:Int)≤(k:Int):=by omega
   obtain ⟨x,hx⟩: ∃x,fs[k]?=some x:=⟨fs[k],gE h1⟩;have hx1:=Z9D hL.out hx;obtain ⟨x1,x2⟩:=Z0X hx;obtain ⟨bb,off,rfl,hbb,hcell⟩:=hr.at_ (by omega);have q0:w.cell? ⟨bb,off+k*2,none⟩=_:=hcell _ _ x1;obtain ⟨xn,xb,xA,xc⟩:=x;simp only at q0 hx1;have HX:=qI hx1;clear x1 x2 hx hx1 hcell
   cases hs:sLt xn n with
   | true=>
    have g2:Op.bytesLess xn.toList n.toList=true:=by rw [Zb4];exact hs
    have f2:IntKind.i64.wrap ((k:Int)+1)=(k:Int)+1:=qJ _ (by omega);have HS:=qI hs;clear hs;go_wp2_with fail;refine ⟨⟨rfl,k+1,by go_num,by omega,qI fun j hj=> ?_⟩,by simp [intOf];omega⟩
    by_cases e:j=k
    ·rw [e]
     exact ⟨_,HX.out,HS.out⟩
    ·exact hb.out j (by omega)
   | false=>
    have g2:Op.bytesLess xn.toList n.toList=false:=by rw [Zb4];exact hs
    have hfd:Z0e D.l n=k:=Zcj hk hb.out (fun f hf=>by rw [HX.out] at hf;injection hf with hf;rw [←hf];exact hs);have HFd:=qI hfd;have hlk:Z4 D.l n=if xn=n then some xb else none:=by rw [Z5f,hfd,HX.out]
    by_cases hq:xn=n
    ·have g3:=Zc5 hq
     have HLk:Hid (Z4 D.l n=some xb):=by unfold Hid;rw [hlk,if_pos hq]
     clear hs hq hlk hfd;go_wp2_with fail;go_quiet (fail);go_wp2_with fail;go_ret2;rw [HFd.out,HLk.out];exact ⟨nq,rfl,rfl⟩
    ·have g3:=Zc6 hq
     have HLk:Hid (Z4 D.l n=none):=by unfold Hid;rw [hlk,if_neg hq]
     clear hs hq hlk hfd;go_wp2_with fail;go_quiet (fail);go_wp2_with fail;go_ret2;rw [HFd.out,HLk.out];exact ⟨nq,rfl,rfl⟩
  ·have d1:decide ((k:Int)<(fs.length:Int))=false:=qF (by omega)
   have d1n:decide (k<fs.length)=false:=qF h1;have hkl:k=D.l.length:=by omega
   have hfd:Z0e D.l n=k:=Zcj hk hb.out (fun f hf=>by rw [List.getElem?_eq_none (by omega)] at hf;cases hf);have HFd:=qI hfd;have HLk:Hid (Z4 D.l n=none):=by unfold Hid;rw [Z5f,hfd,List.getElem?_eq_none (by omega)]
   clear hkl hfd;go_wp2_with fail;go_quiet (fail);go_wp2_with fail;go_ret2;rw [HFd.out,HLk.out];exact ⟨nq,rfl,rfl⟩
theorem ZT (h:Rdk w g D) (n:BA) (hl:D.l.length≤140737488355328):
  Calls Tryz.prog 125 #[.pointer (some ⟨g,0,none⟩),.string n] w fun e w'=> ∃nq,e= .returned (.bool (Z4 D.l n).isSome)∧w'=w.drewN nq:=by
 have HF:=qI (Z3r h n hl);go_in;go_wp2_with ((go_at_call 157;refine HF.out.mono ?_;rintro e w' ⟨nq,rfl,rfl⟩));go_ret;exact ⟨nq,rfl,rfl⟩
theorem Z9E (cap:Int) (w:World) (h1:0≤cap) (h2:cap≤1099511627776):
  Calls Tryz.prog 135 #[.int .i64 cap] w fun e w'=> ∃g,e= .returned (.tuple #[.pointer (some ⟨g,0,none⟩),.int .i64 0])∧Rdk w' g ⟨cap,[],0,-1,false⟩∧w.heap.size≤g∧Below w.heap.size w w':=by
 have d1:decide (cap<0)=false:=qF (by omega);have d2:decide (cap>1099511627776)=false:=qF (by omega);have d2':decide (1099511627776<cap)=false:=qF (by omega);go_in;go_wp2_with fail;go_ret2;have h:=Blk.new w 54 (Z43 cap none 0 0 0 (-1) false);refine ⟨w.heap.size,rfl,⟨[],none,0,h,World.ownsRow_nil _ _ _ _,fun x hx=>(List.not_mem_nil hx).elim,rfl⟩,lR _,(bR _ _).alloc (lR _) _⟩
theorem Z7E (cap:Int) (w:World) (h:cap<0∨1099511627776<cap):
  Calls Tryz.prog 135 #[.int .i64 cap] w fun e w'=>e= .returned (.tuple #[.pointer none,.int .i64 1])∧w'=w:=by
 rcases h with h | h
 ·have d1:decide (cap<0)=true:=dT (by omega)
  go_in;go_wp2_with fail;go_ret2;exact ⟨rfl,rfl⟩
 ·have d1:decide (cap<0)=false:=qF (by omega)
  have d2:decide (cap>1099511627776)=true:=dT (by omega);have d2':decide (1099511627776<cap)=true:=dT (by omega);go_in;go_wp2_with fail;go_ret2;exact ⟨rfl,rfl⟩
end
def RetR (w:World) (g:Nat) (r:Int×Dk) (e:Ending) (w':World):Prop:=e= .returned (.int .i64 r.1)∧Rdk w' g r.2∧w.grownBy w' (some g)
section
variable {w w':World} {g:Nat} {D:Dk}
theorem Rdk.free (h:Rdk w g D) (i:Nat):w.frozen? ⟨g,i,none⟩=false:=by
 obtain ⟨fs,A,c,hB,_⟩:=h;exact hB.free i
theorem Rdk.turn (h:Rdk w g D) {D':Dk} (hl:D'.l=D.l) (hB': ∀fs:List FilA,∀A:OA,∀c:Nat,Blk w g 54 (Z43 D.cap A fs.length c D.done D.left D.dark)→Blk w' g 54 (Z43 D'.cap A fs.length c D'.done D'.left D'.dark)) (hg:w.grownBy w' (some g)):Rdk w' g D':=by
 obtain ⟨fs,A,c,hB,hO,hF,hL⟩:=h;refine ⟨fs,A,c,hB' fs A c hB,Zc hO hB (by decide) hg,hF.keep hg (Other.blk hB (by decide) (zL _)),?_⟩;unfold Hid;rw [hl];exact hL
theorem Z2u (h:Rdk w g D) (n:BA) (hn:n.size≤maxLen) (hl:D.l.length≤140737488355328):
  Calls Tryz.prog 196 #[.pointer (some ⟨g,0,none⟩),.string n] w fun e w'=> ∃nq,e= .returned (.int .i64 (ZZ D n))∧w'=w.drewN nq:=by
 have HN:=Z06 n w hn;have HH:=qI (ZT h n hl);obtain ⟨fs,A,c,k0,k1,k2,k3,k4,_⟩:=h.row;obtain ⟨t,ht⟩: ∃t,t=ZZ D n:=⟨_,rfl⟩;rw [←ht];obtain ⟨is,his⟩: ∃is,is=(Z4 D.l n).isSome:=⟨_,rfl⟩;rw [←his] at HH;have hT:t=if Z8 n=false then 1 else if D.dark=true then 5 else if is=true then 0 else 3:=by rw [ht,his];rfl
 clear ht his
 cases hB:Z8 n with
 | false=>
  rw [hB,if_pos rfl] at hT;rw [hB] at HN;have HT:=qI hT;have HN2:=qI HN;clear hT HN hB;go_in;go_wp2_with ((go_at_call 136;refine HN2.out.mono ?_;rintro e w1 ⟨rfl,hw1⟩;obtain rfl:=hw1.symm));go_ret;exact ⟨0,by rw [HT.out];rfl,rfl⟩
 | true=>
  rw [hB,if_neg (by decide)] at hT;rw [hB] at HN;have HN2:=qI HN;clear HN hB
  cases hd:D.dark with
  | true=>
   rw [hd,if_pos rfl] at hT;rw [hd] at k4;have HT:=qI hT;clear hT hd;go_in;go_wp2_with ((go_at_call 136;refine HN2.out.mono ?_;rintro e w1 ⟨rfl,hw1⟩;obtain rfl:=hw1.symm));go_ret;exact ⟨0,by rw [HT.out];rfl,rfl⟩
  | false=>
   rw [hd,if_neg (by decide)] at hT;rw [hd] at k4;clear hd
   cases is with
   | true=>
    rw [if_pos rfl] at hT;have HT:=qI hT;clear hT;go_in
    go_wp2_with (first
     | (go_at_call 136;refine HN2.out.mono ?_;rintro e w1 ⟨rfl,hw1⟩;obtain rfl:=hw1.symm)
     | (go_at_call 125;refine HH.out.mono ?_;rintro e w1 ⟨nq,rfl,rfl⟩))
    go_ret;exact ⟨nq,by rw [HT.out];rfl,rfl⟩
   | false=>
    rw [if_neg (by decide)] at hT;have HT:=qI hT;clear hT;go_in
    go_wp2_with (first
     | (go_at_call 136;refine HN2.out.mono ?_;rintro e w1 ⟨rfl,hw1⟩;obtain rfl:=hw1.symm)
     | (go_at_call 125;refine HH.out.mono ?_;rintro e w1 ⟨nq,rfl,rfl⟩))
    go_ret;exact ⟨nq,by rw [HT.out];rfl,rfl⟩
theorem Zb6 (h:Rdk w g D):Calls Tryz.prog 28 #[.pointer (some ⟨g,0,none⟩)] w fun e w'=>e= .returned (.tuple #[])∧Rdk w' g (onD D)∧w.grownBy w' (some g):=by
 obtain ⟨fs,A,c,k0,k1,k2,k3,k4,_⟩:=h.row;have z3:=h.free 3;have z4:=h.free 4;go_in;go_wp2_with fail;go_end0;have hg:w.grownBy ((w.setCell ⟨g,4,none⟩ (.bool false)).setCell ⟨g,3,none⟩ (.int .i64 (-1))) (some g):=Z0 (Z0 (gR w _) 4 _) 3 _;exact ⟨rfl,h.turn (D':=onD D) rfl (fun fs A c hB=>(hB.set 4 _).set 3 _) hg,hg⟩
theorem Z9F (h:Rdk w g D) (k:Int):Calls Tryz.prog 26 #[.pointer (some ⟨g,0,none⟩),.int .i64 k] w (RetR w g (cutD D k)):=by
 obtain ⟨fs,A,c,k0,k1,k2,k3,k4,_⟩:=h.row;have z3:=h.free 3
 by_cases hk:k<0
 ·have d1:decide (k<0)=true:=dT hk
  have HF:Hid (cutD D k=(1,D)):=if_pos hk;clear hk;go_in;go_wp2_with fail;go_ret;rw [HF.out];exact ⟨rfl,h,gR w _⟩
 ·have d1:decide (k<0)=false:=qF hk
  cases hd:D.dark with
  | true=>
   have HF:Hid (cutD D k=(0,D)):=by unfold Hid cutD;rw [if_neg hk,if_pos hd]
   rw [hd] at k4;clear hk;go_in;go_wp2_with fail;go_ret;rw [HF.out];exact ⟨rfl,h,gR w _⟩
  | false=>
   have HF:Hid (cutD D k=(0,{ D with left:=k })):=by unfold Hid cutD;rw [if_neg hk,if_neg (by rw [hd];decide)]
   rw [hd] at k4;clear hk;go_in;go_wp2_with fail;go_ret;rw [HF.out];have hg:w.grownBy (w.setCell ⟨g,3,none⟩ (.int .i64 k)) (some g):=Z0 (gR w _) 3 _;exact ⟨rfl,h.turn (D':={ D with left:=k }) rfl (fun fs A c hB=>hB.set 3 _) hg,hg⟩
end
end Go.Proofs.YtecpbcmpncgokaaGreat
namespace Go.Dol
open Go.RowKit
def spR (D:Dk):Bool×Dk:=if D.left=0 then (false,{ D with dark:=true,left:=-1 }) else (true,{ D with left:=if 0<D.left then D.left-1 else D.left,done:=D.done+1 })
theorem ZL (D:Dk) (l':List Fil):Zw D l'=if (spR D).1=true then (0,{ (spR D).2 with l:=l' }) else (5,(spR D).2):=by
 unfold Zw spR
 by_cases h:D.left=0
 ·rw [if_pos h,if_pos h,if_neg (fun h=>by cases h)]
 ·rw [if_neg h,if_neg h,if_pos rfl]
end Go.Dol
namespace Go.Proofs.YtecpbcmpncgokaaGreat
open Go.RowKit Go.Dol
theorem Z8Z (n:Nat):IntKind.i64.wrap (opsD n+1)=opsD (n+1):=by
 have h:=Z3J (n:Int) (-1);have e1:IntKind.i64.wrap (n:Int)- -1=opsD n+1:=by unfold opsD;omega
 have e2:(n:Int)- -1=((n+1:Nat):Int):=by omega
 rw [e1,e2] at h;exact h
section
variable {w w':World} {g:Nat} {D:Dk}
theorem Z0J (h:Rdk w g D) (hK:OkW D):Calls Tryz.prog 197 #[.pointer (some ⟨g,0,none⟩)] w fun e w'=>e= .returned (.bool (spR D).1)∧Rdk w' g (spR D).2∧w.grownBy w' (some g):=by
 obtain ⟨fs,A,c,k0,k1,k2,k3,k4,_⟩:=h.row;have z2:=h.free 2;have z3:=h.free 3;have z4:=h.free 4;have hl0:=hK.left0;have hl1:=hK.left1
 by_cases h0:D.left=0
 ·have HF:Hid (spR D=(false,{ D with dark:=true,left:=-1 })):=if_pos h0
  rw [h0] at k3;clear h0 hl0 hl1;go_in;go_wp2_with fail;go_ret;rw [HF.out];have hg:w.grownBy ((w.setCell ⟨g,4,none⟩ (.bool true)).setCell ⟨g,3,none⟩ (.int .i64 (-1))) (some g):=Z0 (Z0 (gR w _) 4 _) 3 _;exact ⟨rfl,h.turn (D':={ D with dark:=true,left:=-1 }) rfl (fun fs A c hB=>(hB.set 4 _).set 3 _) hg,hg⟩
 ·have hz:(D.left==0)=false:=beq_eq_false_iff_ne.2 h0
  have hop:=Z8Z D.done
  by_cases hp:0<D.left
  ·have HF:Hid (spR D=(true,{ D with left:=D.left-1,done:=D.done+1 })):=by unfold Hid spR;rw [if_neg h0,if_pos hp]
   have d1:decide (D.left>0)=true:=dT hp;have d1':decide (0<D.left)=true:=dT hp;have f1:IntKind.i64.wrap (D.left-1)=D.left-1:=qJ _ (by omega);obtain ⟨od,hod⟩: ∃od,od=opsD (D.done+1):=⟨_,rfl⟩;rw [←hod] at hop;have HOD:=qI hod;clear hod h0;go_in;go_wp2_with fail;go_ret;rw [HF.out];have hg:w.grownBy ((w.setCell ⟨g,3,none⟩ (.int .i64 (D.left-1))).setCell ⟨g,2,none⟩ (.int .i64 od)) (some g):=Z0 (Z0 (gR w _) 3 _) 2 _;refine ⟨rfl,h.turn (D':={ D with left:=D.left-1,done:=D.done+1 }) rfl (fun fs A c hB=> ?_) hg,hg⟩;have:=(hB.set 3 (.int .i64 (D.left-1))).set 2 (.int .i64 od);rw [HOD.out] at this ⊢;exact this
  ·have HF:Hid (spR D=(true,{ D with left:=D.left,done:=D.done+1 })):=by unfold Hid spR;rw [if_neg h0,if_neg hp]
   have d1:decide (D.left>0)=false:=qF hp;have d1':decide (0<D.left)=false:=qF hp;obtain ⟨od,hod⟩: ∃od,od=opsD (D.done+1):=⟨_,rfl⟩;rw [←hod] at hop;have HOD:=qI hod;clear hod h0;go_in;go_wp2_with fail;go_ret;rw [HF.out];have hg:w.grownBy (w.setCell ⟨g,2,none⟩ (.int .i64 od)) (some g):=Z0 (gR w _) 2 _;refine ⟨rfl,h.turn (D':={ D with left:=D.left,done:=D.done+1 }) rfl (fun fs A c hB=> ?_) hg,hg⟩;have:=hB.set 2 (.int .i64 od);rw [HOD.out] at this ⊢;exact this
theorem Z4M (h:Rdk w g D) (hK:OkW D) (n:BA) (hn:n.size≤maxLen) (hl:D.l.length≤140737488355328):Calls Tryz.prog 201 #[.pointer (some ⟨g,0,none⟩),.string n] w (RetR w g (ZM D n)):=by
 have hT:=Z2u h n hn hl;obtain ⟨t,ht⟩: ∃t,t=ZZ D n:=⟨_,rfl⟩;rw [←ht] at hT;have HT:=qI hT;clear hT
 by_cases h0:t=0
 ·have HF:Hid (ZM D n=Zw D D.l):=by unfold Hid ZM;rw [if_neg (by rw [←ht,h0];simp)]
  subst h0;clear ht;go_in;go_wp2_with ((go_at_call 196;refine HT.out.mono ?_;rintro e w1 ⟨nq,rfl,rfl⟩));have HS:=Z0J (h.drewN nq) hK;have hgq:w.grownBy (w.drewN nq) (some g):=Z5 ((bR _ _).drewN' nq) _
  cases hs:(spR D).1 with
  | true=>
   have HE:Hid (ZM D n=(0,(spR D).2)):=by
    unfold Hid;rw [HF.out,ZL,if_pos hs];have hl2:(spR D).2.l=D.l:=by unfold spR;split<;>rfl
    rw [←hl2]
   rw [hs] at HS;have HS2:=qI HS;clear HS hs;refine HS2.out.mono ?_;rintro e w2 ⟨rfl,hR2,hg2⟩;go_wp2_with fail;go_ret;rw [HE.out];exact ⟨rfl,hR2,Z6 hgq hg2⟩
  | false=>
   have HE:Hid (ZM D n=(5,(spR D).2)):=by
    unfold Hid;rw [HF.out,ZL,if_neg (by rw [hs];decide)]
   rw [hs] at HS;have HS2:=qI HS;clear HS hs;refine HS2.out.mono ?_;rintro e w2 ⟨rfl,hR2,hg2⟩;go_wp2_with fail;go_ret;rw [HE.out];exact ⟨rfl,hR2,Z6 hgq hg2⟩
 ·have HF:Hid (ZM D n=(t,D)):=by unfold Hid ZM;rw [if_pos (by rw [←ht];exact h0),←ht]
  have hq:(t==0)=false:=beq_eq_false_iff_ne.2 h0;clear ht h0;go_in;go_wp2_with ((go_at_call 196;refine HT.out.mono ?_;rintro e w1 ⟨nq,rfl,rfl⟩));go_ret;rw [HF.out];exact ⟨rfl,h.drewN nq,Z5 ((bR _ _).drewN' nq) _⟩
end
end Go.Proofs.YtecpbcmpncgokaaGreat
namespace Go.Dol
open Go.RowKit
theorem Z6M {l:List Fil} {k:Nat} {f:Fil} (h:l[k]?=some f):Zo (l.take (k+1))=Zo (l.take k)+(16+(f.1.size:Int)+f.2.length):=by
 rw [List.take_add_one,h,Z9d];simp [Zo,Z2n]
end Go.Dol
namespace Go.Proofs.YtecpbcmpncgokaaGreat
open Go.RowKit Go.Dol
section
variable {w w':World} {g:Nat} {D:Dk}
def ZgO (g:Nat) (D:Dk) (w:World) (n i:Value) (wr:World):Prop:=∃ k:Nat,n= .int .i64 (IntKind.i64.wrap (D.cap-Zo (D.l.take k)))∧i= .int .i64 k∧k≤D.l.length∧Rdk wr g D∧Below w.heap.size w wr
theorem Zy (h:Rdk w g D) (hcap:0≤D.cap∧D.cap≤1099511627776) (hlen:D.l.length≤140737488355328):
  Calls Tryz.prog 138 #[.pointer (some ⟨g,0,none⟩)] w fun e w'=>e= .returned (.int .i64 (frD D))∧Rdk w' g D∧Below w.heap.size w w':=by
 have k0:w.cell? ⟨g,0,none⟩=some (.int .i64 D.cap):=by obtain ⟨fs,A,c,k0,_⟩:=h.row;exact k0
 have hst:Hid (D.cap=IntKind.i64.wrap (D.cap-Zo (D.l.take 0))):=by unfold Hid;rw [List.take_zero];show D.cap=IntKind.i64.wrap (D.cap-0);rw [qJ _ (by omega)];omega
 go_in;go_wp2_with fail;go_loopw [3,4] (fun n i wr=>ZgO g D w n i wr) (fun _ i _=>D.l.length-(intOf i).toNat)
 case atStart=>exact ⟨0,by rw [←hst.out],rfl,zL _,h,bR _ _⟩
 case round=>
  clear h k0 hst;obtain ⟨k,rfl,rfl,hk,h,hb⟩:=hrel;obtain ⟨fs,A,c,k0,k1,k2,k3,k4,hr,hc,hcm,hF,hL⟩:=h.row;have hlenf:D.l.length=fs.length:=by rw [←hL.out,List.length_map]
  have hle1:D.l.length≤fs.length:=by omega
  have hle2:fs.length≤D.l.length:=by omega
  clear hlenf;obtain ⟨v0,hv0⟩: ∃v,v=IntKind.i64.wrap (D.cap-Zo (D.l.take k)):=⟨_,rfl⟩;rw [←hv0]
  by_cases h1:k<fs.length
  ·have d1:decide ((k:Int)<(fs.length:Int))=true:=dT (by omega)
   have d1':(k:Int)<(fs.length:Int):=by omega
   have hk0:(0:Int)≤(k:Int):=by omega
   obtain ⟨x,hx⟩: ∃x,fs[k]?=some x:=⟨fs[k],gE h1⟩;have hx1:=Z9D hL.out hx;obtain ⟨x1,x2⟩:=Z0X hx;obtain ⟨bb,off,rfl,hbb,hcell⟩:=hr.at_ (by omega);have q0:wr.cell? ⟨bb,off+k*2,none⟩=_:=hcell _ _ x1;have q1:wr.cell? ⟨bb,off+k*2+1,none⟩=_:=hcell _ _ x2;have hcs:=Z6M hx1;obtain ⟨xn,xb,xA,xc⟩:=x;simp only at q0 q1 hx1 hcs;obtain ⟨v1,g1⟩: ∃v,IntKind.i64.wrap (v0-16)=v:=⟨_,rfl⟩;obtain ⟨v2,g2⟩: ∃v,IntKind.i64.wrap (v1-(xn.size:Int))=v:=⟨_,rfl⟩;obtain ⟨v3,g3⟩: ∃v,IntKind.i64.wrap (v2-(xb.length:Int))=v:=⟨_,rfl⟩;have HCS:Hid (v3=IntKind.i64.wrap (D.cap-Zo (D.l.take (k+1)))):=by
    have e1:v1=IntKind.i64.wrap (D.cap-Zo (D.l.take k)-16):=by rw [←g1,hv0,Z3J]
    have e2:v2=IntKind.i64.wrap (D.cap-Zo (D.l.take k)-16-(xn.size:Int)):=by rw [←g2,e1,Z3J]
    unfold Hid;rw [←g3,e2,Z3J,hcs]
    congr 1
    omega
   have f2:IntKind.i64.wrap ((k:Int)+1)=(k:Int)+1:=qJ _ (by omega);clear x1 x2 hx hx1 hcell hcs hv0;go_wp2_with fail;go_quiet (fail);go_wp2_with fail;refine ⟨⟨k+1,by rw [HCS.out],by go_num,by omega,h.drewN nq,hb.drewN' nq⟩,by simp [intOf];omega⟩
  ·have d1:decide ((k:Int)<(fs.length:Int))=false:=qF (by omega)
   have d1n:decide (k<fs.length)=false:=qF h1;have HE:Hid (frD D=v0):=by
    unfold Hid frD;rw [hv0,List.take_of_length_le (by omega)]
   clear hv0;go_wp2_with fail;go_ret;rw [HE.out];exact ⟨rfl,h,hb⟩
theorem Z90:(Tryz.prog.info? 110).map (fun i=>(i.zero,i.size,i.bytes))=some (some (.agg #[.string ⟨#[]⟩,.slice none 0 0]),2,40):=by kernel_rfl
theorem Z91 (w:World):(sizeOf (Tryz.prog.elem 22)).run Tryz.prog w= .ok 2 w:=by kernel_rfl
theorem Zer {A:OA} {n c k:Nat} (w:World) (h1:k≤n) (h2:n≤c) (h3:c≤maxLen):(Instr.sliceAt 22 (.slice A n c) none (some (.int .i64 (k:Nat))) none).run Tryz.prog w= .ok (.slice A k c) w:=by
 rw [run_sliceAt_slice _ _ _ _ _ _ (by kernel_rfl),run_slice_h _ _ _ _ _ (by kernel_rfl) _ _ (by omega) (by omega),Z91];cases A<;>simp [sliced,Result.andThen,Addr.add]
theorem Z7F {A:OA} {n c k:Nat} (w:World) (h1:k≤n) (h2:n≤c) (h3:c≤maxLen):(Instr.sliceAt 22 (.slice A n c) (some (.int .i64 (k:Nat))) none none).run Tryz.prog w= .ok (.slice (if c=k then A else A.map (·.add (k*2))) (n-k) (c-k)) w:=by
 rw [run_sliceAt_slice _ _ _ _ _ _ (by kernel_rfl),run_slice_l _ _ _ _ _ (by kernel_rfl) _ _ (by omega) (by omega),Z91]
 by_cases hck:c=k
 ·subst hck
  cases A<;>simp [sliced,Result.andThen]
 ·cases A<;>simp [sliced,Result.andThen,Addr.add,hck]<;>omega
theorem appF {w:World} {ops:Array Oper} {rest:List Oper} {o:Oper} {a:Act} {Q:Exit→Act→World→Prop} (hgd:o.guard=none) (s x:Operand)
  (ho:o.op= .call { callee:=.builtin .append,args:=#[s,x],argTypes:=#[22,22] })
  (base:Nat) (v:Value) (xs:List FilA) (n:Nat) (hn:n=xs.length) (hs:a.eval s=v) (hown:w.ownsRow base 110 2 v n (fc xs))
  (B:Nat) (A:OA) (m c:Nat) (news:List FilA) (hx:a.eval x= .slice A m c) (hm:m=news.length) (hr:Rd w B 2 A m (fc news))
  (hlen:n+m≤3518437208883) (hbase:base≤w.heap.size)
  (h: ∀(ys:List FilA) (A':OA) (c':Nat) (w':World),Hid (ys=xs++news)→w'.ownsRow base 110 2 (.slice A' ys.length c') ys.length (fc ys)→Below base w w'→w.grownBy w' v.ownBlock→
   wpList Tryz.prog ops Q rest (a.put o.dst (.slice A' ys.length c')) w'):wpList Tryz.prog ops Q (o::rest) a w:=by
 refine Z0m w hgd s x _ ho base _ _ 2 40 Tryz.underlying22 Z90 rfl (by decide) v n (fc xs) hs hown B A m c (fc news) hx hr (Z7d _) (by unfold maxLen;omega) (by omega) hbase ?_;intro A' c' w' h1 h2 h3 h4 h5;have e:n+m=(xs++news).length:=by rw [List.length_append];omega
 rw [←Z2S,e] at h1;rw [e];exact h _ A' c' w' rfl h1 ((bR _ _).grown h2 hbase (fun k hk=>(hown.lt k hk).1)) h2
end
theorem Rd.file (w:World) (x:FilA):Rd (w.alloc (.cells x.cells.toArray 110)) (w.heap.size+1) 2 (some ⟨w.heap.size,0,none⟩) 1 (fc [x]):=by
 have hB:=Blk.new w 110 x.cells;refine ⟨rfl,fun _=>⟨w.heap.size,0,rfl,by omega,fun j u hu=> ?_⟩⟩;rw [Nat.zero_add,hB.cell];have e:fc [x]=x.cells:=by simp [fc]
 rw [e] at hu;exact hu
section
variable {w w':World} {g:Nat} {D:Dk}
theorem Z1I (h:Rdk w g D) (n:BA) (B:Nat) (Ab:OA) (b:LU) (cb:Nat) (hl:D.l.length+1≤3518437208883) (hb:Rd w B 1 Ab b.length (bc b)) (hbl:b.length≤140737488355328):
  Calls Tryz.prog 137 #[.pointer (some ⟨g,0,none⟩),.string n,.slice Ab b.length cb] w fun e w'=>e= .returned (.tuple #[])∧Rdk w' g { D with l:=putF D.l n b }∧w.grownBy w' (some g):=by
 have HFd:=qI (Z3r h n (by omega));obtain ⟨i,hi⟩: ∃i,i=Z0e D.l n:=⟨_,rfl⟩;obtain ⟨is,his⟩: ∃is,is=(Z4 D.l n).isSome:=⟨_,rfl⟩;rw [←hi,←his] at HFd;have hil:i≤D.l.length:=by rw [hi];exact ZeZ _ _
 have hput:Hid (putF D.l n b=D.l.take i++(n,b)::D.l.drop (i+if is=true then 1 else 0)):=by unfold Hid;rw [ZfR,←hi,←his]
 have hin:is=true→i<D.l.length:=by
  intro hs;rw [his,Z5f,←hi] at hs;rcases Nat.lt_or_ge i D.l.length with h1 | h1
  ·exact h1
  ·rw [List.getElem?_eq_none h1] at hs
   cases hs
 go_in;go_wp2_with fail;refine HFd.out.mono ?_;rintro e w0 ⟨nq,rfl,hw0⟩;have hb0:Below w.heap.size w w0:=by rw [hw0];exact (bR _ _).drewN' nq
 have h0:Rdk w0 g D:=by rw [hw0];exact h.drewN nq
 have hs0:w.heap.size≤w0.heap.size:=hb0.size;clear hw0 hi his;obtain ⟨fs,A,c,hB,hO,hF,hL⟩:=id h0;have hcO:=Z3w hO;have hlen:fs.length=D.l.length:=by rw [←hL.out,List.length_map]
 have hr:=Rd.of_own hO;have hle1:fs.length≤D.l.length:=by omega
 have hle2:D.l.length≤fs.length:=by omega
 clear hlen;have k1:w0.cell? ⟨g,1,none⟩=some (.slice A fs.length c):=by rw [hB.cell];rfl
 have hsl: ∀W:World,(Instr.sliceAt 22 (.slice A fs.length c) none (some (.int .i64 (i:Nat))) none).run Tryz.prog W= .ok (.slice A i c) W:=fun W=>Zer W (by omega) hcO.1 hcO.2;have hr1:Rd w0 w0.heap.size 2 A i (fc (fs.take i)):=by
  refine ⟨by rw [Z1B,List.length_take];omega,fun h0=> ?_⟩;obtain ⟨b1,off,e,hb1,hc1⟩:=hr.at_ (by omega);refine ⟨b1,off,e,hb1,fun j u hu=>hc1 j u ?_⟩;rw [←Zck] at hu;rw [List.getElem?_take] at hu;split at hu
  ·exact hu
  ·cases hu
 have hgl:=hB.lt;go_wp2_with (at_builtin;refine appF rfl (.tmp 15) (.tmp 21) rfl w0.heap.size _ [] 0 rfl rfl (World.ownsRow_nil _ _ _ _) _ A i c (fs.take i) rfl (by rw [List.length_take];omega) hr1 (by omega) (lR _) ?_);intro y1 A1 c1 w1 e1 o1 b1 _;have e1':Hid (y1=fs.take i):=e1;have b1e:Below w0.heap.size w0 w1:=b1;have hs1:=b1e.size;have hbA:Below w1.heap.size w1 (w1.alloc (.cells #[] 5)):=(bR _ _).alloc (lR _) _;have hrb1:Rd (w1.alloc (.cells #[] 5)) (w1.alloc (.cells #[] 5)).heap.size 1 Ab b.length (bc b):=by
  refine ⟨hb.len,fun h0=> ?_⟩;obtain ⟨q,off,e,hq,hcell⟩:=hb.at_ h0;have hql:q<w.heap.size:=World.block_lt_of_cell? w _ (hcell 0 _ (Z09 b 0 (by omega)));have hbb:=hb0.trans (b1e.mono hs0);refine ⟨q,off,e,by simp;omega,fun j u hu=> ?_⟩;rw [World.cell?_alloc_lt _ _ _ (by show q<w1.heap.size;omega)];exact (hbb.cell (p:=⟨q,off+j,none⟩) hql).trans (hcell j u hu)
 have oE:=Z0B w1;clear hsl hr1 k1;go_wp2_with (at_builtin;refine app8 rfl (.tmp 25) (.tmp 26) rfl w1.heap.size _ 0 [] rfl oE _ Ab b.length cb b rfl hrb1 (by omega) (by simp) ?_);intro l2 A2 c2 w2 e2 o2 b2 _ _ j1 j2;have e2':Hid (l2=b):=e2;have b2e:Below w1.heap.size w1 w2:=hbA.trans b2;have hs2:=b2e.size;have o1':=Zh o1 b2e;have hxr:=Rd.file w2 ⟨n,l2,A2,c2⟩;have o1'':=o1'.alloc (.cells #[.string n,.slice A2 l2.length c2] 110);have hy1:y1.length≤i:=by rw [e1'.out,List.length_take];omega
 change Rd (w2.alloc (.cells #[.string n,.slice A2 l2.length c2] 110)) _ _ _ _ _ at hxr;go_wp2_with (at_builtin;refine appF rfl (.tmp 23) (.tmp 29) rfl w0.heap.size _ y1 y1.length rfl rfl o1'' _ _ 1 1 [⟨n,l2,A2,c2⟩] rfl rfl hxr (by omega) (by simp;omega) ?_);intro y3 A3 c3 w3 e3 o3 b3 g3;have hs2a:w0.heap.size≤(w2.alloc (.cells #[.string n,.slice A2 l2.length c2] 110)).heap.size:=by simp;omega
 have bA:Below w2.heap.size w2 (w2.alloc (.cells #[.string n,.slice A2 l2.length c2] 110)):=(bR _ _).alloc (lR _) _;have b02:Below w0.heap.size w0 (w2.alloc (.cells #[.string n,.slice A2 l2.length c2] 110)):=(b1e.trans (b2e.mono hs1)).trans (bA.mono (by omega));have b3e:Below w0.heap.size w0 w3:=b02.trans b3;have hs03:=b3e.size;have hB3:=hB.below b3e hgl;have k3:w3.cell? ⟨g,1,none⟩=some (.slice A fs.length c):=by rw [hB3.cell];rfl
 have hF3:=(hF.below b02).keep g3 (Other.own o1'' (by decide) (zL _));have hL2:Far w2 0 A2 l2:=Far.of_seg (Seg.of_own o2);have hL3:=(hL2.below bA).keep g3 (Other.own o1'' (by decide) (zL _));have hr3:=hr.belowW b3e (lR _);have hy3:y3.length≤i+1:=by rw [e3.out,List.length_append,e1'.out,List.length_take];simp;omega
 clear hF hr hB hO b02 b3 b2e b1e b1 b2 oE hrb1 hxr o1' o1'' hL2 bA
 cases is with
 | true=>
  have hi1:=hin rfl;have f1:IntKind.i64.wrap ((i:Int)+1)=(i:Int)+1:=qJ _ (by omega);have hsl3: ∀W:World,(Instr.sliceAt 22 (.slice A fs.length c) (some (.int .i64 ((i:Int)+1))) none none).run Tryz.prog W= .ok (.slice (if c=i+1 then A else A.map (·.add ((i+1)*2))) (fs.length-(i+1)) (c-(i+1))) W:=fun W=>by have:=Z7F (A:=A) (n:=fs.length) (c:=c) (k:=i+1) W (by omega) hcO.1 hcO.2;exact this
  have hrt:=(hr3.cut (lo:=i+1) (hi:=fs.length) (cap:=c) (by omega) (lR _) hcO.1);rw [Z9f,List.take_of_length_le (by rw [Z1B,List.length_drop];omega)] at hrt;obtain ⟨A4,hA4⟩: ∃A4,A4=(if c=i+1 then A else A.map (·.add ((i+1)*2))):=⟨_,rfl⟩;rw [←hA4] at hrt hsl3;obtain ⟨n4,hn4⟩: ∃n4,n4=fs.length-(i+1):=⟨_,rfl⟩;obtain ⟨c4,hc4⟩: ∃c4,c4=c-(i+1):=⟨_,rfl⟩;rw [←hn4] at hrt hsl3;rw [←hc4] at hsl3;have hn4':n4=(fs.drop (i+1)).length:=by rw [List.length_drop];exact hn4
  have HN4:=qI hn4';have hn4le:n4+i≤fs.length:=by omega
  clear hA4 hn4 hc4 hn4';go_wp2_with (at_builtin;refine appF rfl (.tmp 35) (.tmp 41) rfl w0.heap.size _ y3 y3.length rfl rfl o3 _ A4 n4 c4 (fs.drop (i+1)) rfl HN4.out hrt (by omega) hs03 ?_);intro y5 A5 c5 w5 e5 o5 b5 g5;have hB5:=hB3.grown g5 (own_ne o3 hB3 (by decide)).symm;have k5:w5.cell? ⟨g,1,none⟩=some (.slice A fs.length c):=by rw [hB5.cell];rfl
  have z5:=hB5.free 1;have hF5:=hF3.keep g5 (Other.own o3 (by decide) (zL _));have hL5:=hL3.keep g5 (Other.own o3 (by decide) (zL _));go_wp2_with fail;go_end0;have hg6:w5.grownBy (w5.setCell ⟨g,1,none⟩ (.slice A5 y5.length c5)) (some g):=Z0 (gR w5 _) 1 _;have hO6:=Other.blk (B:=0) hB5 (by decide) (zL _);have b50:Below w0.heap.size w0 w5:=b3e.trans b5;refine ⟨rfl,⟨y5,A5,c5,hB5.set 1 _,(Zc o5 hB5 (by decide) hg6).base (zL _),?_,qI ?_⟩,Z6 (Z5 (hb0.trans (b50.mono hs0)) _) hg6⟩
  ·intro x hx
   rw [e5.out,e3.out,e1'.out] at hx;rcases List.mem_append.1 hx with hx | hx
   ·rcases List.mem_append.1 hx with hx | hx
    ·exact hF5.keep hg6 hO6 x (List.mem_of_mem_take hx)
    ·rw [List.mem_singleton.1 hx]
     exact ⟨hL5.keep hg6 hO6,j1,j2⟩
   ·exact hF5.keep hg6 hO6 x (List.mem_of_mem_drop hx)
  ·show y5.map FilA.f=putF D.l n b
   rw [e5.out,e3.out,e1'.out,hput.out,←hL.out];simp only [List.map_append,List.map_take,List.map_drop,List.map_cons,List.append_assoc,List.cons_append,List.nil_append];show _++(n,l2)::_=_
   rw [e2'.out]
   rfl
 | false=>
  have hsl3: ∀W:World,(Instr.sliceAt 22 (.slice A fs.length c) (some (.int .i64 ((i:Nat)))) none none).run Tryz.prog W= .ok (.slice (if c=i then A else A.map (·.add ((i)*2))) (fs.length-(i)) (c-(i))) W:=fun W=>Z7F W (by omega) hcO.1 hcO.2;have hrt:=(hr3.cut (lo:=i) (hi:=fs.length) (cap:=c) (by omega) (lR _) hcO.1);rw [Z9f,List.take_of_length_le (by rw [Z1B,List.length_drop];omega)] at hrt;obtain ⟨A4,hA4⟩: ∃A4,A4=(if c=i then A else A.map (·.add ((i)*2))):=⟨_,rfl⟩;rw [←hA4] at hrt hsl3;obtain ⟨n4,hn4⟩: ∃n4,n4=fs.length-(i):=⟨_,rfl⟩;obtain ⟨c4,hc4⟩: ∃c4,c4=c-(i):=⟨_,rfl⟩;rw [←hn4] at hrt hsl3;rw [←hc4] at hsl3;have hn4':n4=(fs.drop (i)).length:=by rw [List.length_drop];exact hn4
  have HN4:=qI hn4';have hn4le:n4+i≤fs.length:=by omega
  clear hA4 hn4 hc4 hn4';go_wp2_with (at_builtin;refine appF rfl (.tmp 35) (.tmp 41) rfl w0.heap.size _ y3 y3.length rfl rfl o3 _ A4 n4 c4 (fs.drop (i)) rfl HN4.out hrt (by omega) hs03 ?_);intro y5 A5 c5 w5 e5 o5 b5 g5;have hB5:=hB3.grown g5 (own_ne o3 hB3 (by decide)).symm;have k5:w5.cell? ⟨g,1,none⟩=some (.slice A fs.length c):=by rw [hB5.cell];rfl
  have z5:=hB5.free 1;have hF5:=hF3.keep g5 (Other.own o3 (by decide) (zL _));have hL5:=hL3.keep g5 (Other.own o3 (by decide) (zL _));go_wp2_with fail;go_end0;have hg6:w5.grownBy (w5.setCell ⟨g,1,none⟩ (.slice A5 y5.length c5)) (some g):=Z0 (gR w5 _) 1 _;have hO6:=Other.blk (B:=0) hB5 (by decide) (zL _);have b50:Below w0.heap.size w0 w5:=b3e.trans b5;refine ⟨rfl,⟨y5,A5,c5,hB5.set 1 _,(Zc o5 hB5 (by decide) hg6).base (zL _),?_,qI ?_⟩,Z6 (Z5 (hb0.trans (b50.mono hs0)) _) hg6⟩
  ·intro x hx
   rw [e5.out,e3.out,e1'.out] at hx;rcases List.mem_append.1 hx with hx | hx
   ·rcases List.mem_append.1 hx with hx | hx
    ·exact hF5.keep hg6 hO6 x (List.mem_of_mem_take hx)
    ·rw [List.mem_singleton.1 hx]
     exact ⟨hL5.keep hg6 hO6,j1,j2⟩
   ·exact hF5.keep hg6 hO6 x (List.mem_of_mem_drop hx)
  ·show y5.map FilA.f=putF D.l n b
   rw [e5.out,e3.out,e1'.out,hput.out,←hL.out];simp only [List.map_append,List.map_take,List.map_drop,List.map_cons,List.append_assoc,List.cons_append,List.nil_append];show _++(n,l2)::_=_
   rw [e2'.out]
   rfl
end
end Go.Proofs.YtecpbcmpncgokaaGreat
namespace Go.Dol
open Go.RowKit
theorem Zc8 {l:List Fil} {n:BA} {b:LU} (h:Z4 l n=some b): ∃f,l[Z0e l n]?=some f∧f.1=n∧f.2=b:=by
 rw [Z5f] at h
 cases hf:l[Z0e l n]? with
 | none=>rw [hf] at h;cases h
 | some f=>
  rw [hf] at h;simp only at h
  by_cases he:f.1=n
  ·rw [if_pos he] at h
   injection h with h
   exact ⟨f,rfl,he,h⟩
  ·rw [if_neg he] at h
   cases h
end Go.Dol
namespace Go.Proofs.YtecpbcmpncgokaaGreat
open Go.RowKit Go.Dol
section
variable {w w':World} {g:Nat} {D:Dk}
theorem Z16 (h:Rdk w g D) (n:BA) (hn:n.size≤maxLen) (hl:D.l.length≤140737488355328) (hL: ∀b,Z4 D.l n=some b→b.length≤140737488355328):
  Calls Tryz.prog 90 #[.pointer (some ⟨g,0,none⟩),.string n] w (Zci w (Zq D n)):=by
 have HN:=Z06 n w hn
 cases hB:Z8 n with
 | false=>
  have HF:Hid (Zq D n=([],1)):=by unfold Hid Zq;rw [if_pos hB]
  rw [hB] at HN;have HN2:=qI HN;clear HN hB;go_in;go_wp2_with ((go_at_call 136;refine HN2.out.mono ?_;rintro e w1 ⟨rfl,hw1⟩;obtain rfl:=hw1.symm));go_ret2;rw [HF.out];exact ⟨[],none,0,rfl,rfl,World.ownsRow_nil _ _ _ _,bR _ _⟩
 | true=>
  rw [hB] at HN;have HN2:=qI HN;clear HN;have HFd:=Z3r h n hl
  cases hk:Z4 D.l n with
  | none=>
   have HF:Hid (Zq D n=([],3)):=by unfold Hid Zq;rw [if_neg (by rw [hB];decide),hk]
   rw [hk] at HFd;have HFd2:=qI HFd;clear HFd hB hk;go_in
   go_wp2_with (first
    | (go_at_call 136;refine HN2.out.mono ?_;rintro e w1 ⟨rfl,hw1⟩;obtain rfl:=hw1.symm)
    | (go_at_call 157;refine HFd2.out.mono ?_;rintro e w1 ⟨nq,rfl,rfl⟩))
   go_ret2;rw [HF.out];exact ⟨[],none,0,rfl,rfl,World.ownsRow_nil _ _ _ _,(bR _ _).drewN' nq⟩
  | some b=>
   have HF:Hid (Zq D n=(b,0)):=by unfold Hid Zq;rw [if_neg (by rw [hB];decide),hk]
   have hbl:=hL b hk;obtain ⟨f,hf1,hf2,hf3⟩:=Zc8 hk;obtain ⟨i,hi⟩: ∃i,i=Z0e D.l n:=⟨_,rfl⟩;rw [hk,←hi] at HFd;rw [←hi] at hf1;have HFd2:=qI HFd;clear HFd hB hk hi;go_in;go_wp2_with ((go_at_call 136;refine HN2.out.mono ?_;rintro e w1 ⟨rfl,hw1⟩;obtain rfl:=hw1.symm));refine HFd2.out.mono ?_;rintro e w0 ⟨nq,rfl,hw0⟩;have hb0:Below w.heap.size w w0:=by rw [hw0];exact (bR _ _).drewN' nq
   have h0:Rdk w0 g D:=by rw [hw0];exact h.drewN nq
   clear hw0;obtain ⟨fs,A,c,k0,k1,k2,k3,k4,hr,hc,hcm,hFl,hLm⟩:=h0.row;have hil:i<fs.length:=by
    have h1:=(List.getElem?_eq_some_iff.1 hf1).1;rw [←hLm.out,List.length_map] at h1;exact h1
   obtain ⟨x,hx⟩: ∃x,fs[i]?=some x:=⟨fs[i],gE hil⟩;have hxf:x.f=f:=by
    have h1:=hf1;rw [←hLm.out,List.getElem?_map,hx] at h1;injection h1
   have hxb:x.b=b:=by rw [←hf3,←hxf];rfl
   obtain ⟨bb,off,rfl,hbb,hcell⟩:=hr.at_ (by omega);have q1:w0.cell? ⟨bb,off+i*2+1,none⟩=_:=hcell _ _ (Z0X hx).2;have hFx:=hFl x (List.mem_of_getElem? hx);have hi0:(0:Int)≤(i:Int):=by omega
   have hi1:(i:Int)<(fs.length:Int):=by omega
   obtain ⟨xn,xb,xA,xc⟩:=x;simp only at q1 hFx hxb;subst hxb;have hbA:Below w0.heap.size w0 (w0.alloc (.cells #[] 5)):=(bR _ _).alloc (lR _) _;have hrb1:=(hFx.1.below hbA).1;have oE:=Z0B w0;have hgl:=h0.lt;have k1':(w0.alloc (.cells #[] 5)).cell? ⟨g,1,none⟩=some (.slice (some ⟨bb,off,none⟩) fs.length c):=by rw [World.cell?_alloc_lt _ _ _ (by exact hgl)];exact k1
   have q1':(w0.alloc (.cells #[] 5)).cell? ⟨bb,off+i*2+1,none⟩=some (.slice xA xb.length xc):=by rw [World.cell?_alloc_lt _ _ _ (by exact hbb)];exact q1
   clear hx hxf hf1 hf2 hf3 hcell hr hFl hLm;go_wp2_with (at_builtin;refine app8 rfl (.tmp 19) (.tmp 27) rfl w0.heap.size _ 0 [] rfl oE _ xA xb.length xc xb rfl hrb1 (by omega) (by simp) ?_);intro l2 A2 c2 w2 e2 o2 b2 _ _ j1 j2;go_wp2_with fail;go_ret2;rw [HF.out];exact ⟨l2,A2,c2,e2,rfl,World.ownsRow.mono o2 hb0.size,hb0.next (hbA.trans b2)⟩
end
section
variable {w w':World} {g:Nat} {D:Dk}
theorem Z1Z (h:Rdk w g D) (hK:OkW D):Calls Tryz.prog 197 #[.pointer (some ⟨g,0,none⟩)] w fun e w'=>e= .returned (.bool (spR D).1)∧(∀(fs:List FilA) (A:OA) (c:Nat),Blk w g 54 (Z43 D.cap A fs.length c D.done D.left D.dark)→Blk w' g 54 (Z43 (spR D).2.cap A fs.length c (spR D).2.done (spR D).2.left (spR D).2.dark))∧w.grownBy w' (some g):=by
 obtain ⟨fs,A,c,k0,k1,k2,k3,k4,_⟩:=h.row;have z2:=h.free 2;have z3:=h.free 3;have z4:=h.free 4;have hl0:=hK.left0;have hl1:=hK.left1
 by_cases h0:D.left=0
 ·have HF:Hid (spR D=(false,{ D with dark:=true,left:=-1 })):=if_pos h0
  rw [h0] at k3;clear h0 hl0 hl1;go_in;go_wp2_with fail;go_ret;rw [HF.out];have hg:w.grownBy ((w.setCell ⟨g,4,none⟩ (.bool true)).setCell ⟨g,3,none⟩ (.int .i64 (-1))) (some g):=Z0 (Z0 (gR w _) 4 _) 3 _;exact ⟨rfl,fun fs A c hB=>(hB.set 4 _).set 3 _,hg⟩
 ·have hz:(D.left==0)=false:=beq_eq_false_iff_ne.2 h0
  have hop:=Z8Z D.done
  by_cases hp:0<D.left
  ·have HF:Hid (spR D=(true,{ D with left:=D.left-1,done:=D.done+1 })):=by unfold Hid spR;rw [if_neg h0,if_pos hp]
   have d1:decide (D.left>0)=true:=dT hp;have d1':decide (0<D.left)=true:=dT hp;have f1:IntKind.i64.wrap (D.left-1)=D.left-1:=qJ _ (by omega);obtain ⟨od,hod⟩: ∃od,od=opsD (D.done+1):=⟨_,rfl⟩;rw [←hod] at hop;have HOD:=qI hod;clear hod h0;go_in;go_wp2_with fail;go_ret;rw [HF.out];have hg:w.grownBy ((w.setCell ⟨g,3,none⟩ (.int .i64 (D.left-1))).setCell ⟨g,2,none⟩ (.int .i64 od)) (some g):=Z0 (Z0 (gR w _) 3 _) 2 _;refine ⟨rfl,fun fs A c hB=> ?_,hg⟩;have:=(hB.set 3 (.int .i64 (D.left-1))).set 2 (.int .i64 od);rw [HOD.out] at this ⊢;exact this
  ·have HF:Hid (spR D=(true,{ D with left:=D.left,done:=D.done+1 })):=by unfold Hid spR;rw [if_neg h0,if_neg hp]
   have d1:decide (D.left>0)=false:=qF hp;have d1':decide (0<D.left)=false:=qF hp;obtain ⟨od,hod⟩: ∃od,od=opsD (D.done+1):=⟨_,rfl⟩;rw [←hod] at hop;have HOD:=qI hod;clear hod h0;go_in;go_wp2_with fail;go_ret;rw [HF.out];have hg:w.grownBy (w.setCell ⟨g,2,none⟩ (.int .i64 od)) (some g):=Z0 (gR w _) 2 _;refine ⟨rfl,fun fs A c hB=> ?_,hg⟩;have:=hB.set 2 (.int .i64 od);rw [HOD.out] at this ⊢;exact this
end
section
variable {w w':World} {g:Nat} {D:Dk}
theorem Z3s (h:Rdk w g D) (n:BA) (hl:D.l.length≤3518437208883) (hin0:(Z4 D.l n).isSome=true):
  Calls Tryz.prog 198 #[.pointer (some ⟨g,0,none⟩),.string n] w fun e w'=>e= .returned (.tuple #[])∧Rdk w' g { D with l:=Zi D.l n }∧w.grownBy w' (some g):=by
 have HFd:=Z3r h n (by omega);obtain ⟨i,hi⟩: ∃i,i=Z0e D.l n:=⟨_,rfl⟩;rw [←hi,hin0] at HFd;have HFd2:=qI HFd;have hdrop:Hid (Zi D.l n=D.l.take i++D.l.drop (i+1)):=by unfold Hid;rw [Zf1 hin0,←hi]
 have hi1:i<D.l.length:=by
  have hs:=hin0;rw [Z5f,←hi] at hs;rcases Nat.lt_or_ge i D.l.length with h1 | h1
  ·exact h1
  ·rw [List.getElem?_eq_none h1] at hs
   cases hs
 have f1:IntKind.i64.wrap ((i:Int)+1)=(i:Int)+1:=qJ _ (by omega);clear HFd hi hin0;go_in;go_wp2_with fail;refine HFd2.out.mono ?_;rintro e w0 ⟨nq,rfl,hw0⟩;have hb0:Below w.heap.size w w0:=by rw [hw0];exact (bR _ _).drewN' nq
 have h0:Rdk w0 g D:=by rw [hw0];exact h.drewN nq
 have hs0:w.heap.size≤w0.heap.size:=hb0.size;clear hw0;obtain ⟨fs,A,c,hB,hO,hF,hL⟩:=id h0;have hcO:=Z3w hO;have hlen:fs.length=D.l.length:=by rw [←hL.out,List.length_map]
 have hr:=Rd.of_own hO;have hle1:fs.length≤D.l.length:=by omega
 have hle2:D.l.length≤fs.length:=by omega
 clear hlen;have k1:w0.cell? ⟨g,1,none⟩=some (.slice A fs.length c):=by rw [hB.cell];rfl
 have hsl: ∀W:World,(Instr.sliceAt 22 (.slice A fs.length c) none (some (.int .i64 (i:Nat))) none).run Tryz.prog W= .ok (.slice A i c) W:=fun W=>Zer W (by omega) hcO.1 hcO.2;have hr1:Rd w0 w0.heap.size 2 A i (fc (fs.take i)):=by
  refine ⟨by rw [Z1B,List.length_take];omega,fun h0=> ?_⟩;obtain ⟨b1,off,e,hb1,hc1⟩:=hr.at_ (by omega);refine ⟨b1,off,e,hb1,fun j u hu=>hc1 j u ?_⟩;rw [←Zck] at hu;rw [List.getElem?_take] at hu;split at hu
  ·exact hu
  ·cases hu
 have hgl:=hB.lt;go_wp2_with (at_builtin;refine appF rfl (.tmp 14) (.tmp 20) rfl w0.heap.size _ [] 0 rfl rfl (World.ownsRow_nil _ _ _ _) _ A i c (fs.take i) rfl (by rw [List.length_take];omega) hr1 (by omega) (lR _) ?_);intro y1 A1 c1 w1 e1 o1 b1 _;have e1':Hid (y1=fs.take i):=e1;have b1e:Below w0.heap.size w0 w1:=b1;have hs1:=b1e.size;have hy1:y1.length≤i:=by rw [e1'.out,List.length_take];omega
 have hB3:=hB.below b1e hgl;have k3:w1.cell? ⟨g,1,none⟩=some (.slice A fs.length c):=by rw [hB3.cell];rfl
 have hF3:=hF.below b1e;have hr3:=hr.belowW b1e (lR _);have hsl3: ∀W:World,(Instr.sliceAt 22 (.slice A fs.length c) (some (.int .i64 ((i:Int)+1))) none none).run Tryz.prog W= .ok (.slice (if c=i+1 then A else A.map (·.add ((i+1)*2))) (fs.length-(i+1)) (c-(i+1))) W:=fun W=>by have:=Z7F (A:=A) (n:=fs.length) (c:=c) (k:=i+1) W (by omega) hcO.1 hcO.2;exact this
 have hrt:=(hr3.cut (lo:=i+1) (hi:=fs.length) (cap:=c) (by omega) (lR _) hcO.1);rw [Z9f,List.take_of_length_le (by rw [Z1B,List.length_drop];omega)] at hrt;obtain ⟨A4,hA4⟩: ∃A4,A4=(if c=i+1 then A else A.map (·.add ((i+1)*2))):=⟨_,rfl⟩;rw [←hA4] at hrt hsl3;obtain ⟨n4,hn4⟩: ∃n4,n4=fs.length-(i+1):=⟨_,rfl⟩;obtain ⟨c4,hc4⟩: ∃c4,c4=c-(i+1):=⟨_,rfl⟩;rw [←hn4] at hrt hsl3;rw [←hc4] at hsl3;have hn4':n4=(fs.drop (i+1)).length:=by rw [List.length_drop];exact hn4
 have HN4:=qI hn4';have hn4le:n4+i≤fs.length:=by omega
 clear hA4 hn4 hc4 hn4' hF hr hB hO hsl hr1 k1 hr3;go_wp2_with (at_builtin;refine appF rfl (.tmp 23) (.tmp 30) rfl w0.heap.size _ y1 y1.length rfl rfl o1 _ A4 n4 c4 (fs.drop (i+1)) rfl HN4.out hrt (by omega) hs1 ?_);intro y5 A5 c5 w5 e5 o5 b5 g5;have hB5:=hB3.grown g5 (own_ne o1 hB3 (by decide)).symm;have k5:w5.cell? ⟨g,1,none⟩=some (.slice A fs.length c):=by rw [hB5.cell];rfl
 have z5:=hB5.free 1;have hF5:=hF3.keep g5 (Other.own o1 (by decide) (zL _));go_wp2_with fail;go_end0;have hg6:w5.grownBy (w5.setCell ⟨g,1,none⟩ (.slice A5 y5.length c5)) (some g):=Z0 (gR w5 _) 1 _;have hO6:=Other.blk (B:=0) hB5 (by decide) (zL _);have b50:Below w0.heap.size w0 w5:=b1e.trans b5;refine ⟨rfl,⟨y5,A5,c5,hB5.set 1 _,(Zc o5 hB5 (by decide) hg6).base (zL _),?_,qI ?_⟩,Z6 (Z5 (hb0.trans (b50.mono hs0)) _) hg6⟩
 ·intro x hx
  rw [e5.out,e1'.out] at hx;rcases List.mem_append.1 hx with hx | hx
  ·exact hF5.keep hg6 hO6 x (List.mem_of_mem_take hx)
  ·exact hF5.keep hg6 hO6 x (List.mem_of_mem_drop hx)
 ·show y5.map FilA.f=Zi D.l n
  rw [hdrop.out,e5.out,e1'.out,List.map_append,List.map_take,List.map_drop,hL.out]
end
end Go.Proofs.YtecpbcmpncgokaaGreat
namespace Go.Dol
open Go.RowKit
theorem Z08 (D:Dk):(spR D).2.l=D.l:=by unfold spR;split<;>rfl
end Go.Dol
namespace Go.Proofs.YtecpbcmpncgokaaGreat
open Go.RowKit Go.Dol
section
variable {w w':World} {g:Nat} {D:Dk}
theorem Z3A (h:Rdk w g D) (hK:OkW D) (n:BA) (hn:n.size≤maxLen) (hl:D.l.length≤3518437208883):Calls Tryz.prog 126 #[.pointer (some ⟨g,0,none⟩),.string n] w (RetR w g (remD D n)):=by
 have hT:=Z2u h n hn (by omega);obtain ⟨t,ht⟩: ∃t,t=ZZ D n:=⟨_,rfl⟩;rw [←ht] at hT;have HT:=qI hT;clear hT
 by_cases h0:t=0
 ·have HF:Hid (remD D n=Zw D (Zi D.l n)):=by unfold Hid remD;rw [if_neg (by rw [←ht,h0];simp)]
  obtain ⟨_,_,b,hb⟩:=Z1A (ht.symm.trans h0);have HB:Hid ((Z4 D.l n).isSome=true):=by unfold Hid;rw [hb];rfl
  subst h0;clear ht hb;go_in;go_wp2_with ((go_at_call 196;refine HT.out.mono ?_;rintro e w1 ⟨nq,rfl,rfl⟩));have HS:=Z0J (h.drewN nq) hK;have hgq:w.grownBy (w.drewN nq) (some g):=Z5 ((bR _ _).drewN' nq) _
  cases hs:(spR D).1 with
  | true=>
   have HE:Hid (remD D n=(0,{ (spR D).2 with l:=Zi D.l n })):=by
    unfold Hid;rw [HF.out,ZL,if_pos hs]
   rw [hs] at HS;have HS2:=qI HS;clear HS hs;refine HS2.out.mono ?_;rintro e w2 ⟨rfl,hR2,hg2⟩;have hD:=Z3s hR2 n (by rw [Z08];exact hl) (by rw [Z08];exact HB.out);rw [Z08] at hD;have HD:=qI hD;clear hD;go_wp2_with fail;refine HD.out.mono ?_;rintro e w3 ⟨rfl,hR3,hg3⟩;go_wp2_with fail;go_ret;rw [HE.out];exact ⟨rfl,hR3,Z6 hgq (Z6 hg2 hg3)⟩
  | false=>
   have HE:Hid (remD D n=(5,(spR D).2)):=by
    unfold Hid;rw [HF.out,ZL,if_neg (by rw [hs];decide)]
   rw [hs] at HS;have HS2:=qI HS;clear HS hs;refine HS2.out.mono ?_;rintro e w2 ⟨rfl,hR2,hg2⟩;go_wp2_with fail;go_ret;rw [HE.out];exact ⟨rfl,hR2,Z6 hgq hg2⟩
 ·have HF:Hid (remD D n=(t,D)):=by unfold Hid remD;rw [if_pos (by rw [←ht];exact h0),←ht]
  have hq:(t==0)=false:=beq_eq_false_iff_ne.2 h0;clear ht h0;go_in;go_wp2_with ((go_at_call 196;refine HT.out.mono ?_;rintro e w1 ⟨nq,rfl,rfl⟩));go_ret;rw [HF.out];exact ⟨rfl,h.drewN nq,Z5 ((bR _ _).drewN' nq) _⟩
end
end Go.Proofs.YtecpbcmpncgokaaGreat
namespace Go.Dol
open Go.RowKit
end Go.Dol
namespace Go.Proofs.YtecpbcmpncgokaaGreat
open Go.RowKit Go.Dol
section
variable {w w':World} {g:Nat} {D:Dk}
theorem Rdk.spent (h:Rdk w g D) {w2 w3 w4:World} (b2:Below w.heap.size w w2) (hT: ∀(fs:List FilA) (A:OA) (c:Nat),Blk w2 g 54 (Z43 D.cap A fs.length c D.done D.left D.dark)→Blk w3 g 54 (Z43 (spR D).2.cap A fs.length c (spR D).2.done (spR D).2.left (spR D).2.dark)) (hg:w2.grownBy w3 (some g)) (b4:Below w.heap.size w3 w4):Rdk w4 g (spR D).2∧w.grownBy w4 (some g):=by
 have hg3:w.grownBy w3 (some g):=Z6 (Z5 b2 _) hg;have hg4:w.grownBy w4 (some g):=⟨b4.os.trans hg3.os,b4.tape.trans hg3.tape,b4.output.trans hg3.output,lT hg3.size b4.size,fun k hk hne=>(b4.block k hk).trans (hg3.block k hk hne)⟩;refine ⟨h.turn (Z08 D) (fun fs A c hB=> ?_) hg4,hg4⟩;have h1:=hT fs A c (hB.below b2 hB.lt);unfold Blk at h1 ⊢;exact (b4.block g hB.lt).trans h1
theorem Z17 (h:Rdk w g D) (hK:OkW D) (n:BA) (hn:n.size≤maxLen) (B:Nat) (A:OA) (b:LU) (c:Nat) (hb:Far w B A b) (hB:B≤g):
  Calls Tryz.prog 200 #[.pointer (some ⟨g,0,none⟩),.string n,.slice A b.length c] w (RetR w g (appD D n b)):=by
 have hlen:=hK.len;have HN:=Z06 n w hn;obtain ⟨fs0,A0,c0,k0,k1,k2,k3,k4,_⟩:=h.row
 cases hnm:Z8 n with
 | false=>
  have HF:Hid (appD D n b=(1,D)):=if_pos (.inr hnm);rw [hnm] at HN;have HN2:=qI HN;clear HN hnm;go_in;go_wp2_with ((go_at_call 136;refine HN2.out.mono ?_;rintro e w1 ⟨rfl,hw1⟩;obtain rfl:=hw1.symm));go_ret;rw [HF.out];exact ⟨rfl,h,gR w _⟩
 | true=>
  rw [hnm] at HN;have hn200:n.size≤200:=by
   unfold Z8 at hnm;simp only [Bool.and_eq_true,decide_eq_true_eq] at hnm;exact hnm.1.2
  have HN2:=qI HN;have HNm:=qI hnm;clear HN hnm
  by_cases hbl:64<b.length
  ·have HF:Hid (appD D n b=(1,D)):=if_pos (.inl hbl)
   have d1:decide ((b.length:Int)>64)=true:=dT (by omega);have d1':decide ((64:Int)<(b.length:Int))=true:=dT (by omega);go_in;go_wp2_with ((go_at_call 136;refine HN2.out.mono ?_;rintro e w1 ⟨rfl,hw1⟩;obtain rfl:=hw1.symm));go_ret;rw [HF.out];exact ⟨rfl,h,gR w _⟩
  ·have d1:decide ((b.length:Int)>64)=false:=qF (by omega)
   have d1':decide ((64:Int)<(b.length:Int))=false:=qF (by omega);have hF0:appD D n b=if D.dark=true then (5,D) else Z1c D (ZX D n b) (putF D.l n ((Z4 D.l n).getD []++b)):=if_neg (by rw [HNm.out];exact fun h=>h.elim hbl (fun h=>by cases h))
   cases hd:D.dark with
   | true=>
    have HF:Hid (appD D n b=(5,D)):=by unfold Hid;rw [hF0,if_pos hd]
    rw [hd] at k4;clear hF0 hd;go_in;go_wp2_with ((go_at_call 136;refine HN2.out.mono ?_;rintro e w1 ⟨rfl,hw1⟩;obtain rfl:=hw1.symm));go_ret;rw [HF.out];exact ⟨rfl,h,gR w _⟩
   | false=>
    rw [hd] at k4;rw [hd,if_neg (by decide)] at hF0;have HR:=Z16 h n hn (by omega) (fun c hc=>hK.small' hc);have HD:=qI hd;clear hd
    cases hk:Z4 D.l n with
    | none=>
     have hrd:Zq D n=([],3):=by unfold Zq;rw [if_neg (by rw [HNm.out];decide),hk]
     rw [hrd] at HR;have HR2:=qI HR;obtain ⟨fr,hfr⟩: ∃fr,fr=frD D:=⟨_,rfl⟩;have hmo:ZX D n b=(b.length:Int)+16+(n.size:Int):=by unfold ZX;rw [hk];simp only;omega
     rw [hmo,hk] at hF0;have g1:IntKind.i64.wrap ((b.length:Int)+16)=(b.length:Int)+16:=qJ _ (by omega);obtain ⟨more,hmore⟩: ∃more,more=(b.length:Int)+16+(n.size:Int):=⟨_,rfl⟩;have g2:IntKind.i64.wrap ((b.length:Int)+16+(n.size:Int))=more:=by rw [hmore];exact qJ _ (by omega)
     rw [←hmore] at hF0;have hm0:0<more:=by omega
     have d3:decide (more>0)=true:=dT hm0;have d3':decide (0<more)=true:=dT hm0;clear hmore;have HF0:=qI hF0;have hbl2:b.length≤64:=by omega
     clear HR hrd hmo hF0 hk hbl
     by_cases hrm:fr<more
     ·have d2:decide (more>fr)=true:=dT hrm
      have d2':decide (fr<more)=true:=dT hrm;have HF:Hid (appD D n b=(4,D)):=by unfold Hid;rw [HF0.out];exact if_pos ⟨hm0,by rw [←hfr];exact hrm⟩
      clear hrm HF0 hm0;have HFR:=qI hfr;clear hfr;go_in;go_wp2_with ((go_at_call 136;refine HN2.out.mono ?_;rintro e w1 ⟨rfl,hw1⟩;obtain rfl:=hw1.symm));refine HR2.out.mono ?_;rintro e w1 ⟨l1,A1,c1,e1,rfl,o1,b1⟩;have e1b:Hid (l1=[]):=e1;clear e1;have hD1:=h.below b1;have hFr:=Zy hD1 ⟨hK.cap0,hK.cap1⟩ (by omega);rw [←HFR.out] at hFr;have HFr:=qI hFr;clear hFr;go_wp2_with fail;refine HFr.out.mono ?_;rintro e w2 ⟨rfl,hD2,b2⟩;have b12:Below w.heap.size w w2:=b1.trans (b2.mono b1.size);go_wp2_with fail;go_ret;rw [HF.out];exact ⟨rfl,hD2,Z5 b12 _⟩
     ·have d2:decide (more>fr)=false:=qF hrm
      have d2':decide (fr<more)=false:=qF hrm;have HF:Hid (appD D n b=Zw D (putF D.l n ([]++b))):=by unfold Hid;rw [HF0.out];exact if_neg (fun hh=>hrm (by rw [hfr];exact hh.2))
      clear hrm HF0 hm0;have HFR:=qI hfr;clear hfr;go_in;go_wp2_with ((go_at_call 136;refine HN2.out.mono ?_;rintro e w1 ⟨rfl,hw1⟩;obtain rfl:=hw1.symm));refine HR2.out.mono ?_;rintro e w1 ⟨l1,A1,c1,e1,rfl,o1,b1⟩;have e1b:Hid (l1=[]):=e1;clear e1;have hD1:=h.below b1;have hFr:=Zy hD1 ⟨hK.cap0,hK.cap1⟩ (by omega);rw [←HFR.out] at hFr;have HFr:=qI hFr;clear hFr;go_wp2_with fail;refine HFr.out.mono ?_;rintro e w2 ⟨rfl,hD2,b2⟩;have b12:Below w.heap.size w w2:=b1.trans (b2.mono b1.size);have HS:=Z1Z hD2 hK
      cases hs:(spR D).1 with
      | true=>
       have HE:Hid (appD D n b=(0,{ (spR D).2 with l:=putF (spR D).2.l n ([]++b) })):=by
        unfold Hid;rw [HF.out,ZL,if_pos hs,Z08]
       rw [hs] at HS;have HS2:=qI HS;clear HS hs HF;go_wp2_with fail;refine HS2.out.mono ?_;rintro e w3 ⟨rfl,hT,hg3⟩;obtain ⟨fs2,A2,c2,hB2,_⟩:=id hD2;have hO:=Other.blk (B:=B) hB2 (by decide) hB;have hb3:=((hb.below b1).below b2).keep hg3 hO;have o3:=Zc (Zh o1 b2) hB2 (by decide) hg3;have hs3:w.heap.size≤w3.heap.size:=lT b12.size hg3.size;have hl1:l1.length≤140737488355328-64:=by rw [e1b.out];simp
       clear hB2;go_wp2_with (at_builtin;refine app8 rfl (.tmp 50) (.tmp 51) rfl w.heap.size _ l1.length l1 rfl o3 _ A b.length c b rfl hb3.1 (by omega) hs3 ?_);intro l4 A4 c4 w4 e4 o4 b4 _ _ j1 j2;have e4b:Hid (l4=l1++b):=e4;obtain ⟨hR4,hgg⟩:=h.spent b12 hT hg3 b4;have hl4:l4.length≤140737488355328:=by rw [e4b.out,List.length_append];omega
       have HP:=Z1I hR4 n _ A4 l4 c4 (by rw [Z08];omega) (Rd.of_own o4) hl4;have HP2:=qI HP;clear HP;go_wp2_with fail;refine HP2.out.mono ?_;rintro e w5 ⟨rfl,hR5,hg5⟩;go_wp2_with fail;go_ret;rw [HE.out];refine ⟨rfl,?_,Z6 hgg hg5⟩;rw [e4b.out,e1b.out] at hR5;exact hR5
      | false=>
       have HE:Hid (appD D n b=(5,(spR D).2)):=by
        unfold Hid;rw [HF.out,ZL,if_neg (by rw [hs];decide)]
       rw [hs] at HS;have HS2:=qI HS;clear HS hs HF;go_wp2_with fail;refine HS2.out.mono ?_;rintro e w3 ⟨rfl,hT,hg3⟩;obtain ⟨hR3,hgg⟩:=h.spent b12 hT hg3 (bR _ _);go_wp2_with fail;go_ret;rw [HE.out];exact ⟨rfl,hR3,hgg⟩
    | some ob=>
     have hobl:=hK.small hk;have hrd:Zq D n=(ob,0):=by unfold Zq;rw [if_neg (by rw [HNm.out];decide),hk]
     rw [hrd] at HR;have HR2:=qI HR;obtain ⟨fr,hfr⟩: ∃fr,fr=frD D:=⟨_,rfl⟩;have hmo:ZX D n b=(b.length:Int):=by unfold ZX;rw [hk];simp only;omega
     rw [hmo,hk] at hF0;have HF0:=qI hF0;have hbl2:b.length≤64:=by omega
     clear HR hrd hmo hF0 hk hbl;have h3:(fr<(b.length:Int)∧(0:Int)<(b.length:Int))∨(fr<(b.length:Int)∧ ¬(0:Int)<(b.length:Int))∨ ¬fr<(b.length:Int):=by omega
     rcases h3 with ⟨hrm,hm1⟩ | ⟨hrm,hm1⟩ | hrm
     ·have d2:decide ((b.length:Int)>fr)=true:=dT hrm
      have d2':decide (fr<(b.length:Int))=true:=dT hrm;have d3:decide ((b.length:Int)>0)=true:=dT hm1;have d3':decide ((0:Int)<(b.length:Int))=true:=dT hm1;have d3n:decide (0<b.length)=true:=dT (by omega);have HF:Hid (appD D n b=(4,D)):=by unfold Hid;rw [HF0.out];exact if_pos ⟨hm1,by rw [←hfr];exact hrm⟩
      clear hm1;clear hrm HF0;have HFR:=qI hfr;clear hfr;go_in;go_wp2_with ((go_at_call 136;refine HN2.out.mono ?_;rintro e w1 ⟨rfl,hw1⟩;obtain rfl:=hw1.symm));refine HR2.out.mono ?_;rintro e w1 ⟨l1,A1,c1,e1,rfl,o1,b1⟩;have e1b:Hid (l1=ob):=e1;clear e1;have hD1:=h.below b1;have hFr:=Zy hD1 ⟨hK.cap0,hK.cap1⟩ (by omega);rw [←HFR.out] at hFr;have HFr:=qI hFr;clear hFr;go_wp2_with fail;refine HFr.out.mono ?_;rintro e w2 ⟨rfl,hD2,b2⟩;have b12:Below w.heap.size w w2:=b1.trans (b2.mono b1.size);go_wp2_with fail;go_ret;rw [HF.out];exact ⟨rfl,hD2,Z5 b12 _⟩
     ·have d2:decide ((b.length:Int)>fr)=true:=dT hrm
      have d2':decide (fr<(b.length:Int))=true:=dT hrm;have d3:decide ((b.length:Int)>0)=false:=qF hm1;have d3':decide ((0:Int)<(b.length:Int))=false:=qF hm1;have d3n:decide (0<b.length)=false:=qF (by omega);have HF:Hid (appD D n b=Zw D (putF D.l n (ob++b))):=by unfold Hid;rw [HF0.out];exact if_neg (fun hh=>hm1 hh.1)
      clear hm1;clear hrm HF0;have HFR:=qI hfr;clear hfr;go_in;go_wp2_with ((go_at_call 136;refine HN2.out.mono ?_;rintro e w1 ⟨rfl,hw1⟩;obtain rfl:=hw1.symm));refine HR2.out.mono ?_;rintro e w1 ⟨l1,A1,c1,e1,rfl,o1,b1⟩;have e1b:Hid (l1=ob):=e1;clear e1;have hD1:=h.below b1;have hFr:=Zy hD1 ⟨hK.cap0,hK.cap1⟩ (by omega);rw [←HFR.out] at hFr;have HFr:=qI hFr;clear hFr;go_wp2_with fail;refine HFr.out.mono ?_;rintro e w2 ⟨rfl,hD2,b2⟩;have b12:Below w.heap.size w w2:=b1.trans (b2.mono b1.size);have HS:=Z1Z hD2 hK
      cases hs:(spR D).1 with
      | true=>
       have HE:Hid (appD D n b=(0,{ (spR D).2 with l:=putF (spR D).2.l n (ob++b) })):=by
        unfold Hid;rw [HF.out,ZL,if_pos hs,Z08]
       rw [hs] at HS;have HS2:=qI HS;clear HS hs HF;go_wp2_with fail;refine HS2.out.mono ?_;rintro e w3 ⟨rfl,hT,hg3⟩;obtain ⟨fs2,A2,c2,hB2,_⟩:=id hD2;have hO:=Other.blk (B:=B) hB2 (by decide) hB;have hb3:=((hb.below b1).below b2).keep hg3 hO;have o3:=Zc (Zh o1 b2) hB2 (by decide) hg3;have hs3:w.heap.size≤w3.heap.size:=lT b12.size hg3.size;have hl1:l1.length≤140737488355328-64:=by rw [e1b.out];omega
       clear hB2;go_wp2_with (at_builtin;refine app8 rfl (.tmp 50) (.tmp 51) rfl w.heap.size _ l1.length l1 rfl o3 _ A b.length c b rfl hb3.1 (by omega) hs3 ?_);intro l4 A4 c4 w4 e4 o4 b4 _ _ j1 j2;have e4b:Hid (l4=l1++b):=e4;obtain ⟨hR4,hgg⟩:=h.spent b12 hT hg3 b4;have hl4:l4.length≤140737488355328:=by rw [e4b.out,List.length_append];omega
       have HP:=Z1I hR4 n _ A4 l4 c4 (by rw [Z08];omega) (Rd.of_own o4) hl4;have HP2:=qI HP;clear HP;go_wp2_with fail;refine HP2.out.mono ?_;rintro e w5 ⟨rfl,hR5,hg5⟩;go_wp2_with fail;go_ret;rw [HE.out];refine ⟨rfl,?_,Z6 hgg hg5⟩;rw [e4b.out,e1b.out] at hR5;exact hR5
      | false=>
       have HE:Hid (appD D n b=(5,(spR D).2)):=by
        unfold Hid;rw [HF.out,ZL,if_neg (by rw [hs];decide)]
       rw [hs] at HS;have HS2:=qI HS;clear HS hs HF;go_wp2_with fail;refine HS2.out.mono ?_;rintro e w3 ⟨rfl,hT,hg3⟩;obtain ⟨hR3,hgg⟩:=h.spent b12 hT hg3 (bR _ _);go_wp2_with fail;go_ret;rw [HE.out];exact ⟨rfl,hR3,hgg⟩
     ·have d2:decide ((b.length:Int)>fr)=false:=qF hrm
      have d2':decide (fr<(b.length:Int))=false:=qF hrm;have HF:Hid (appD D n b=Zw D (putF D.l n (ob++b))):=by unfold Hid;rw [HF0.out];exact if_neg (fun hh=>hrm (by rw [hfr];exact hh.2))
      clear hrm HF0;have HFR:=qI hfr;clear hfr;go_in;go_wp2_with ((go_at_call 136;refine HN2.out.mono ?_;rintro e w1 ⟨rfl,hw1⟩;obtain rfl:=hw1.symm));refine HR2.out.mono ?_;rintro e w1 ⟨l1,A1,c1,e1,rfl,o1,b1⟩;have e1b:Hid (l1=ob):=e1;clear e1;have hD1:=h.below b1;have hFr:=Zy hD1 ⟨hK.cap0,hK.cap1⟩ (by omega);rw [←HFR.out] at hFr;have HFr:=qI hFr;clear hFr;go_wp2_with fail;refine HFr.out.mono ?_;rintro e w2 ⟨rfl,hD2,b2⟩;have b12:Below w.heap.size w w2:=b1.trans (b2.mono b1.size);have HS:=Z1Z hD2 hK
      cases hs:(spR D).1 with
      | true=>
       have HE:Hid (appD D n b=(0,{ (spR D).2 with l:=putF (spR D).2.l n (ob++b) })):=by
        unfold Hid;rw [HF.out,ZL,if_pos hs,Z08]
       rw [hs] at HS;have HS2:=qI HS;clear HS hs HF;go_wp2_with fail;refine HS2.out.mono ?_;rintro e w3 ⟨rfl,hT,hg3⟩;obtain ⟨fs2,A2,c2,hB2,_⟩:=id hD2;have hO:=Other.blk (B:=B) hB2 (by decide) hB;have hb3:=((hb.below b1).below b2).keep hg3 hO;have o3:=Zc (Zh o1 b2) hB2 (by decide) hg3;have hs3:w.heap.size≤w3.heap.size:=lT b12.size hg3.size;have hl1:l1.length≤140737488355328-64:=by rw [e1b.out];omega
       clear hB2;go_wp2_with (at_builtin;refine app8 rfl (.tmp 50) (.tmp 51) rfl w.heap.size _ l1.length l1 rfl o3 _ A b.length c b rfl hb3.1 (by omega) hs3 ?_);intro l4 A4 c4 w4 e4 o4 b4 _ _ j1 j2;have e4b:Hid (l4=l1++b):=e4;obtain ⟨hR4,hgg⟩:=h.spent b12 hT hg3 b4;have hl4:l4.length≤140737488355328:=by rw [e4b.out,List.length_append];omega
       have HP:=Z1I hR4 n _ A4 l4 c4 (by rw [Z08];omega) (Rd.of_own o4) hl4;have HP2:=qI HP;clear HP;go_wp2_with fail;refine HP2.out.mono ?_;rintro e w5 ⟨rfl,hR5,hg5⟩;go_wp2_with fail;go_ret;rw [HE.out];refine ⟨rfl,?_,Z6 hgg hg5⟩;rw [e4b.out,e1b.out] at hR5;exact hR5
      | false=>
       have HE:Hid (appD D n b=(5,(spR D).2)):=by
        unfold Hid;rw [HF.out,ZL,if_neg (by rw [hs];decide)]
       rw [hs] at HS;have HS2:=qI HS;clear HS hs HF;go_wp2_with fail;refine HS2.out.mono ?_;rintro e w3 ⟨rfl,hT,hg3⟩;obtain ⟨hR3,hgg⟩:=h.spent b12 hT hg3 (bR _ _);go_wp2_with fail;go_ret;rw [HE.out];exact ⟨rfl,hR3,hgg⟩
end
end Go.Proofs.YtecpbcmpncgokaaGreat
namespace Go.Dol
open Go.RowKit
theorem Z9G (l:List Fil) (n:BA):(Zi l n).length≤l.length:=by
 cases hl:Z4 l n with
 | none=>rw [Z0h hl];omega
 | some b=>have:=(Z0x hl).length_eq;simp at this;omega
end Go.Dol
namespace Go.Proofs.YtecpbcmpncgokaaGreat
open Go.RowKit Go.Dol
theorem Zb7 {n:BA} (h:Z8 n=true):n.size≤200:=by
 unfold Z8 at h;simp only [Bool.and_eq_true,decide_eq_true_eq] at h;exact h.1.2
section
variable {w w':World} {g:Nat} {D:Dk}
theorem Z3B (h:Rdk w g D) (hK:OkW D) (a b:BA) (ha:a.size≤maxLen) (hb:b.size≤maxLen):
  Calls Tryz.prog 202 #[.pointer (some ⟨g,0,none⟩),.string a,.string b] w (RetR w g (renD D a b)):=by
 have hlen:=hK.len;have HA:=Z06 a w ha
 cases hna:Z8 a with
 | false=>
  have HF:Hid (renD D a b=(1,D)):=if_pos (.inl hna);rw [hna] at HA;have HA2:=qI HA;clear HA hna;go_in;go_wp2_with ((go_at_call 136;(with_reducible refine HA2.out.mono ?_);rintro e w1 ⟨rfl,hw1⟩;obtain rfl:=hw1.symm));go_ret;rw [HF.out];exact ⟨rfl,h,gR w _⟩
 | true=>
  have HB:=Z06 b w hb;rw [hna] at HA;have HA2:=qI HA;have ha2:=Zb7 hna;clear HA
  cases hnb:Z8 b with
  | false=>
   have HF:Hid (renD D a b=(1,D)):=if_pos (.inr hnb);rw [hnb] at HB;have HB2:=qI HB;clear HB hnb hna;go_in;go_wp2_with ((go_at_call 136;(with_reducible refine HA2.out.mono ?_);rintro e w1 ⟨rfl,hw1⟩;obtain rfl:=hw1.symm));refine HB2.out.mono ?_;rintro e w1 ⟨rfl,hw1⟩;obtain rfl:=hw1.symm;go_wp2_with fail;go_ret;rw [HF.out];exact ⟨rfl,h,gR w _⟩
  | true=>
   have hb2:=Zb7 hnb;rw [hnb] at HB;have HB2:=qI HB;clear HB;have hF0:renD D a b=if ZZ D a≠0 then (ZZ D a,D) else Z1c D (Z1O D a b) (putF (Zi D.l a) b ((Z4 D.l a).getD [])):=if_neg (by rw [hna,hnb];rintro (h | h)<;>cases h)
   clear hna hnb;have hT:=Z2u h a ha (by omega);obtain ⟨t,ht⟩: ∃t,t=ZZ D a:=⟨_,rfl⟩;rw [←ht] at hT hF0;have HT:=qI hT;clear hT
   by_cases h0:t=0
   ·rw [if_neg (by rw [h0];simp)] at hF0
    obtain ⟨_,_,ob,hob⟩:=Z1A (ht.symm.trans h0);rw [hob] at hF0;subst h0;clear ht
    cases hlb:Z4 D.l b with
    | some x=>
     have HF:Hid (renD D a b=Zw D (putF (Zi D.l a) b ob)):=by
      unfold Hid Z1c Z1O at*;rw [hF0,hlb];exact if_neg (by simp)
     have HLB:Hid (Z4 D.l b=some x):=hlb;clear hF0;have HOB:Hid (ob.length≤140737488355328):=qI (hK.small' hob);have HRD:Hid (Zq (spR D).2 a=(ob,0)):=by unfold Hid Zq;rw [if_neg (by rw [hK.named hob];decide),Z08,hob]
     have HLA:Hid (Z4 D.l a=some ob):=hob;clear hob hlb;go_in;go_wp2_with ((go_at_call 136;(with_reducible refine HA2.out.mono ?_);rintro e w1 ⟨rfl,hw1⟩;obtain rfl:=hw1.symm));refine HB2.out.mono ?_;rintro e w1 ⟨rfl,hw1⟩;obtain rfl:=hw1.symm;go_wp2_with fail;refine HT.out.mono ?_;rintro e w1 ⟨nq,rfl,hw1⟩;have bq:Below w.heap.size w w1:=by rw [hw1];exact (bR _ _).drewN' nq
     clear hw1;have h1:=h.below bq;have HHs:=qI (ZT h1 b (by omega));rw [HLB.out] at HHs;go_wp2_with fail;refine HHs.out.mono ?_;rintro e w2 ⟨nq2,rfl,hw2⟩;have bq2:Below w.heap.size w w2:=by rw [hw2];exact bq.drewN' nq2
     clear hw2;have h2:=h.below bq2;have hgq:w.grownBy w2 (some g):=Z5 bq2 _;have HS:=Z0J h2 hK
     cases hs:(spR D).1 with
     | true=>
      have HE:Hid (renD D a b=(0,{ (spR D).2 with l:=putF (Zi (spR D).2.l a) b ob })):=by
       unfold Hid;rw [HF.out,ZL,if_pos hs,Z08]
      rw [hs] at HS;have HS2:=qI HS;clear HS hs HF;go_wp2_with fail;refine HS2.out.mono ?_;rintro e w3 ⟨rfl,hR3,hg3⟩;have hRd:=Z16 hR3 a ha (by rw [Z08];omega) (by rw [Z08];intro c hc;exact hK.small' hc);rw [HRD.out] at hRd;have HRd:=qI hRd;clear hRd;go_wp2_with fail;refine HRd.out.mono ?_;rintro e w4 ⟨l1,A1,c1,e1,rfl,o1,b1⟩;have e1b:Hid (l1=ob):=e1;clear e1;have hl1:l1.length≤140737488355328:=by rw [e1b.out];exact HOB.out
      have hR4:=hR3.below b1;have hDr:=Z3s hR4 a (by rw [Z08];omega) (by rw [Z08,HLA.out];rfl);have HDr:=qI hDr;clear hDr;go_wp2_with fail;refine HDr.out.mono ?_;rintro e w5 ⟨rfl,hR5,hg5⟩;obtain ⟨fs4,A4,c4,hB4,_⟩:=id hR4;have o5:=Zc o1 hB4 (by decide) hg5;clear hB4;have hPt:=Z1I hR5 b _ A1 l1 c1 (by rw [Z08];show (Zi D.l a).length+1≤_;have h1:=Z9G D.l a;omega) (Rd.of_own o5) hl1;have HPt:=qI hPt;clear hPt;go_wp2_with fail;refine HPt.out.mono ?_;rintro e w6 ⟨rfl,hR6,hg6⟩;go_wp2_with fail;go_ret;rw [HE.out];refine ⟨rfl,?_,Z6 hgq (Z6 hg3 (Z6 (Z5 b1 _) (Z6 hg5 hg6)))⟩;rw [e1b.out] at hR6;exact hR6
     | false=>
      have HE:Hid (renD D a b=(5,(spR D).2)):=by
       unfold Hid;rw [HF.out,ZL,if_neg (by rw [hs];decide)]
      rw [hs] at HS;have HS2:=qI HS;clear HS hs HF;go_wp2_with fail;refine HS2.out.mono ?_;rintro e w3 ⟨rfl,hR3,hg3⟩;go_wp2_with fail;go_ret;rw [HE.out];exact ⟨rfl,hR3,Z6 hgq hg3⟩
    | none=>
     obtain ⟨fr,hfr⟩: ∃fr,fr=frD D:=⟨_,rfl⟩;have HLB:Hid (Z4 D.l b=none):=hlb;have g1:IntKind.i64.wrap ((b.size:Int)-(a.size:Int))=(b.size:Int)-(a.size:Int):=qJ _ (by omega);have HOB:Hid (ob.length≤140737488355328):=qI (hK.small' hob);have HRD:Hid (Zq (spR D).2 a=(ob,0)):=by unfold Hid Zq;rw [if_neg (by rw [hK.named hob];decide),Z08,hob]
     have HLA:Hid (Z4 D.l a=some ob):=hob;have hF1:renD D a b=if 0<(b.size:Int)-a.size∧fr<(b.size:Int)-a.size then (4,D) else Zw D (putF (Zi D.l a) b ob):=by
      rw [hF0,hfr];unfold Z1c Z1O;rw [hlb]
      rfl
     clear hF0;have h3:(fr<(b.size:Int)-(a.size:Int)∧a.size<b.size)∨(fr<(b.size:Int)-(a.size:Int)∧ ¬a.size<b.size)∨ ¬fr<(b.size:Int)-(a.size:Int):=by omega
     rcases h3 with ⟨hrm,hm1⟩ | ⟨hrm,hm1⟩ | hrm
     ·have d2:decide ((b.size:Int)-(a.size:Int)>fr)=true:=dT hrm
      have d2':decide (fr<(b.size:Int)-(a.size:Int))=true:=dT hrm;have d3:decide ((b.size:Int)>(a.size:Int))=true:=dT (by omega);have d3':decide ((a.size:Int)<(b.size:Int))=true:=dT (by omega);have d3n:decide (a.size<b.size)=true:=dT (by omega);have HF:Hid (renD D a b=(4,D)):=by unfold Hid;rw [hF1];exact if_pos ⟨by omega,hrm⟩
      clear hm1;clear hF1 hrm;have HFR:=qI hfr;clear hfr;clear hob hlb;go_in;go_wp2_with ((go_at_call 136;(with_reducible refine HA2.out.mono ?_);rintro e w1 ⟨rfl,hw1⟩;obtain rfl:=hw1.symm));refine HB2.out.mono ?_;rintro e w1 ⟨rfl,hw1⟩;obtain rfl:=hw1.symm;go_wp2_with fail;refine HT.out.mono ?_;rintro e w1 ⟨nq,rfl,hw1⟩;have bq:Below w.heap.size w w1:=by rw [hw1];exact (bR _ _).drewN' nq
      clear hw1;have h1:=h.below bq;have HHs:=qI (ZT h1 b (by omega));rw [HLB.out] at HHs;go_wp2_with fail;refine HHs.out.mono ?_;rintro e w2 ⟨nq2,rfl,hw2⟩;have bq2:Below w.heap.size w w2:=by rw [hw2];exact bq.drewN' nq2
      clear hw2;have h2:=h.below bq2;have hFr:=Zy h2 ⟨hK.cap0,hK.cap1⟩ (by omega);rw [←HFR.out] at hFr;have HFr:=qI hFr;clear hFr;go_wp2_with fail;refine HFr.out.mono ?_;rintro e w2b ⟨rfl,hD2,b2⟩;have hgq:w.grownBy w2b (some g):=Z5 (bq2.next b2) _;go_wp2_with fail;go_ret;rw [HF.out];exact ⟨rfl,hD2,hgq⟩
     ·have d2:decide ((b.size:Int)-(a.size:Int)>fr)=true:=dT hrm
      have d2':decide (fr<(b.size:Int)-(a.size:Int))=true:=dT hrm;have d3:decide ((b.size:Int)>(a.size:Int))=false:=qF (by omega);have d3':decide ((a.size:Int)<(b.size:Int))=false:=qF (by omega);have d3n:decide (a.size<b.size)=false:=qF (by omega);have HF:Hid (renD D a b=Zw D (putF (Zi D.l a) b ob)):=by unfold Hid;rw [hF1];exact if_neg (fun hh=>by omega)
      clear hm1;clear hF1 hrm;have HFR:=qI hfr;clear hfr;clear hob hlb;go_in;go_wp2_with ((go_at_call 136;(with_reducible refine HA2.out.mono ?_);rintro e w1 ⟨rfl,hw1⟩;obtain rfl:=hw1.symm));refine HB2.out.mono ?_;rintro e w1 ⟨rfl,hw1⟩;obtain rfl:=hw1.symm;go_wp2_with fail;refine HT.out.mono ?_;rintro e w1 ⟨nq,rfl,hw1⟩;have bq:Below w.heap.size w w1:=by rw [hw1];exact (bR _ _).drewN' nq
      clear hw1;have h1:=h.below bq;have HHs:=qI (ZT h1 b (by omega));rw [HLB.out] at HHs;go_wp2_with fail;refine HHs.out.mono ?_;rintro e w2 ⟨nq2,rfl,hw2⟩;have bq2:Below w.heap.size w w2:=by rw [hw2];exact bq.drewN' nq2
      clear hw2;have h2:=h.below bq2;have hFr:=Zy h2 ⟨hK.cap0,hK.cap1⟩ (by omega);rw [←HFR.out] at hFr;have HFr:=qI hFr;clear hFr;go_wp2_with fail;refine HFr.out.mono ?_;rintro e w2b ⟨rfl,hD2,b2⟩;have hgq:w.grownBy w2b (some g):=Z5 (bq2.next b2) _;have HS:=Z0J hD2 hK
      cases hs:(spR D).1 with
      | true=>
       have HE:Hid (renD D a b=(0,{ (spR D).2 with l:=putF (Zi (spR D).2.l a) b ob })):=by
        unfold Hid;rw [HF.out,ZL,if_pos hs,Z08]
       rw [hs] at HS;have HS2:=qI HS;clear HS hs HF;go_wp2_with fail;refine HS2.out.mono ?_;rintro e w3 ⟨rfl,hR3,hg3⟩;have hRd:=Z16 hR3 a ha (by rw [Z08];omega) (by rw [Z08];intro c hc;exact hK.small' hc);rw [HRD.out] at hRd;have HRd:=qI hRd;clear hRd;go_wp2_with fail;refine HRd.out.mono ?_;rintro e w4 ⟨l1,A1,c1,e1,rfl,o1,b1⟩;have e1b:Hid (l1=ob):=e1;clear e1;have hl1:l1.length≤140737488355328:=by rw [e1b.out];exact HOB.out
       have hR4:=hR3.below b1;have hDr:=Z3s hR4 a (by rw [Z08];omega) (by rw [Z08,HLA.out];rfl);have HDr:=qI hDr;clear hDr;go_wp2_with fail;refine HDr.out.mono ?_;rintro e w5 ⟨rfl,hR5,hg5⟩;obtain ⟨fs4,A4,c4,hB4,_⟩:=id hR4;have o5:=Zc o1 hB4 (by decide) hg5;clear hB4;have hPt:=Z1I hR5 b _ A1 l1 c1 (by rw [Z08];show (Zi D.l a).length+1≤_;have h1:=Z9G D.l a;omega) (Rd.of_own o5) hl1;have HPt:=qI hPt;clear hPt;go_wp2_with fail;refine HPt.out.mono ?_;rintro e w6 ⟨rfl,hR6,hg6⟩;go_wp2_with fail;go_ret;rw [HE.out];refine ⟨rfl,?_,Z6 hgq (Z6 hg3 (Z6 (Z5 b1 _) (Z6 hg5 hg6)))⟩;rw [e1b.out] at hR6;exact hR6
      | false=>
       have HE:Hid (renD D a b=(5,(spR D).2)):=by
        unfold Hid;rw [HF.out,ZL,if_neg (by rw [hs];decide)]
       rw [hs] at HS;have HS2:=qI HS;clear HS hs HF;go_wp2_with fail;refine HS2.out.mono ?_;rintro e w3 ⟨rfl,hR3,hg3⟩;go_wp2_with fail;go_ret;rw [HE.out];exact ⟨rfl,hR3,Z6 hgq hg3⟩
     ·have d2:decide ((b.size:Int)-(a.size:Int)>fr)=false:=qF hrm
      have d2':decide (fr<(b.size:Int)-(a.size:Int))=false:=qF hrm;have HF:Hid (renD D a b=Zw D (putF (Zi D.l a) b ob)):=by unfold Hid;rw [hF1];exact if_neg (fun hh=>hrm hh.2)
      clear hF1 hrm;have HFR:=qI hfr;clear hfr;clear hob hlb;go_in;go_wp2_with ((go_at_call 136;(with_reducible refine HA2.out.mono ?_);rintro e w1 ⟨rfl,hw1⟩;obtain rfl:=hw1.symm));refine HB2.out.mono ?_;rintro e w1 ⟨rfl,hw1⟩;obtain rfl:=hw1.symm;go_wp2_with fail;refine HT.out.mono ?_;rintro e w1 ⟨nq,rfl,hw1⟩;have bq:Below w.heap.size w w1:=by rw [hw1];exact (bR _ _).drewN' nq
      clear hw1;have h1:=h.below bq;have HHs:=qI (ZT h1 b (by omega));rw [HLB.out] at HHs;go_wp2_with fail;refine HHs.out.mono ?_;rintro e w2 ⟨nq2,rfl,hw2⟩;have bq2:Below w.heap.size w w2:=by rw [hw2];exact bq.drewN' nq2
      clear hw2;have h2:=h.below bq2;have hFr:=Zy h2 ⟨hK.cap0,hK.cap1⟩ (by omega);rw [←HFR.out] at hFr;have HFr:=qI hFr;clear hFr;go_wp2_with fail;refine HFr.out.mono ?_;rintro e w2b ⟨rfl,hD2,b2⟩;have hgq:w.grownBy w2b (some g):=Z5 (bq2.next b2) _;have HS:=Z0J hD2 hK
      cases hs:(spR D).1 with
      | true=>
       have HE:Hid (renD D a b=(0,{ (spR D).2 with l:=putF (Zi (spR D).2.l a) b ob })):=by
        unfold Hid;rw [HF.out,ZL,if_pos hs,Z08]
       rw [hs] at HS;have HS2:=qI HS;clear HS hs HF;go_wp2_with fail;refine HS2.out.mono ?_;rintro e w3 ⟨rfl,hR3,hg3⟩;have hRd:=Z16 hR3 a ha (by rw [Z08];omega) (by rw [Z08];intro c hc;exact hK.small' hc);rw [HRD.out] at hRd;have HRd:=qI hRd;clear hRd;go_wp2_with fail;refine HRd.out.mono ?_;rintro e w4 ⟨l1,A1,c1,e1,rfl,o1,b1⟩;have e1b:Hid (l1=ob):=e1;clear e1;have hl1:l1.length≤140737488355328:=by rw [e1b.out];exact HOB.out
       have hR4:=hR3.below b1;have hDr:=Z3s hR4 a (by rw [Z08];omega) (by rw [Z08,HLA.out];rfl);have HDr:=qI hDr;clear hDr;go_wp2_with fail;refine HDr.out.mono ?_;rintro e w5 ⟨rfl,hR5,hg5⟩;obtain ⟨fs4,A4,c4,hB4,_⟩:=id hR4;have o5:=Zc o1 hB4 (by decide) hg5;clear hB4;have hPt:=Z1I hR5 b _ A1 l1 c1 (by rw [Z08];show (Zi D.l a).length+1≤_;have h1:=Z9G D.l a;omega) (Rd.of_own o5) hl1;have HPt:=qI hPt;clear hPt;go_wp2_with fail;refine HPt.out.mono ?_;rintro e w6 ⟨rfl,hR6,hg6⟩;go_wp2_with fail;go_ret;rw [HE.out];refine ⟨rfl,?_,Z6 hgq (Z6 hg3 (Z6 (Z5 b1 _) (Z6 hg5 hg6)))⟩;rw [e1b.out] at hR6;exact hR6
      | false=>
       have HE:Hid (renD D a b=(5,(spR D).2)):=by
        unfold Hid;rw [HF.out,ZL,if_neg (by rw [hs];decide)]
       rw [hs] at HS;have HS2:=qI HS;clear HS hs HF;go_wp2_with fail;refine HS2.out.mono ?_;rintro e w3 ⟨rfl,hR3,hg3⟩;go_wp2_with fail;go_ret;rw [HE.out];exact ⟨rfl,hR3,Z6 hgq hg3⟩
   ·have HF:Hid (renD D a b=(t,D)):=by unfold Hid;rw [hF0,if_pos h0]
    have hq:(t==0)=false:=beq_eq_false_iff_ne.2 h0;clear ht h0 hF0;go_in;go_wp2_with ((go_at_call 136;(with_reducible refine HA2.out.mono ?_);rintro e w1 ⟨rfl,hw1⟩;obtain rfl:=hw1.symm));refine HB2.out.mono ?_;rintro e w1 ⟨rfl,hw1⟩;obtain rfl:=hw1.symm;go_wp2_with fail;refine HT.out.mono ?_;rintro e w1 ⟨nq,rfl,rfl⟩;go_wp2_with fail;go_ret;rw [HF.out];exact ⟨rfl,h.drewN nq,Z5 ((bR _ _).drewN' nq) _⟩
end
def Zes (w:World) (L:List Fil) (e:Ending) (w':World):Prop:=
 ∃(fs:List FilA) (A:OA) (c:Nat),Hid (fs.map FilA.f=L)∧e= .returned (.slice A fs.length c)∧w'.ownsRow w.heap.size 110 2 (.slice A fs.length c) fs.length (fc fs)∧Fls8 w' 0 fs∧Below w.heap.size w w'
def Zgh (D:Dk) (w:World) (q i:Value) (wr:World):Prop:=
 ∃(k:Nat) (ys:List FilA) (A:OA) (c:Nat),q= .slice A ys.length c∧i= .int .i64 k∧k≤D.l.length∧Hid (ys.map FilA.f=D.l.take k)∧ys.length=k∧wr.ownsRow w.heap.size 110 2 (.slice A ys.length c) ys.length (fc ys)∧Fls8 wr 0 ys∧Below w.heap.size w wr
section
variable {w:World} {g:Nat} {D:Dk}
theorem Z7G (h:Rdk w g D) (hK:OkL D):Calls Tryz.prog 35 #[.pointer (some ⟨g,0,none⟩)] w (Zes w D.l):=by
 have hlen:=hK.len;have hsm:=hK.small;have hg0:=h.lt;obtain ⟨fs,A,c,k0,k1,k2,k3,k4,hr,hc,hcm,hF,hL⟩:=h.row;have hll:D.l.length=fs.length:=by rw [←hL.out,List.length_map]
 have hl1:D.l.length≤fs.length:=by omega
 have hl2:fs.length≤D.l.length:=by omega
 clear hll;go_in;go_wp2_with fail;go_loopw [3,4] (fun q i wr=>Zgh D w q i wr) (fun _ i _=>fs.length-(intOf i).toNat)
 case atStart=>exact ⟨0,[],none,0,rfl,rfl,zL _,by simp [Hid],rfl,World.ownsRow_nil _ _ _ _,fun x hx=>(List.not_mem_nil hx).elim,bR _ _⟩
 case round=>
  obtain ⟨k,ys,A5,c5,rfl,rfl,hk,hy,hyl,ho,hY,hb⟩:=hrel;have hs:=hb.size;have k1':wr.cell? ⟨g,1,none⟩=some (.slice A fs.length c):=(hb.cell (p:=⟨g,1,none⟩) hg0).trans k1
  by_cases hlt:k<fs.length
  ·have hd:decide ((k:Int)<(fs.length:Int))=true:=dT (by omega)
   have hd':(k:Int)<(fs.length:Int):=by omega
   have hk0:(0:Int)≤(k:Int):=by omega
   obtain ⟨x,hx⟩: ∃x,fs[k]?=some x:=⟨fs[k],gE hlt⟩;have hx1:=Z9D hL.out hx;have hxm:=List.mem_of_getElem? hx;have hnext:D.l.take (k+1)=D.l.take k++[(x.n,x.b)]:=by rw [List.take_add_one,hx1];rfl
   have hrw:=hr.belowW hb (lR _);obtain ⟨bb,off,rfl,hbb,hcell⟩:=hr.at_ (by omega);have p0:w.cell? ⟨bb,off+k*2,none⟩=_:=hcell _ _ (Z0X hx).1;have p1:w.cell? ⟨bb,off+k*2+1,none⟩=_:=hcell _ _ (Z0X hx).2;have q0:=(hb.cell (p:=⟨bb,off+k*2,none⟩) hbb).trans p0;have q1:=(hb.cell (p:=⟨bb,off+k*2+1,none⟩) hbb).trans p1;have hxb:=hsm _ (List.mem_of_getElem? hx1);obtain ⟨hxf,hxc1,hxc2⟩:=(hF.below hb) x hxm;have f1:IntKind.i64.wrap ((k:Int)+1)=(k:Int)+1:=qJ _ (by omega);have hyk:ys.length≤3518437208880:=by omega
   obtain ⟨xn,xb,xA,xc⟩:=x;simp only at q0 q1 hxb hxf hnext;have hbA:Below wr.heap.size wr (wr.drew.alloc (.cells #[] 5)):=(bR wr.heap.size wr).drew.alloc (lR _) _;have hrb:=(hxf.below hbA).1;have oE:=Z0B wr.drew;have hg1:g<wr.heap.size:=by omega
   have hbb1:bb<wr.heap.size:=by omega
   have HX:=qI hnext;have HL:=qI hyl;clear hx hx1 hxm hcell hrw hnext hr hyl p0 p1 hsm k0 k1 k2 k3 k4 hF;go_wp2_with fail
   go_region_held3 (fun w'=>w'.cell? ⟨g,1,none⟩=some (.slice (some ⟨bb,off,none⟩) fs.length c)∧w'.cell? ⟨bb,off+k*2,none⟩=some (.string xn)∧w'.cell? ⟨bb,off+k*2+1,none⟩=some (.slice xA xb.length xc)) (first | go_keep | (go_split_ands;refine ⟨?_,?_,?_⟩<;>first | (rw [z2.cell (p:=⟨bb,_,none⟩) hbb];assumption) | (rw [z2.cell (p:=⟨g,_,none⟩) hg0];assumption) | (rw [x2.cell (p:=⟨bb,_,none⟩) hbb1];assumption) | (rw [x2.cell (p:=⟨g,_,none⟩) hg1];assumption)))
    (first
     | (refine ZeQ (by rfl) (.tmp 23) (.tmp 31) (by rfl) wr.heap.size _ 0 [] (by rfl) oE _ xA xb.length xc xb (by rfl) hrb (by omega) (by simp) ?_;intro l2 A2 c2 w2 e2 o2 x2 x3 x4 j1 j2)
     | (refine Z7Z (by rfl) (.tmp 14) (.tmp 34) 22 110 _ 2 40 (by rfl) Tryz.underlying22 Z90 rfl (by decide) w.heap.size _ ys.length (fc ys) (by rfl) (World.ownsRow.alloc (Zh ho (hbA.trans x2)) _) (w2.heap.size+1) _ 1 1 (fc [⟨xn,l2,A2,c2⟩]) (by rfl) (Rd.fileT w2 110 ⟨xn,l2,A2,c2⟩) (Z7d _) (by unfold maxLen;omega) (by omega) (by have:=x2.size;simp at this ⊢; omega) ?_;intro A' c' w' z1 z2 z3 z4 z5))
   have bA:Below wr.heap.size wr w2:=hbA.trans x2;have hs2:=bA.size;have hbl:Below w2.heap.size w2 (w2.alloc (.cells #[.string xn,.slice A2 l2.length c2] 110)):=(bR _ _).alloc (lR _) _;have hF2:Fls8 (w2.alloc (.cells #[.string xn,.slice A2 l2.length c2] 110)) 0 (ys++[⟨xn,l2,A2,c2⟩]):=by
    intro y hy;rcases List.mem_append.1 hy with hy | hy
    ·exact ((hY.below bA).below hbl) y hy
    ·rw [List.mem_singleton.1 hy]
     exact ⟨(Far.of_seg (Seg.of_own o2)).below hbl,j1,j2⟩
   have hF3:=hF2.keep z3 (Other.own (World.ownsRow.alloc (Zh ho bA) _) (by decide) (zL _));have hzl:(ys++[(⟨xn,l2,A2,c2⟩:FilA)]).length=ys.length+1:=by rw [List.length_append];rfl
   go_wp2_with fail;refine ⟨⟨k+1,ys++[⟨xn,l2,A2,c2⟩],A',c',by rw [hzl],by go_num,by omega,?_,by rw [hzl,HL.out],?_,hF3,hb.trans ((bA.mono hs).trans ((hbl.mono (by omega)).trans z2))⟩,by simp [intOf];omega⟩
   ·unfold Hid
    rw [HX.out,←hy.out,List.map_append,e2.out]
    rfl
   ·rw [hzl,Z2S]
    exact z1
  ·have hd:decide ((k:Int)<(fs.length:Int))=false:=qF (by omega)
   have hkl:k=D.l.length:=by omega
   have hall:ys.map FilA.f=D.l:=by rw [hy.out,hkl,List.take_length]
   have HA:=qI hall;clear hall hkl;go_wp2_with fail;go_ret;exact ⟨ys,A5,c5,HA,rfl,ho,hY,hb⟩
end
end Go.Proofs.YtecpbcmpncgokaaGreat
