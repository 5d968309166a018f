/- The walks of the document's 'object', its first part: a name's part, who told what, what is empty. Conditions: lengths below 2^47. -/
import Derived.Test.YtecpbcmpncgokaaGreatObjA
import Derived.Test.YtecpbcmpncgokaaGreatObjBB
import Derived.Test.YtecpbcmpncgokaaGreatWordsA
import Derived.Test.YtecpbcmpncgokaaGreatObjC
import Derived.Test.YtecpbcmpncgokaaGreatShort
set_option maxRecDepth 100000
set_option maxHeartbeats 4000000
set_option linter.unusedVariables false
namespace Go.Dol
theorem Zfh (s:BA) {k:Nat} (h:k<s.size):s[k]'h=s.data.toList[k]'(by rw [Zg];exact h):=rfl
theorem Z8W {s:BA} {k:Nat} (h:k<s.data.toList.length) (hc:s.data.toList[k]=0∨s.data.toList[k]=47):Z13 s=false:=by
 unfold Z13;rcases hc with hc | hc
 ·have:s.data.toList.contains 0=true:=by rw [List.contains_iff_mem,←hc];exact List.getElem_mem h
  rw [this];rfl
 ·have:s.data.toList.contains 47=true:=by rw [List.contains_iff_mem,←hc];exact List.getElem_mem h
  rw [this];simp
theorem ZbR {s:BA} (h: ∀(j:Nat) (hj:j<s.data.toList.length),s.data.toList[j]≠0∧s.data.toList[j]≠47):Z13 s=(decide (1≤s.size)&&decide (s.size≤100)&&(!(s.toList==[46])&& !(s.toList==[46,46]))):=by
 have h0:s.data.toList.contains 0=false:=by
  rw [Bool.eq_false_iff];intro h1;rw [List.contains_iff_mem] at h1;obtain ⟨j,hj,e⟩:=List.getElem_of_mem h1;exact (h j hj).1 e
 have h1:s.data.toList.contains 47=false:=by
  rw [Bool.eq_false_iff];intro h1;rw [List.contains_iff_mem] at h1;obtain ⟨j,hj,e⟩:=List.getElem_of_mem h1;exact (h j hj).2 e
 unfold Z13;rw [h0,h1];simp
theorem Z0k {s:BA} (h: ¬s.size=0): ¬s.toList=[]:=fun e=>h (by
 rw [ByteArray.toList_eq] at e;rw [←Zg,e]
 rfl)
theorem ZfH {x:UInt8} {n:Nat} (h:x≠UInt8.ofNat n) (hn:n<256): ¬((x.toNat:Int)=(n:Nat)):=fun e=>h (UInt8.toNat_inj.1 (by rw [UInt8.toNat_ofNat'];omega))
end Go.Dol
namespace Go.Proofs.YtecpbcmpncgokaaGreat
open Go.RowKit Go.Dol
def Zfi (s:BA) (w:World) (i:Value) (wr:World):Prop:=wr=w∧ ∃k:Nat,i= .int .i64 k∧k≤s.size∧Hid (∀(j:Nat) (hj:j<s.data.toList.length),j<k→s.data.toList[j]≠0∧s.data.toList[j]≠47)
theorem Z8k (s:BA) (w:World) (hs:s.size≤maxLen):Calls Tryz.prog 248 #[.string s] w fun e w'=>e= .returned (.bool (Z13 s))∧w=w':=by
 have hsm:s.size≤9223372036854775807:=by unfold maxLen at hs;omega
 go_in;go_wp2_with fail;go_loopw [3] (fun i wr=>Zfi s w i wr) (fun i _=>s.size-(intOf i).toNat)
 case atStart=>exact ⟨rfl,0,rfl,zL _,qI (fun j _ h=>by omega)⟩
 case round=>
  obtain ⟨rfl,k,rfl,hk,hall⟩:=hrel;have f1:k<s.size→IntKind.i64.wrap ((k:Int)+1)=(k:Int)+1:=fun h=>qJ _ (by omega)
  by_cases h1:k<s.size
  ·have f2:=f1 h1
   have d1:decide ((k:Int)<(s.size:Int))=true:=dT (by omega);have d1':(k:Int)<(s.size:Int):=by omega
   have hk0:(0:Int)≤(k:Int):=by omega
   have hkl:k<s.data.toList.length:=by rw [Zg];exact h1
   obtain ⟨c,hc⟩: ∃c,c=s.data.toList[k]:=⟨_,rfl⟩;have hsx: ∀h:k<s.size,(s[k]'h).toNat=c.toNat:=fun h=>by rw [Zfh s h,hc]
   have HC:=qI hc;clear hc f1
   by_cases hz:c=0
   ·have g1:((c.toNat:Int)==0)=true:=by rw [hz];rfl
    have HP:Hid (Z13 s=false):=qI (Z8W hkl (.inl (by rw [←HC.out,hz])));clear hz;go_wp2_with fail;go_ret;exact ⟨by rw [HP.out];rfl,rfl⟩
   ·have hz': ¬((c.toNat:Int)=0):=ZfH (n:=0) hz (by decide)
    have g1:((c.toNat:Int)==0)=false:=beq_eq_false_iff_ne.2 hz'
    by_cases hq:c=47
    ·have g2:((c.toNat:Int)==47)=true:=by rw [hq];rfl
     have HP:Hid (Z13 s=false):=qI (Z8W hkl (.inr (by rw [←HC.out,hq])));clear hq;go_wp2_with fail;go_ret;exact ⟨by rw [HP.out];rfl,rfl⟩
    ·have hq': ¬((c.toNat:Int)=47):=ZfH (n:=47) hq (by decide)
     have g2:((c.toNat:Int)==47)=false:=beq_eq_false_iff_ne.2 hq';have HA:Hid (∀(j:Nat) (hj:j<s.data.toList.length),j<k+1→s.data.toList[j]≠0∧s.data.toList[j]≠47):=fun j hj hjk=>by
      by_cases e:j=k
      ·subst e
       rw [←HC.out];exact ⟨hz,hq⟩
      ·exact hall.out j hj (by omega)
     have HZ:=qI hz;have HQ:=qI hq;clear hz hq;go_wp2_with fail;exact ⟨⟨by first | trivial | rfl,k+1,by go_num,h1,HA⟩,by simp [intOf];omega⟩
  ·have d1:decide ((k:Int)<(s.size:Int))=false:=qF (by omega)
   have d1': ¬(k:Int)<(s.size:Int):=by omega
   have HP:Hid (Z13 s=(decide (1≤s.size)&&decide (s.size≤100)&&(!(s.toList==[46])&& !(s.toList==[46,46])))):=qI (ZbR fun j hj=>hall.out j hj (by rw [Zg] at hj;omega));clear f1 hall
   by_cases h2:1≤s.size
   ·have e1:decide ((1:Int)≤(s.size:Int))=true:=dT (by omega)
    have e1':decide ((s.size:Int)≥1)=true:=dT (by omega)
    by_cases h3:s.size≤100
    ·have e2:decide ((s.size:Int)≤100)=true:=dT (by omega)
     have HR:Hid (Z13 s=(!(s.toList==[46])&& !(s.toList==[46,46]))):=by unfold Hid;rw [HP.out,dT h2,dT h3];simp
     clear h2 h3
     cases h4:(s.toList==[46]) with
     | true=>
      have h4':s.toList=[46]:=by simpa using h4
      go_wp2_with fail;go_ret;exact ⟨by rw [HR.out];simp [*],rfl⟩
     | false=>
      have h4': ¬s.toList=[46]:=by simpa using h4
      go_wp2_with fail;go_ret;exact ⟨by rw [HR.out];simp [*],rfl⟩
    ·have e2:decide ((s.size:Int)≤100)=false:=qF (by omega)
     have HR:Hid (Z13 s=false):=by unfold Hid;rw [HP.out,qF h3];simp
     clear h2 h3;go_wp2_with fail;go_ret;exact ⟨by rw [HR.out];rfl,rfl⟩
   ·have e1:decide ((1:Int)≤(s.size:Int))=false:=qF (by omega)
    have e1':decide ((s.size:Int)≥1)=false:=qF (by omega);have HR:Hid (Z13 s=false):=by unfold Hid;rw [HP.out,qF h2];simp
    clear h2;go_wp2_with fail;go_ret;exact ⟨by rw [HR.out];rfl,rfl⟩
theorem Z0A (k:Int) (Ad:OA) (d:LU) (cd:Nat) (Ae:OA) (en:List Ent) (ce:Nat) (tr:BA) (Ap:OA) (pa:List BA) (cp:Nat) (ta na wh:BA) (st:Int) (te:BA) (w:World):Calls Tryz.prog 191 #[.agg #[.int .i64 k,.slice Ad d.length cd,.slice Ae en.length ce,.string tr,.slice Ap pa.length cp,.string ta,.string na,.string wh,.int .i64 st,.string te]] w fun e w'=>e= .returned (.bool (Zt wh st te))∧Below w.heap.size w w':=by
 have hb0:Below w.heap.size w (w.alloc (.cells #[.int .i64 k,.slice Ad d.length cd,.slice Ae en.length ce,.string tr,.slice Ap pa.length cp,.string ta,.string na,.string wh,.int .i64 st,.string te] 40)):=(bR _ _).alloc (lR _) _
 by_cases h1:wh.size≤1000
 ·have d1:decide ((wh.size:Int)≤1000)=true:=by simp;omega
  by_cases h2:te.size≤1000
  ·have d2:decide ((te.size:Int)≤1000)=true:=by simp;omega
   by_cases h3:0≤st
   ·have d3:decide (0≤st)=true:=by simp;omega
    have d3':decide (st≥0)=true:=by simp;omega
    by_cases h4:st≤1099511627776
    ·have d4:decide (st≤1099511627776)=true:=by simp;omega
     have HF:Hid (Zt wh st te=true):=by unfold Hid Zt;simp [h1,h2,h3,h4]
     clear h1 h2;go_in;go_wp2_with fail;go_ret;exact ⟨by rw [HF.out];rfl,hb0⟩
    ·have d4:decide (st≤1099511627776)=false:=by simp;omega
     have HF:Hid (Zt wh st te=false):=by unfold Hid Zt;simp [h4]
     clear h1 h2;go_in;go_wp2_with fail;go_ret;exact ⟨by rw [HF.out];rfl,hb0⟩
   ·have d3:decide (0≤st)=false:=by simp;omega
    have d3':decide (st≥0)=false:=by simp;omega
    have HF:Hid (Zt wh st te=false):=by unfold Hid Zt;simp [h3]
    clear h1 h2;go_in;go_wp2_with fail;go_ret;exact ⟨by rw [HF.out];rfl,hb0⟩
  ·have d2:decide ((te.size:Int)≤1000)=false:=by simp;omega
   have HF:Hid (Zt wh st te=false):=by unfold Hid Zt;simp [h2]
   clear h1 h2;go_in;go_wp2_with fail;go_ret;exact ⟨by rw [HF.out];rfl,hb0⟩
 ·have d1:decide ((wh.size:Int)≤1000)=false:=by simp;omega
  have HF:Hid (Zt wh st te=false):=by unfold Hid Zt;simp [h1]
  clear h1;go_in;go_wp2_with fail;go_ret;exact ⟨by rw [HF.out];rfl,hb0⟩
theorem ZbS (k:Int) (Ad:OA) (nd cd:Nat) (Ae:OA) (ne ce:Nat) (tr:BA) (Ap:OA) (np cp:Nat) (ta na wh:BA) (st:Int) (te:BA) (w:World):Calls Tryz.prog 188 #[.agg #[.int .i64 k,.slice Ad nd cd,.slice Ae ne ce,.string tr,.slice Ap np cp,.string ta,.string na,.string wh,.int .i64 st,.string te],.bool false,.bool true,.bool true,.bool true,.bool true] w fun e w'=>e= .returned (.bool (decide (ne=0)&&(decide (tr.size=0)&&decide (np=0))&&(decide (ta.size=0)&&decide (na.size=0))&&(decide (wh.size=0)&&decide (te.size=0)&&decide (st=0))))∧Below w.heap.size w w':=by
 rcases Nat.eq_zero_or_pos ne with h0 | h0
 case inr=>
  obtain ⟨m0,rfl⟩: ∃m,ne=m+1:=⟨ne-1,by omega⟩;have hb0:Below w.heap.size w (w.alloc (.cells #[.int .i64 k,.slice Ad nd cd,.slice Ae (m0+1) ce,.string tr,.slice Ap np cp,.string ta,.string na,.string wh,.int .i64 st,.string te] 40)):=(bR _ _).alloc (lR _) _;go_in;go_wp2_with fail;go_ret;exact ⟨by first | rfl | simp [*],hb0⟩
 case inl=>
  subst h0
  by_cases h1:tr.size=0
  case neg=>
   have t1: ¬tr.toList=[]:=Z0k h1;have u1:tr.toList.isEmpty=false:=by simpa using t1
   have hb0:Below w.heap.size w (w.alloc (.cells #[.int .i64 k,.slice Ad nd cd,.slice Ae 0 ce,.string tr,.slice Ap np cp,.string ta,.string na,.string wh,.int .i64 st,.string te] 40)):=(bR _ _).alloc (lR _) _;go_in;go_wp2_with fail;go_ret;exact ⟨by first | rfl | simp [*],hb0⟩
  case pos=>
   obtain rfl:=Zz h1;clear h1;rcases Nat.eq_zero_or_pos np with h2 | h2
   case inr=>
    obtain ⟨m2,rfl⟩: ∃m,np=m+1:=⟨np-1,by omega⟩;have hb0:Below w.heap.size w (w.alloc (.cells #[.int .i64 k,.slice Ad nd cd,.slice Ae 0 ce,.string ⟨#[]⟩,.slice Ap (m2+1) cp,.string ta,.string na,.string wh,.int .i64 st,.string te] 40)):=(bR _ _).alloc (lR _) _;go_in;go_wp2_with fail;go_ret;exact ⟨by first | rfl | simp [*],hb0⟩
   case inl=>
    subst h2
    by_cases h3:ta.size=0
    case neg=>
     have t3: ¬ta.toList=[]:=Z0k h3;have u3:ta.toList.isEmpty=false:=by simpa using t3
     have hb0:Below w.heap.size w (w.alloc (.cells #[.int .i64 k,.slice Ad nd cd,.slice Ae 0 ce,.string ⟨#[]⟩,.slice Ap 0 cp,.string ta,.string na,.string wh,.int .i64 st,.string te] 40)):=(bR _ _).alloc (lR _) _;go_in;go_wp2_with fail;go_ret;exact ⟨by first | rfl | simp [*],hb0⟩
    case pos=>
     obtain rfl:=Zz h3;clear h3
     by_cases h4:na.size=0
     case neg=>
      have t4: ¬na.toList=[]:=Z0k h4;have u4:na.toList.isEmpty=false:=by simpa using t4
      have hb0:Below w.heap.size w (w.alloc (.cells #[.int .i64 k,.slice Ad nd cd,.slice Ae 0 ce,.string ⟨#[]⟩,.slice Ap 0 cp,.string ⟨#[]⟩,.string na,.string wh,.int .i64 st,.string te] 40)):=(bR _ _).alloc (lR _) _;go_in;go_wp2_with fail;go_ret;exact ⟨by first | rfl | simp [*],hb0⟩
     case pos=>
      obtain rfl:=Zz h4;clear h4
      by_cases h5:wh.size=0
      case neg=>
       have t5: ¬wh.toList=[]:=Z0k h5;have u5:wh.toList.isEmpty=false:=by simpa using t5
       have hb0:Below w.heap.size w (w.alloc (.cells #[.int .i64 k,.slice Ad nd cd,.slice Ae 0 ce,.string ⟨#[]⟩,.slice Ap 0 cp,.string ⟨#[]⟩,.string ⟨#[]⟩,.string wh,.int .i64 st,.string te] 40)):=(bR _ _).alloc (lR _) _;go_in;go_wp2_with fail;go_ret;exact ⟨by first | rfl | simp [*],hb0⟩
      case pos=>
       obtain rfl:=Zz h5;clear h5
       by_cases h6:te.size=0
       case neg=>
        have t6: ¬te.toList=[]:=Z0k h6;have u6:te.toList.isEmpty=false:=by simpa using t6
        have hb0:Below w.heap.size w (w.alloc (.cells #[.int .i64 k,.slice Ad nd cd,.slice Ae 0 ce,.string ⟨#[]⟩,.slice Ap 0 cp,.string ⟨#[]⟩,.string ⟨#[]⟩,.string ⟨#[]⟩,.int .i64 st,.string te] 40)):=(bR _ _).alloc (lR _) _;go_in;go_wp2_with fail;go_ret;exact ⟨by first | rfl | simp [*],hb0⟩
       case pos=>
        obtain rfl:=Zz h6;clear h6
        by_cases h7:st=0
        case neg=>
         have t7:(st==0)=false:=beq_eq_false_iff_ne.2 h7;have hb0:Below w.heap.size w (w.alloc (.cells #[.int .i64 k,.slice Ad nd cd,.slice Ae 0 ce,.string ⟨#[]⟩,.slice Ap 0 cp,.string ⟨#[]⟩,.string ⟨#[]⟩,.string ⟨#[]⟩,.int .i64 st,.string ⟨#[]⟩] 40)):=(bR _ _).alloc (lR _) _;go_in;go_wp2_with fail;go_ret;exact ⟨by first | rfl | simp [*],hb0⟩
        case pos=>
         subst h7;have hb0:Below w.heap.size w (w.alloc (.cells #[.int .i64 k,.slice Ad nd cd,.slice Ae 0 ce,.string ⟨#[]⟩,.slice Ap 0 cp,.string ⟨#[]⟩,.string ⟨#[]⟩,.string ⟨#[]⟩,.int .i64 0,.string ⟨#[]⟩] 40)):=(bR _ _).alloc (lR _) _;go_in;go_wp2_with fail;go_ret;exact ⟨by first | rfl | simp [*],hb0⟩
theorem Z3U (k:Int) (Ad:OA) (d:LU) (cd:Nat) (Ae:OA) (en:List Ent) (ce:Nat) (tr:BA) (Ap:OA) (pa:List BA) (cp:Nat) (ta na wh:BA) (st:Int) (te:BA) (w:World):Calls Tryz.prog 188 #[.agg #[.int .i64 k,.slice Ad d.length cd,.slice Ae en.length ce,.string tr,.slice Ap pa.length cp,.string ta,.string na,.string wh,.int .i64 st,.string te],.bool false,.bool true,.bool true,.bool true,.bool true] w fun e w'=>e= .returned (.bool (Z0Z (⟨k,d,en,tr,pa,ta,na,wh,st,te⟩:Go.Dol.Obj)&&ZU (⟨k,d,en,tr,pa,ta,na,wh,st,te⟩:Go.Dol.Obj)&&Z1Q (⟨k,d,en,tr,pa,ta,na,wh,st,te⟩:Go.Dol.Obj)&&Z1Y (⟨k,d,en,tr,pa,ta,na,wh,st,te⟩:Go.Dol.Obj)))∧Below w.heap.size w w':=
 ZbS k Ad d.length cd Ae en.length ce tr Ap pa.length cp ta na wh st te w
theorem ZbT (k:Int) (Ad:OA) (nd cd:Nat) (Ae:OA) (ne ce:Nat) (tr:BA) (Ap:OA) (np cp:Nat) (ta na wh:BA) (st:Int) (te:BA) (w:World):Calls Tryz.prog 188 #[.agg #[.int .i64 k,.slice Ad nd cd,.slice Ae ne ce,.string tr,.slice Ap np cp,.string ta,.string na,.string wh,.int .i64 st,.string te],.bool true,.bool false,.bool true,.bool true,.bool true] w fun e w'=>e= .returned (.bool (decide (nd=0)&&(decide (tr.size=0)&&decide (np=0))&&(decide (ta.size=0)&&decide (na.size=0))&&(decide (wh.size=0)&&decide (te.size=0)&&decide (st=0))))∧Below w.heap.size w w':=by
 rcases Nat.eq_zero_or_pos nd with h0 | h0
 case inr=>
  obtain ⟨m0,rfl⟩: ∃m,nd=m+1:=⟨nd-1,by omega⟩;have hb0:Below w.heap.size w (w.alloc (.cells #[.int .i64 k,.slice Ad (m0+1) cd,.slice Ae ne ce,.string tr,.slice Ap np cp,.string ta,.string na,.string wh,.int .i64 st,.string te] 40)):=(bR _ _).alloc (lR _) _;go_in;go_wp2_with fail;go_ret;exact ⟨by first | rfl | simp [*],hb0⟩
 case inl=>
  subst h0
  by_cases h1:tr.size=0
  case neg=>
   have t1: ¬tr.toList=[]:=Z0k h1;have u1:tr.toList.isEmpty=false:=by simpa using t1
   have hb0:Below w.heap.size w (w.alloc (.cells #[.int .i64 k,.slice Ad 0 cd,.slice Ae ne ce,.string tr,.slice Ap np cp,.string ta,.string na,.string wh,.int .i64 st,.string te] 40)):=(bR _ _).alloc (lR _) _;go_in;go_wp2_with fail;go_ret;exact ⟨by first | rfl | simp [*],hb0⟩
  case pos=>
   obtain rfl:=Zz h1;clear h1;rcases Nat.eq_zero_or_pos np with h2 | h2
   case inr=>
    obtain ⟨m2,rfl⟩: ∃m,np=m+1:=⟨np-1,by omega⟩;have hb0:Below w.heap.size w (w.alloc (.cells #[.int .i64 k,.slice Ad 0 cd,.slice Ae ne ce,.string ⟨#[]⟩,.slice Ap (m2+1) cp,.string ta,.string na,.string wh,.int .i64 st,.string te] 40)):=(bR _ _).alloc (lR _) _;go_in;go_wp2_with fail;go_ret;exact ⟨by first | rfl | simp [*],hb0⟩
   case inl=>
    subst h2
    by_cases h3:ta.size=0
    case neg=>
     have t3: ¬ta.toList=[]:=Z0k h3;have u3:ta.toList.isEmpty=false:=by simpa using t3
     have hb0:Below w.heap.size w (w.alloc (.cells #[.int .i64 k,.slice Ad 0 cd,.slice Ae ne ce,.string ⟨#[]⟩,.slice Ap 0 cp,.string ta,.string na,.string wh,.int .i64 st,.string te] 40)):=(bR _ _).alloc (lR _) _;go_in;go_wp2_with fail;go_ret;exact ⟨by first | rfl | simp [*],hb0⟩
    case pos=>
     obtain rfl:=Zz h3;clear h3
     by_cases h4:na.size=0
     case neg=>
      have t4: ¬na.toList=[]:=Z0k h4;have u4:na.toList.isEmpty=false:=by simpa using t4
      have hb0:Below w.heap.size w (w.alloc (.cells #[.int .i64 k,.slice Ad 0 cd,.slice Ae ne ce,.string ⟨#[]⟩,.slice Ap 0 cp,.string ⟨#[]⟩,.string na,.string wh,.int .i64 st,.string te] 40)):=(bR _ _).alloc (lR _) _;go_in;go_wp2_with fail;go_ret;exact ⟨by first | rfl | simp [*],hb0⟩
     case pos=>
      obtain rfl:=Zz h4;clear h4
      by_cases h5:wh.size=0
      case neg=>
       have t5: ¬wh.toList=[]:=Z0k h5;have u5:wh.toList.isEmpty=false:=by simpa using t5
       have hb0:Below w.heap.size w (w.alloc (.cells #[.int .i64 k,.slice Ad 0 cd,.slice Ae ne ce,.string ⟨#[]⟩,.slice Ap 0 cp,.string ⟨#[]⟩,.string ⟨#[]⟩,.string wh,.int .i64 st,.string te] 40)):=(bR _ _).alloc (lR _) _;go_in;go_wp2_with fail;go_ret;exact ⟨by first | rfl | simp [*],hb0⟩
      case pos=>
       obtain rfl:=Zz h5;clear h5
       by_cases h6:te.size=0
       case neg=>
        have t6: ¬te.toList=[]:=Z0k h6;have u6:te.toList.isEmpty=false:=by simpa using t6
        have hb0:Below w.heap.size w (w.alloc (.cells #[.int .i64 k,.slice Ad 0 cd,.slice Ae ne ce,.string ⟨#[]⟩,.slice Ap 0 cp,.string ⟨#[]⟩,.string ⟨#[]⟩,.string ⟨#[]⟩,.int .i64 st,.string te] 40)):=(bR _ _).alloc (lR _) _;go_in;go_wp2_with fail;go_ret;exact ⟨by first | rfl | simp [*],hb0⟩
       case pos=>
        obtain rfl:=Zz h6;clear h6
        by_cases h7:st=0
        case neg=>
         have t7:(st==0)=false:=beq_eq_false_iff_ne.2 h7;have hb0:Below w.heap.size w (w.alloc (.cells #[.int .i64 k,.slice Ad 0 cd,.slice Ae ne ce,.string ⟨#[]⟩,.slice Ap 0 cp,.string ⟨#[]⟩,.string ⟨#[]⟩,.string ⟨#[]⟩,.int .i64 st,.string ⟨#[]⟩] 40)):=(bR _ _).alloc (lR _) _;go_in;go_wp2_with fail;go_ret;exact ⟨by first | rfl | simp [*],hb0⟩
        case pos=>
         subst h7;have hb0:Below w.heap.size w (w.alloc (.cells #[.int .i64 k,.slice Ad 0 cd,.slice Ae ne ce,.string ⟨#[]⟩,.slice Ap 0 cp,.string ⟨#[]⟩,.string ⟨#[]⟩,.string ⟨#[]⟩,.int .i64 0,.string ⟨#[]⟩] 40)):=(bR _ _).alloc (lR _) _;go_in;go_wp2_with fail;go_ret;exact ⟨by first | rfl | simp [*],hb0⟩
theorem Z3V (k:Int) (Ad:OA) (d:LU) (cd:Nat) (Ae:OA) (en:List Ent) (ce:Nat) (tr:BA) (Ap:OA) (pa:List BA) (cp:Nat) (ta na wh:BA) (st:Int) (te:BA) (w:World):Calls Tryz.prog 188 #[.agg #[.int .i64 k,.slice Ad d.length cd,.slice Ae en.length ce,.string tr,.slice Ap pa.length cp,.string ta,.string na,.string wh,.int .i64 st,.string te],.bool true,.bool false,.bool true,.bool true,.bool true] w fun e w'=>e= .returned (.bool (Z0Y (⟨k,d,en,tr,pa,ta,na,wh,st,te⟩:Go.Dol.Obj)&&ZU (⟨k,d,en,tr,pa,ta,na,wh,st,te⟩:Go.Dol.Obj)&&Z1Q (⟨k,d,en,tr,pa,ta,na,wh,st,te⟩:Go.Dol.Obj)&&Z1Y (⟨k,d,en,tr,pa,ta,na,wh,st,te⟩:Go.Dol.Obj)))∧Below w.heap.size w w':=
 ZbT k Ad d.length cd Ae en.length ce tr Ap pa.length cp ta na wh st te w
theorem ZbU (k:Int) (Ad:OA) (nd cd:Nat) (Ae:OA) (ne ce:Nat) (tr:BA) (Ap:OA) (np cp:Nat) (ta na wh:BA) (st:Int) (te:BA) (w:World):Calls Tryz.prog 188 #[.agg #[.int .i64 k,.slice Ad nd cd,.slice Ae ne ce,.string tr,.slice Ap np cp,.string ta,.string na,.string wh,.int .i64 st,.string te],.bool true,.bool true,.bool false,.bool true,.bool false] w fun e w'=>e= .returned (.bool (decide (nd=0)&&decide (ne=0)&&(decide (ta.size=0)&&decide (na.size=0))))∧Below w.heap.size w w':=by
 rcases Nat.eq_zero_or_pos nd with h0 | h0
 case inr=>
  obtain ⟨m0,rfl⟩: ∃m,nd=m+1:=⟨nd-1,by omega⟩;have hb0:Below w.heap.size w (w.alloc (.cells #[.int .i64 k,.slice Ad (m0+1) cd,.slice Ae ne ce,.string tr,.slice Ap np cp,.string ta,.string na,.string wh,.int .i64 st,.string te] 40)):=(bR _ _).alloc (lR _) _;go_in;go_wp2_with fail;go_ret;exact ⟨by first | rfl | simp [*],hb0⟩
 case inl=>
  subst h0;rcases Nat.eq_zero_or_pos ne with h1 | h1
  case inr=>
   obtain ⟨m1,rfl⟩: ∃m,ne=m+1:=⟨ne-1,by omega⟩;have hb0:Below w.heap.size w (w.alloc (.cells #[.int .i64 k,.slice Ad 0 cd,.slice Ae (m1+1) ce,.string tr,.slice Ap np cp,.string ta,.string na,.string wh,.int .i64 st,.string te] 40)):=(bR _ _).alloc (lR _) _;go_in;go_wp2_with fail;go_ret;exact ⟨by first | rfl | simp [*],hb0⟩
  case inl=>
   subst h1
   by_cases h2:ta.size=0
   case neg=>
    have t2: ¬ta.toList=[]:=Z0k h2;have u2:ta.toList.isEmpty=false:=by simpa using t2
    have hb0:Below w.heap.size w (w.alloc (.cells #[.int .i64 k,.slice Ad 0 cd,.slice Ae 0 ce,.string tr,.slice Ap np cp,.string ta,.string na,.string wh,.int .i64 st,.string te] 40)):=(bR _ _).alloc (lR _) _;go_in;go_wp2_with fail;go_ret;exact ⟨by first | rfl | simp [*],hb0⟩
   case pos=>
    obtain rfl:=Zz h2;clear h2
    by_cases h3:na.size=0
    case neg=>
     have t3: ¬na.toList=[]:=Z0k h3;have u3:na.toList.isEmpty=false:=by simpa using t3
     have hb0:Below w.heap.size w (w.alloc (.cells #[.int .i64 k,.slice Ad 0 cd,.slice Ae 0 ce,.string tr,.slice Ap np cp,.string ⟨#[]⟩,.string na,.string wh,.int .i64 st,.string te] 40)):=(bR _ _).alloc (lR _) _;go_in;go_wp2_with fail;go_ret;exact ⟨by first | rfl | simp [*],hb0⟩
    case pos=>
     obtain rfl:=Zz h3;clear h3;have hb0:Below w.heap.size w (w.alloc (.cells #[.int .i64 k,.slice Ad 0 cd,.slice Ae 0 ce,.string tr,.slice Ap np cp,.string ⟨#[]⟩,.string ⟨#[]⟩,.string wh,.int .i64 st,.string te] 40)):=(bR _ _).alloc (lR _) _;go_in;go_wp2_with fail;go_ret;exact ⟨by first | rfl | simp [*],hb0⟩
theorem Z3W (k:Int) (Ad:OA) (d:LU) (cd:Nat) (Ae:OA) (en:List Ent) (ce:Nat) (tr:BA) (Ap:OA) (pa:List BA) (cp:Nat) (ta na wh:BA) (st:Int) (te:BA) (w:World):Calls Tryz.prog 188 #[.agg #[.int .i64 k,.slice Ad d.length cd,.slice Ae en.length ce,.string tr,.slice Ap pa.length cp,.string ta,.string na,.string wh,.int .i64 st,.string te],.bool true,.bool true,.bool false,.bool true,.bool false] w fun e w'=>e= .returned (.bool (Z0Y (⟨k,d,en,tr,pa,ta,na,wh,st,te⟩:Go.Dol.Obj)&&Z0Z (⟨k,d,en,tr,pa,ta,na,wh,st,te⟩:Go.Dol.Obj)&&Z1Q (⟨k,d,en,tr,pa,ta,na,wh,st,te⟩:Go.Dol.Obj)))∧Below w.heap.size w w':=
 ZbU k Ad d.length cd Ae en.length ce tr Ap pa.length cp ta na wh st te w
theorem ZbV (k:Int) (Ad:OA) (nd cd:Nat) (Ae:OA) (ne ce:Nat) (tr:BA) (Ap:OA) (np cp:Nat) (ta na wh:BA) (st:Int) (te:BA) (w:World):Calls Tryz.prog 188 #[.agg #[.int .i64 k,.slice Ad nd cd,.slice Ae ne ce,.string tr,.slice Ap np cp,.string ta,.string na,.string wh,.int .i64 st,.string te],.bool true,.bool true,.bool true,.bool false,.bool false] w fun e w'=>e= .returned (.bool (decide (nd=0)&&decide (ne=0)&&(decide (tr.size=0)&&decide (np=0))))∧Below w.heap.size w w':=by
 rcases Nat.eq_zero_or_pos nd with h0 | h0
 case inr=>
  obtain ⟨m0,rfl⟩: ∃m,nd=m+1:=⟨nd-1,by omega⟩;have hb0:Below w.heap.size w (w.alloc (.cells #[.int .i64 k,.slice Ad (m0+1) cd,.slice Ae ne ce,.string tr,.slice Ap np cp,.string ta,.string na,.string wh,.int .i64 st,.string te] 40)):=(bR _ _).alloc (lR _) _;go_in;go_wp2_with fail;go_ret;exact ⟨by first | rfl | simp [*],hb0⟩
 case inl=>
  subst h0;rcases Nat.eq_zero_or_pos ne with h1 | h1
  case inr=>
   obtain ⟨m1,rfl⟩: ∃m,ne=m+1:=⟨ne-1,by omega⟩;have hb0:Below w.heap.size w (w.alloc (.cells #[.int .i64 k,.slice Ad 0 cd,.slice Ae (m1+1) ce,.string tr,.slice Ap np cp,.string ta,.string na,.string wh,.int .i64 st,.string te] 40)):=(bR _ _).alloc (lR _) _;go_in;go_wp2_with fail;go_ret;exact ⟨by first | rfl | simp [*],hb0⟩
  case inl=>
   subst h1
   by_cases h2:tr.size=0
   case neg=>
    have t2: ¬tr.toList=[]:=Z0k h2;have u2:tr.toList.isEmpty=false:=by simpa using t2
    have hb0:Below w.heap.size w (w.alloc (.cells #[.int .i64 k,.slice Ad 0 cd,.slice Ae 0 ce,.string tr,.slice Ap np cp,.string ta,.string na,.string wh,.int .i64 st,.string te] 40)):=(bR _ _).alloc (lR _) _;go_in;go_wp2_with fail;go_ret;exact ⟨by first | rfl | simp [*],hb0⟩
   case pos=>
    obtain rfl:=Zz h2;clear h2;rcases Nat.eq_zero_or_pos np with h3 | h3
    case inr=>
     obtain ⟨m3,rfl⟩: ∃m,np=m+1:=⟨np-1,by omega⟩;have hb0:Below w.heap.size w (w.alloc (.cells #[.int .i64 k,.slice Ad 0 cd,.slice Ae 0 ce,.string ⟨#[]⟩,.slice Ap (m3+1) cp,.string ta,.string na,.string wh,.int .i64 st,.string te] 40)):=(bR _ _).alloc (lR _) _;go_in;go_wp2_with fail;go_ret;exact ⟨by first | rfl | simp [*],hb0⟩
    case inl=>
     subst h3;have hb0:Below w.heap.size w (w.alloc (.cells #[.int .i64 k,.slice Ad 0 cd,.slice Ae 0 ce,.string ⟨#[]⟩,.slice Ap 0 cp,.string ta,.string na,.string wh,.int .i64 st,.string te] 40)):=(bR _ _).alloc (lR _) _;go_in;go_wp2_with fail;go_ret;exact ⟨by first | rfl | simp [*],hb0⟩
theorem Z3X (k:Int) (Ad:OA) (d:LU) (cd:Nat) (Ae:OA) (en:List Ent) (ce:Nat) (tr:BA) (Ap:OA) (pa:List BA) (cp:Nat) (ta na wh:BA) (st:Int) (te:BA) (w:World):Calls Tryz.prog 188 #[.agg #[.int .i64 k,.slice Ad d.length cd,.slice Ae en.length ce,.string tr,.slice Ap pa.length cp,.string ta,.string na,.string wh,.int .i64 st,.string te],.bool true,.bool true,.bool true,.bool false,.bool false] w fun e w'=>e= .returned (.bool (Z0Y (⟨k,d,en,tr,pa,ta,na,wh,st,te⟩:Go.Dol.Obj)&&Z0Z (⟨k,d,en,tr,pa,ta,na,wh,st,te⟩:Go.Dol.Obj)&&ZU (⟨k,d,en,tr,pa,ta,na,wh,st,te⟩:Go.Dol.Obj)))∧Below w.heap.size w w':=
 ZbV k Ad d.length cd Ae en.length ce tr Ap pa.length cp ta na wh st te w
theorem Z2r (s:BA) (b:Bool) (h:Hid (Z13 s=b)) (hs:s.size≤maxLen) (w:World):Calls Tryz.prog 248 #[.string s] w fun e w'=>e= .returned (.bool b)∧w'=w:=
 (Z8k s w hs).mono fun e w' ⟨h1,h2⟩=>⟨by rw [h1,h.out],h2.symm⟩
def Zfj (l:List Ent) (w:World) (i:Value) (wr:World):Prop:=∃ k q:Nat,i= .int .i64 k∧k≤l.length∧Hid (Z2q geS l k)∧wr=w.drewN q
theorem Z1F (A:OA) (l:List Ent) (c B:Nat) (w:World) (hr:Rd w B 3 A l.length (ec l)) (hl:l.length≤140737488355328) (hsz:Hid (∀e∈l,e.name.size≤maxLen)):
  Calls Tryz.prog 189 #[.slice A l.length c] w fun e w'=>e= .returned (.bool (Z14 geS l))∧ ∃n,w'=w.drewN n:=by
 obtain ⟨r,hre⟩: ∃r,r=Z14 geS l:=⟨_,rfl⟩;rw [←hre];have HR:=qI hre;clear hre;go_in;go_wp2_with fail;go_loopw [3] (fun i wr=>Zfj l w i wr) (fun i _=>l.length-(intOf i).toNat)
 case atStart=>exact ⟨0,0,rfl,zL _,fun i hi=>by omega,rfl⟩
 case round=>
  obtain ⟨k,q,rfl,hk,hup,hwr⟩:=hrel;have hrw:Rd wr B 3 A l.length (ec l):=by rw [hwr];exact hr.drewN q
  have HW:=qI hwr;clear hwr;have f1:IntKind.i64.wrap ((k:Int)+1)=(k:Int)+1:=qJ _ (by omega)
  by_cases h1:k<l.length
  ·have d1:decide ((k:Int)<(l.length:Int))=true:=by simp;omega
   have d1':(k:Int)<(l.length:Int):=by omega
   have hk0:(0:Int)≤(k:Int):=by omega
   have hlen1:l.length≤9223372036854775807:=by omega
   obtain ⟨bb,off,rfl,hbb,hcell⟩:=hrw.at_ (by omega);obtain ⟨p0,p1,p2⟩:=Z2L h1;have q0:=hcell _ _ p0;have q2:wr.cell? ⟨bb,off+k*3+2,none⟩=_:=hcell _ _ p2;have g1:l[k]?=some l[k]:=gE h1;have hns:=qI (hsz.out l[k] (List.getElem_mem h1));obtain ⟨x,hx⟩: ∃x,x=l[k]:=⟨_,rfl⟩;rw [←hx] at q0 q2 g1 hns;have hat:=qI (ZdQ g1);obtain ⟨x0,x1,x2⟩:=x;simp only at q0 q2 hat;clear hx p0 p1 p2 g1
   cases hp:Z13 x0 with
   | false=>
    have HF:Hid (r=false):=by unfold Hid;rw [HR.out,Z2h h1 (by rw [hat.out,hp];rfl)]
    have HP:=qI hp;clear hp hcell;go_wp2_with fail;go_quiet ((go_at_call 248;exact Calls.quiet_of_same (Z2r x0 _ HP hns.out _)));go_wp2_with fail;go_ret;rw [HF.out];exact ⟨rfl,q+nq,by rw [HW.out,World.drewN_drewN]⟩
   | true=>
    have HP:=qI hp
    by_cases hi:x2.size=32
    ·have di:((x2.size:Int)!=32)=false:=by rw [hi];rfl
     have HI:=qI hi;rcases Nat.eq_zero_or_pos k with hz | hz
     ·have HU:Hid (Z2q geS l (k+1)):=Z2z hup.out (by rw [hat.out,hp,hz];simp [hi,Zcm])
      have dz:decide ((0:Int)<(k:Int))=false:=by simp;omega
      have dz': ¬(0:Int)<(k:Int):=by omega
      have dzn:decide (0<k)=false:=by simp;omega
      have dzm:decide ((k:Int)>0)=false:=by simp;omega
      clear hp hi hz hcell;go_wp2_with fail;go_quiet ((go_at_call 248;exact Calls.quiet_of_same (Z2r x0 _ HP hns.out _)));go_wp2_with fail;exact ⟨⟨k+1,q+nq,by go_num,by omega,HU,by rw [HW.out,World.drewN_drewN]⟩,by simp [intOf];omega⟩
     ·obtain ⟨j,rfl⟩: ∃j,k=j+1:=⟨k-1,by omega⟩
      have hj:j<l.length:=by omega
      obtain ⟨t0,_,_⟩:=Z2L hj;have q3:=hcell _ _ t0;have g1:l[j]?=some l[j]:=gE hj;obtain ⟨y,hy⟩: ∃y,y=l[j]:=⟨_,rfl⟩;rw [←hy] at q3 g1;have hord:=qI (Zar (nm:=x0) g1);obtain ⟨y0,y1,y2⟩:=y;simp only at q3 hord;have dz:decide ((0:Int)<((j+1:Nat):Int))=true:=dT (by omega);have dz':(0:Int)<((j+1:Nat):Int):=by omega
      have fj:IntKind.i64.wrap (((j+1:Nat):Int)-1)=(j:Int):=(qJ _ (by omega)).trans (by omega);have fj2:IntKind.i64.wrap ((j:Int)+1-1)=(j:Int):=(qJ _ (by omega)).trans (by omega);have fj3:(j:Int)<(l.length:Int):=by omega
      have fj4:(0:Int)≤(j:Int):=by omega
      cases hge:Op.bytesLess y0.toList x0.toList with
      | false=>
       have HF:Hid (r=false):=by
        unfold Hid;rw [HR.out,Z2h h1 (by rw [hat.out,hord.out];unfold geS;rw [hge];simp)]
       clear hp hi hy g1 t0 hcell;go_wp2_with fail;go_quiet ((go_at_call 248;exact Calls.quiet_of_same (Z2r x0 _ HP hns.out _)));go_wp2_with fail;go_ret;rw [HF.out];exact ⟨rfl,q+nq,by rw [HW.out,World.drewN_drewN]⟩
      | true=>
       have HU:Hid (Z2q geS l (j+1+1)):=Z2z hup.out (by rw [hat.out,hord.out,hp];unfold geS;rw [hge];simp [hi]);clear hp hi hy g1 t0 hcell;go_wp2_with fail;go_quiet ((go_at_call 248;exact Calls.quiet_of_same (Z2r x0 _ HP hns.out _)));go_wp2_with fail;exact ⟨⟨j+1+1,q+nq,by go_num,by omega,HU,by rw [HW.out,World.drewN_drewN]⟩,by simp [intOf];omega⟩
    ·have di:((x2.size:Int)!=32)=true:=bne_iff_ne.2 (by omega)
     have HF:Hid (r=false):=by unfold Hid;rw [HR.out,Z2h h1 (by rw [hat.out,qF hi];simp)]
     clear hp hi hcell;go_wp2_with fail;go_quiet ((go_at_call 248;exact Calls.quiet_of_same (Z2r x0 _ HP hns.out _)));go_wp2_with fail;go_ret;rw [HF.out];exact ⟨rfl,q+nq,by rw [HW.out,World.drewN_drewN]⟩
  ·have d1:decide ((k:Int)<(l.length:Int))=false:=by simp;omega
   have d1': ¬(k:Int)<(l.length:Int):=by omega
   have hkl:k=l.length:=by omega
   have HE:Hid (r=decide (l.length≤4096)):=by unfold Hid;rw [HR.out,Zap (by rw [←hkl];exact hup.out)]
   by_cases h2:l.length≤4096
   ·have d2:decide ((l.length:Int)≤4096)=true:=by simp;omega
    have HT:Hid (r=true):=by unfold Hid;rw [HE.out,dT h2]
    clear hkl h2;go_wp2_with fail;go_ret;rw [HT.out];exact ⟨rfl,q,HW.out⟩
   ·have d2:decide ((l.length:Int)≤4096)=false:=by simp;omega
    have HT:Hid (r=false):=by unfold Hid;rw [HE.out,qF h2]
    clear hkl h2;go_wp2_with fail;go_ret;rw [HT.out];exact ⟨rfl,q,HW.out⟩
def ZbW (l:List BA) (p:BA) (j:Nat):Prop:=∀ i,i<j→ ∀q,l[i]?=some q→ ¬q=p
theorem Zfk {l:List BA} {p:BA} {k:Nat} (h:ZbW l p k):hasS (l.take k) p=false:=by
 unfold hasS;rw [List.any_eq_false];intro q hq;obtain ⟨i,hi,e⟩:=List.getElem_of_mem hq;have hik:i<k:=by rw [List.length_take] at hi;omega
 rw [List.getElem_take] at e;have h1:=h i hik q (by rw [←e];exact gE _);intro h2;exact h1 (Z23 (by simpa using h2))
theorem Zg4 {l:List BA} {p:BA} {k j:Nat} (hj:j<k) (h:l[j]?=some p):hasS (l.take k) p=true:=by
 unfold hasS;rw [List.any_eq_true];refine ⟨p,?_,by simp⟩;rw [List.mem_iff_getElem?];exact ⟨j,by rw [List.getElem?_take,if_pos hj];exact h⟩
def Zfl (l:List BA) (w:World) (i:Value) (wr:World):Prop:=∃ k q:Nat,i= .int .i64 k∧k≤l.length∧Hid (Z3f l k)∧wr=w.drewN q
def Zg5 (l:List BA) (k:Nat) (p:BA) (w:World) (i:Value) (wr:World):Prop:=∃ j q:Nat,i= .int .i64 j∧j≤k∧Hid (ZbW l p j)∧wr=w.drewN q
theorem Z0Q (A:OA) (l:List BA) (c B:Nat) (w:World) (hr:Rd w B 1 A l.length (pc l)) (hl:l.length≤140737488355328):
  Calls Tryz.prog 190 #[.slice A l.length c] w fun e w'=>e= .returned (.bool (Z1d l))∧ ∃n,w'=w.drewN n:=by
 obtain ⟨r,hre⟩: ∃r,r=Z1d l:=⟨_,rfl⟩;rw [←hre];have HR:=qI hre;clear hre;go_in;go_wp2_with fail;go_loopw [3] (fun i wr=>Zfl l w i wr) (fun i _=>l.length-(intOf i).toNat)
 case atStart=>exact ⟨0,0,rfl,zL _,fun i hi=>by omega,rfl⟩
 case round=>
  obtain ⟨k,q,rfl,hk,hup,hwr⟩:=hrel;have hrw:Rd wr B 1 A l.length (pc l):=by rw [hwr];exact hr.drewN q
  have HW:=qI hwr;clear hwr;have f1:IntKind.i64.wrap ((k:Int)+1)=(k:Int)+1:=qJ _ (by omega)
  by_cases h1:k<l.length
  ·have d1:decide ((k:Int)<(l.length:Int))=true:=by simp;omega
   have d1':(k:Int)<(l.length:Int):=by omega
   have hk0:(0:Int)≤(k:Int):=by omega
   have hlen1:l.length≤9223372036854775807:=by omega
   obtain ⟨bb,off,rfl,hbb,hcell⟩:=hrw.at_ (by omega);have q0:=hcell _ _ (Z2K h1);have g1:l[k]?=some l[k]:=gE h1;obtain ⟨p,hp⟩: ∃p,p=l[k]:=⟨_,rfl⟩;rw [←hp] at q0 g1;have hat:Hid (Z3N l k=(decide (p.size=32)&& !hasS (l.take k) p)):=by unfold Hid Z3N;rw [g1]
   clear hp g1
   by_cases hi:p.size=32
   ·have di:((p.size:Int)!=32)=false:=by rw [hi];rfl
    have HI:=qI hi;clear hi;go_wp2_with fail;obtain ⟨wo,hwo⟩: ∃wo,wo=wr:=⟨_,rfl⟩;rw [←hwo] at HW hrw hcell q0 ⊢;clear hwo;go_loopw [4] (fun i wr=>Zg5 l k p wo i wr) (fun i _=>k-(intOf i).toNat)
    case atStart=>exact ⟨0,0,rfl,zL _,fun i hi=>by omega,rfl⟩
    case round=>
     obtain ⟨j,q2,rfl,hj,hno,hwr2⟩:=hrel;have hcell2: ∀(j:Nat) (u:Value),(pc l)[j]?=some u→wr.cell? ⟨bb,off+j,none⟩=some u:=by rw [hwr2];exact hcell
     have q1:wr.cell? ⟨bb,off+k,none⟩=some (.string p):=by rw [hwr2];exact q0
     have HW2:=qI hwr2;clear hwr2;have f2:IntKind.i64.wrap ((j:Int)+1)=(j:Int)+1:=qJ _ (by omega)
     by_cases h2:j<k
     ·have e1:decide ((j:Int)<(k:Int))=true:=dT (by omega)
      have e1':(j:Int)<(k:Int):=by omega
      have hj0:(0:Int)≤(j:Int):=by omega
      have hjl:j<l.length:=by omega
      have e2':(j:Int)<(l.length:Int):=by omega
      have q3:=hcell2 _ _ (Z2K hjl);have g2:l[j]?=some l[j]:=gE hjl;obtain ⟨y,hy⟩: ∃y,y=l[j]:=⟨_,rfl⟩;rw [←hy] at q3 g2;have G2:=qI g2;clear hy g2 hcell2
      by_cases heq:y=p
      ·have b1:(y.toList==p.toList)=true:=Zaw heq
       have HF:Hid (r=false):=by unfold Hid;rw [HR.out,Z4n h1 (by rw [hat.out,Zg4 h2 (by rw [G2.out,heq])];simp)]
       clear heq;go_wp2_with fail;go_quiet (fail);go_wp2_with fail;go_ret;rw [HF.out];exact ⟨rfl,_,by rw [HW2.out,HW.out,World.drewN_drewN,World.drewN_drewN]⟩
      ·have b1:(y.toList==p.toList)=false:=ZdU heq
       have HN:Hid (ZbW l p (j+1)):=fun i hi q hq=>by
        by_cases e:i=j
        ·rw [e,G2.out] at hq
         injection hq with hq
         rw [←hq];exact heq
        ·exact hno.out i (by omega) q hq
       have HQ:=qI heq;clear heq;go_wp2_with fail;go_quiet (fail);go_wp2_with fail;exact ⟨⟨j+1,_,by go_num,h2,HN,by rw [HW2.out,World.drewN_drewN]⟩,by simp [intOf];omega⟩
     ·have e1:decide ((j:Int)<(k:Int))=false:=qF (by omega)
      have e1': ¬(j:Int)<(k:Int):=by omega
      have hjk:j=k:=by omega
      have HU:Hid (Z3f l (k+1)):=fun i hi'=>by
       by_cases e:i=k
       ·rw [e,hat.out,Zfk (by rw [←hjk];exact hno.out),dT HI.out]
        rfl
       ·exact hup.out i (by omega)
      clear hjk hcell2;go_wp2_with fail;exact ⟨⟨k+1,_,by go_num,h1,HU,by rw [HW2.out,HW.out,World.drewN_drewN]⟩,by simp [intOf];omega⟩
   ·have di:((p.size:Int)!=32)=true:=bne_iff_ne.2 (by omega)
    have HF:Hid (r=false):=by unfold Hid;rw [HR.out,Z4n h1 (by rw [hat.out,qF hi];rfl)]
    clear hi;go_wp2_with fail;go_ret;rw [HF.out];exact ⟨rfl,q,HW.out⟩
  ·have d1:decide ((k:Int)<(l.length:Int))=false:=by simp;omega
   have d1': ¬(k:Int)<(l.length:Int):=by omega
   have hkl:k=l.length:=by omega
   have HE:Hid (r=decide (l.length≤4)):=by unfold Hid;rw [HR.out,Zaq (by rw [←hkl];exact hup.out)]
   by_cases h2:l.length≤4
   ·have d2:decide ((l.length:Int)≤4)=true:=by simp;omega
    have HT:Hid (r=true):=by unfold Hid;rw [HE.out,dT h2]
    clear hkl h2;go_wp2_with fail;go_ret;rw [HT.out];exact ⟨rfl,q,HW.out⟩
   ·have d2:decide ((l.length:Int)≤4)=false:=by simp;omega
    have HT:Hid (r=false):=by unfold Hid;rw [HE.out,qF h2]
    clear hkl h2;go_wp2_with fail;go_ret;rw [HT.out];exact ⟨rfl,q,HW.out⟩
theorem Z6H (Ad:OA) (d:LU) (cd:Nat) (Ae:OA) (en:List Ent) (ce:Nat) (tr:BA) (Ap:OA) (pa:List BA) (cp:Nat) (ta na wh:BA) (st:Int) (te:BA) (w:World) (he:Rd w w.heap.size 3 Ae en.length (ec en)) (hp:Rd w w.heap.size 1 Ap pa.length (pc pa)) (hel:en.length≤140737488355328) (hpl:pa.length≤140737488355328) (hns:Hid (∀e∈en,e.name.size≤maxLen)):
  Calls Tryz.prog 119 #[.agg #[.int .i64 1,.slice Ad d.length cd,.slice Ae en.length ce,.string tr,.slice Ap pa.length cp,.string ta,.string na,.string wh,.int .i64 st,.string te]] w fun e w'=>e= .returned (.int .i64 (errC (Zb geS (⟨1,d,en,tr,pa,ta,na,wh,st,te⟩:Go.Dol.Obj))))∧Below w.heap.size w w':=by
 have hb0:Below w.heap.size w (w.alloc (.cells #[.int .i64 1,.slice Ad d.length cd,.slice Ae en.length ce,.string tr,.slice Ap pa.length cp,.string ta,.string na,.string wh,.int .i64 st,.string te] 40)):=(bR _ _).alloc (lR _) _;have hB0:=Blk.new w 40 (Zs 1 (.slice Ad d.length cd) (.slice Ae en.length ce) tr (.slice Ap pa.length cp) ta na wh st te);have he0:=he.alive hb0;have hp0:=hp.alive hb0;obtain ⟨r,hr⟩: ∃r,r=Zb geS (⟨1,d,en,tr,pa,ta,na,wh,st,te⟩:Go.Dol.Obj):=⟨_,rfl⟩;rw [←hr];have HR:Hid (r=(decide (d.length≤1048576)&&(Z0Z (⟨1,d,en,tr,pa,ta,na,wh,st,te⟩:Go.Dol.Obj)&&ZU (⟨1,d,en,tr,pa,ta,na,wh,st,te⟩:Go.Dol.Obj)&&Z1Q (⟨1,d,en,tr,pa,ta,na,wh,st,te⟩:Go.Dol.Obj)&&Z1Y (⟨1,d,en,tr,pa,ta,na,wh,st,te⟩:Go.Dol.Obj)))):=hr;clear hr
 by_cases q0:d.length≤1048576
 case neg=>
  have D0:decide ((d.length:Int)≤1048576)=false:=qF (by omega);have HF:Hid (r=false):=by unfold Hid;rw [HR.out,qF q0];simp
  clear q0;go_in;go_wp2_with fail;go_ret;exact ⟨by rw [HF.out];rfl,hb0⟩
 case pos=>
  have D0:decide ((d.length:Int)≤1048576)=true:=dT (by omega);cases h1:(Z0Z (⟨1,d,en,tr,pa,ta,na,wh,st,te⟩:Go.Dol.Obj)&&ZU (⟨1,d,en,tr,pa,ta,na,wh,st,te⟩:Go.Dol.Obj)&&Z1Q (⟨1,d,en,tr,pa,ta,na,wh,st,te⟩:Go.Dol.Obj)&&Z1Y (⟨1,d,en,tr,pa,ta,na,wh,st,te⟩:Go.Dol.Obj))
  case false=>
   have H1:=qI h1;have HF:Hid (r=false):=by unfold Hid;rw [HR.out,dT q0,h1];try simp
   clear h1 q0;go_in;go_wp2_with fail;refine (Z3U 1 Ad d cd Ae en ce tr Ap pa cp ta na wh st te _).mono ?_;rintro e w1 ⟨rfl,g1⟩;rw [H1.out];have hb1:=hb0.next g1;have hB1:=hB0.below g1 hB0.lt;obtain ⟨a0,a1,a2,a3,a4,a5,a6,a7,a8,a9⟩:=Z2 hB1;go_wp2_with fail;go_ret;exact ⟨by rw [HF.out];rfl,hb1⟩
  case true=>
   have H1:=qI h1;clear h1;have HF:Hid (r=true):=by unfold Hid;rw [HR.out,dT q0,H1.out];try rfl
   clear q0;go_in;go_wp2_with fail;refine (Z3U 1 Ad d cd Ae en ce tr Ap pa cp ta na wh st te _).mono ?_;rintro e w1 ⟨rfl,g1⟩;rw [H1.out];have hb1:=hb0.next g1;have hB1:=hB0.below g1 hB0.lt;obtain ⟨a0,a1,a2,a3,a4,a5,a6,a7,a8,a9⟩:=Z2 hB1;go_wp2_with fail;go_ret;exact ⟨by rw [HF.out];rfl,hb1⟩
theorem Z6I (Ad:OA) (d:LU) (cd:Nat) (Ae:OA) (en:List Ent) (ce:Nat) (tr:BA) (Ap:OA) (pa:List BA) (cp:Nat) (ta na wh:BA) (st:Int) (te:BA) (w:World) (he:Rd w w.heap.size 3 Ae en.length (ec en)) (hp:Rd w w.heap.size 1 Ap pa.length (pc pa)) (hel:en.length≤140737488355328) (hpl:pa.length≤140737488355328) (hns:Hid (∀e∈en,e.name.size≤maxLen)):
  Calls Tryz.prog 119 #[.agg #[.int .i64 2,.slice Ad d.length cd,.slice Ae en.length ce,.string tr,.slice Ap pa.length cp,.string ta,.string na,.string wh,.int .i64 st,.string te]] w fun e w'=>e= .returned (.int .i64 (errC (Zb geS (⟨2,d,en,tr,pa,ta,na,wh,st,te⟩:Go.Dol.Obj))))∧Below w.heap.size w w':=by
 have hb0:Below w.heap.size w (w.alloc (.cells #[.int .i64 2,.slice Ad d.length cd,.slice Ae en.length ce,.string tr,.slice Ap pa.length cp,.string ta,.string na,.string wh,.int .i64 st,.string te] 40)):=(bR _ _).alloc (lR _) _;have hB0:=Blk.new w 40 (Zs 2 (.slice Ad d.length cd) (.slice Ae en.length ce) tr (.slice Ap pa.length cp) ta na wh st te);have he0:=he.alive hb0;have hp0:=hp.alive hb0;obtain ⟨r,hr⟩: ∃r,r=Zb geS (⟨2,d,en,tr,pa,ta,na,wh,st,te⟩:Go.Dol.Obj):=⟨_,rfl⟩;rw [←hr];have HR:Hid (r=(Z14 geS en&&(Z0Y (⟨2,d,en,tr,pa,ta,na,wh,st,te⟩:Go.Dol.Obj)&&ZU (⟨2,d,en,tr,pa,ta,na,wh,st,te⟩:Go.Dol.Obj)&&Z1Q (⟨2,d,en,tr,pa,ta,na,wh,st,te⟩:Go.Dol.Obj)&&Z1Y (⟨2,d,en,tr,pa,ta,na,wh,st,te⟩:Go.Dol.Obj)))):=hr;clear hr;cases h0:Z14 geS en
 case false=>
  have H0:=qI h0;have HF:Hid (r=false):=by unfold Hid;rw [HR.out,h0];try simp
  clear h0;go_in;go_wp2_with fail;refine (Z1F Ae en ce _ _ he0 hel hns).mono ?_;rintro e w1 ⟨rfl,n1,rfl⟩;rw [H0.out];have hb1:=hb0.drewN' n1;have hB1:=hB0.drewN n1;obtain ⟨a0,a1,a2,a3,a4,a5,a6,a7,a8,a9⟩:=Z2 hB1;go_wp2_with fail;go_ret;exact ⟨by rw [HF.out];rfl,hb1⟩
 case true=>
  have H0:=qI h0;clear h0;cases h1:(Z0Y (⟨2,d,en,tr,pa,ta,na,wh,st,te⟩:Go.Dol.Obj)&&ZU (⟨2,d,en,tr,pa,ta,na,wh,st,te⟩:Go.Dol.Obj)&&Z1Q (⟨2,d,en,tr,pa,ta,na,wh,st,te⟩:Go.Dol.Obj)&&Z1Y (⟨2,d,en,tr,pa,ta,na,wh,st,te⟩:Go.Dol.Obj))
  case false=>
   have H1:=qI h1;have HF:Hid (r=false):=by unfold Hid;rw [HR.out,H0.out,h1];try simp
   clear h1;go_in;go_wp2_with fail;refine (Z1F Ae en ce _ _ he0 hel hns).mono ?_;rintro e w1 ⟨rfl,n1,rfl⟩;rw [H0.out];have hb1:=hb0.drewN' n1;have hB1:=hB0.drewN n1;obtain ⟨a0,a1,a2,a3,a4,a5,a6,a7,a8,a9⟩:=Z2 hB1;go_wp2_with fail;clear a0 a1 a2 a3 a4 a5 a6 a7 a8 a9;refine (Z3V 2 Ad d cd Ae en ce tr Ap pa cp ta na wh st te _).mono ?_;rintro e w2 ⟨rfl,g2⟩;rw [H1.out];have hb2:=hb1.next g2;have hB2:=hB1.below g2 hB1.lt;obtain ⟨a0,a1,a2,a3,a4,a5,a6,a7,a8,a9⟩:=Z2 hB2;go_wp2_with fail;go_ret;exact ⟨by rw [HF.out];rfl,hb2⟩
  case true=>
   have H1:=qI h1;clear h1;have HF:Hid (r=true):=by unfold Hid;rw [HR.out,H0.out,H1.out];try rfl
   go_in;go_wp2_with fail;refine (Z1F Ae en ce _ _ he0 hel hns).mono ?_;rintro e w1 ⟨rfl,n1,rfl⟩;rw [H0.out];have hb1:=hb0.drewN' n1;have hB1:=hB0.drewN n1;obtain ⟨a0,a1,a2,a3,a4,a5,a6,a7,a8,a9⟩:=Z2 hB1;go_wp2_with fail;clear a0 a1 a2 a3 a4 a5 a6 a7 a8 a9;refine (Z3V 2 Ad d cd Ae en ce tr Ap pa cp ta na wh st te _).mono ?_;rintro e w2 ⟨rfl,g2⟩;rw [H1.out];have hb2:=hb1.next g2;have hB2:=hB1.below g2 hB1.lt;obtain ⟨a0,a1,a2,a3,a4,a5,a6,a7,a8,a9⟩:=Z2 hB2;go_wp2_with fail;go_ret;exact ⟨by rw [HF.out];rfl,hb2⟩
theorem Z6J (Ad:OA) (d:LU) (cd:Nat) (Ae:OA) (en:List Ent) (ce:Nat) (tr:BA) (Ap:OA) (pa:List BA) (cp:Nat) (ta na wh:BA) (st:Int) (te:BA) (w:World) (he:Rd w w.heap.size 3 Ae en.length (ec en)) (hp:Rd w w.heap.size 1 Ap pa.length (pc pa)) (hel:en.length≤140737488355328) (hpl:pa.length≤140737488355328) (hns:Hid (∀e∈en,e.name.size≤maxLen)):
  Calls Tryz.prog 119 #[.agg #[.int .i64 3,.slice Ad d.length cd,.slice Ae en.length ce,.string tr,.slice Ap pa.length cp,.string ta,.string na,.string wh,.int .i64 st,.string te]] w fun e w'=>e= .returned (.int .i64 (errC (Zb geS (⟨3,d,en,tr,pa,ta,na,wh,st,te⟩:Go.Dol.Obj))))∧Below w.heap.size w w':=by
 have hb0:Below w.heap.size w (w.alloc (.cells #[.int .i64 3,.slice Ad d.length cd,.slice Ae en.length ce,.string tr,.slice Ap pa.length cp,.string ta,.string na,.string wh,.int .i64 st,.string te] 40)):=(bR _ _).alloc (lR _) _;have hB0:=Blk.new w 40 (Zs 3 (.slice Ad d.length cd) (.slice Ae en.length ce) tr (.slice Ap pa.length cp) ta na wh st te);have he0:=he.alive hb0;have hp0:=hp.alive hb0;obtain ⟨r,hr⟩: ∃r,r=Zb geS (⟨3,d,en,tr,pa,ta,na,wh,st,te⟩:Go.Dol.Obj):=⟨_,rfl⟩;rw [←hr];have HR:Hid (r=(decide (tr.size=32)&&Z1d pa&&Zt wh st te&&(Z0Y (⟨3,d,en,tr,pa,ta,na,wh,st,te⟩:Go.Dol.Obj)&&Z0Z (⟨3,d,en,tr,pa,ta,na,wh,st,te⟩:Go.Dol.Obj)&&Z1Q (⟨3,d,en,tr,pa,ta,na,wh,st,te⟩:Go.Dol.Obj)))):=hr;clear hr
 by_cases q0:tr.size=32
 case neg=>
  have D0:((tr.size:Int)==32)=false:=beq_eq_false_iff_ne.2 (by omega);have HF:Hid (r=false):=by unfold Hid;rw [HR.out,qF q0];simp
  clear q0;go_in;go_wp2_with fail;go_ret;exact ⟨by rw [HF.out];rfl,hb0⟩
 case pos=>
  have D0:((tr.size:Int)==32)=true:=beq_iff_eq.2 (by omega);cases h1:Z1d pa
  case false=>
   have H1:=qI h1;have HF:Hid (r=false):=by unfold Hid;rw [HR.out,dT q0,h1];try simp
   clear h1 q0;go_in;go_wp2_with fail;refine (Z0Q Ap pa cp _ _ hp0 hpl).mono ?_;rintro e w1 ⟨rfl,n1,rfl⟩;rw [H1.out];have hb1:=hb0.drewN' n1;have hB1:=hB0.drewN n1;obtain ⟨a0,a1,a2,a3,a4,a5,a6,a7,a8,a9⟩:=Z2 hB1;go_wp2_with fail;go_ret;exact ⟨by rw [HF.out];rfl,hb1⟩
  case true=>
   have H1:=qI h1;clear h1;cases h2:Zt wh st te
   case false=>
    have H2:=qI h2;have HF:Hid (r=false):=by unfold Hid;rw [HR.out,dT q0,H1.out,h2];try simp
    clear h2 q0;go_in;go_wp2_with fail;refine (Z0Q Ap pa cp _ _ hp0 hpl).mono ?_;rintro e w1 ⟨rfl,n1,rfl⟩;rw [H1.out];have hb1:=hb0.drewN' n1;have hB1:=hB0.drewN n1;obtain ⟨a0,a1,a2,a3,a4,a5,a6,a7,a8,a9⟩:=Z2 hB1;go_wp2_with fail;clear a0 a1 a2 a3 a4 a5 a6 a7 a8 a9;refine (Z0A 3 Ad d cd Ae en ce tr Ap pa cp ta na wh st te _).mono ?_;rintro e w2 ⟨rfl,g2⟩;rw [H2.out];have hb2:=hb1.next g2;have hB2:=hB1.below g2 hB1.lt;obtain ⟨a0,a1,a2,a3,a4,a5,a6,a7,a8,a9⟩:=Z2 hB2;go_wp2_with fail;go_ret;exact ⟨by rw [HF.out];rfl,hb2⟩
   case true=>
    have H2:=qI h2;clear h2;cases h3:(Z0Y (⟨3,d,en,tr,pa,ta,na,wh,st,te⟩:Go.Dol.Obj)&&Z0Z (⟨3,d,en,tr,pa,ta,na,wh,st,te⟩:Go.Dol.Obj)&&Z1Q (⟨3,d,en,tr,pa,ta,na,wh,st,te⟩:Go.Dol.Obj))
    case false=>
     have H3:=qI h3;have HF:Hid (r=false):=by unfold Hid;rw [HR.out,dT q0,H1.out,H2.out,h3];try simp
     clear h3 q0;go_in;go_wp2_with fail;refine (Z0Q Ap pa cp _ _ hp0 hpl).mono ?_;rintro e w1 ⟨rfl,n1,rfl⟩;rw [H1.out];have hb1:=hb0.drewN' n1;have hB1:=hB0.drewN n1;obtain ⟨a0,a1,a2,a3,a4,a5,a6,a7,a8,a9⟩:=Z2 hB1;go_wp2_with fail;clear a0 a1 a2 a3 a4 a5 a6 a7 a8 a9;refine (Z0A 3 Ad d cd Ae en ce tr Ap pa cp ta na wh st te _).mono ?_;rintro e w2 ⟨rfl,g2⟩;rw [H2.out];have hb2:=hb1.next g2;have hB2:=hB1.below g2 hB1.lt;obtain ⟨a0,a1,a2,a3,a4,a5,a6,a7,a8,a9⟩:=Z2 hB2;go_wp2_with fail;clear a0 a1 a2 a3 a4 a5 a6 a7 a8 a9;refine (Z3W 3 Ad d cd Ae en ce tr Ap pa cp ta na wh st te _).mono ?_;rintro e w3 ⟨rfl,g3⟩;rw [H3.out];have hb3:=hb2.next g3;have hB3:=hB2.below g3 hB2.lt;obtain ⟨a0,a1,a2,a3,a4,a5,a6,a7,a8,a9⟩:=Z2 hB3;go_wp2_with fail;go_ret;exact ⟨by rw [HF.out];rfl,hb3⟩
    case true=>
     have H3:=qI h3;clear h3;have HF:Hid (r=true):=by unfold Hid;rw [HR.out,dT q0,H1.out,H2.out,H3.out];try rfl
     clear q0;go_in;go_wp2_with fail;refine (Z0Q Ap pa cp _ _ hp0 hpl).mono ?_;rintro e w1 ⟨rfl,n1,rfl⟩;rw [H1.out];have hb1:=hb0.drewN' n1;have hB1:=hB0.drewN n1;obtain ⟨a0,a1,a2,a3,a4,a5,a6,a7,a8,a9⟩:=Z2 hB1;go_wp2_with fail;clear a0 a1 a2 a3 a4 a5 a6 a7 a8 a9;refine (Z0A 3 Ad d cd Ae en ce tr Ap pa cp ta na wh st te _).mono ?_;rintro e w2 ⟨rfl,g2⟩;rw [H2.out];have hb2:=hb1.next g2;have hB2:=hB1.below g2 hB1.lt;obtain ⟨a0,a1,a2,a3,a4,a5,a6,a7,a8,a9⟩:=Z2 hB2;go_wp2_with fail;clear a0 a1 a2 a3 a4 a5 a6 a7 a8 a9;refine (Z3W 3 Ad d cd Ae en ce tr Ap pa cp ta na wh st te _).mono ?_;rintro e w3 ⟨rfl,g3⟩;rw [H3.out];have hb3:=hb2.next g3;have hB3:=hB2.below g3 hB2.lt;obtain ⟨a0,a1,a2,a3,a4,a5,a6,a7,a8,a9⟩:=Z2 hB3;go_wp2_with fail;go_ret;exact ⟨by rw [HF.out];rfl,hb3⟩
theorem Z6K (Ad:OA) (d:LU) (cd:Nat) (Ae:OA) (en:List Ent) (ce:Nat) (tr:BA) (Ap:OA) (pa:List BA) (cp:Nat) (ta na wh:BA) (st:Int) (te:BA) (w:World) (he:Rd w w.heap.size 3 Ae en.length (ec en)) (hp:Rd w w.heap.size 1 Ap pa.length (pc pa)) (hel:en.length≤140737488355328) (hpl:pa.length≤140737488355328) (hns:Hid (∀e∈en,e.name.size≤maxLen)):
  Calls Tryz.prog 119 #[.agg #[.int .i64 4,.slice Ad d.length cd,.slice Ae en.length ce,.string tr,.slice Ap pa.length cp,.string ta,.string na,.string wh,.int .i64 st,.string te]] w fun e w'=>e= .returned (.int .i64 (errC (Zb geS (⟨4,d,en,tr,pa,ta,na,wh,st,te⟩:Go.Dol.Obj))))∧Below w.heap.size w w':=by
 have hb0:Below w.heap.size w (w.alloc (.cells #[.int .i64 4,.slice Ad d.length cd,.slice Ae en.length ce,.string tr,.slice Ap pa.length cp,.string ta,.string na,.string wh,.int .i64 st,.string te] 40)):=(bR _ _).alloc (lR _) _;have hB0:=Blk.new w 40 (Zs 4 (.slice Ad d.length cd) (.slice Ae en.length ce) tr (.slice Ap pa.length cp) ta na wh st te);have he0:=he.alive hb0;have hp0:=hp.alive hb0;obtain ⟨r,hr⟩: ∃r,r=Zb geS (⟨4,d,en,tr,pa,ta,na,wh,st,te⟩:Go.Dol.Obj):=⟨_,rfl⟩;rw [←hr];have HR:Hid (r=(decide (ta.size=32)&&decide (1≤na.size)&&decide (na.size≤200)&&Zt wh st te&&(Z0Y (⟨4,d,en,tr,pa,ta,na,wh,st,te⟩:Go.Dol.Obj)&&Z0Z (⟨4,d,en,tr,pa,ta,na,wh,st,te⟩:Go.Dol.Obj)&&ZU (⟨4,d,en,tr,pa,ta,na,wh,st,te⟩:Go.Dol.Obj)))):=hr;clear hr
 by_cases q0:ta.size=32
 case neg=>
  have D0:((ta.size:Int)==32)=false:=beq_eq_false_iff_ne.2 (by omega);have HF:Hid (r=false):=by unfold Hid;rw [HR.out,qF q0];simp
  clear q0;go_in;go_wp2_with fail;go_ret;exact ⟨by rw [HF.out];rfl,hb0⟩
 case pos=>
  have D0:((ta.size:Int)==32)=true:=beq_iff_eq.2 (by omega)
  by_cases q1:1≤na.size
  case neg=>
   have D1:decide ((na.size:Int)≥1)=false:=qF (by omega);have D1':decide ((1:Int)≤(na.size:Int))=false:=qF (by omega);have HF:Hid (r=false):=by unfold Hid;rw [HR.out,dT q0,qF q1];simp
   clear q0 q1;go_in;go_wp2_with fail;go_ret;exact ⟨by rw [HF.out];rfl,hb0⟩
  case pos=>
   have D1:decide ((na.size:Int)≥1)=true:=dT (by omega);have D1':decide ((1:Int)≤(na.size:Int))=true:=dT (by omega)
   by_cases q2:na.size≤200
   case neg=>
    have D2:decide ((na.size:Int)≤200)=false:=qF (by omega);have HF:Hid (r=false):=by unfold Hid;rw [HR.out,dT q0,dT q1,qF q2];simp
    clear q0 q1 q2;go_in;go_wp2_with fail;go_ret;exact ⟨by rw [HF.out];rfl,hb0⟩
   case pos=>
    have D2:decide ((na.size:Int)≤200)=true:=dT (by omega);cases h3:Zt wh st te
    case false=>
     have H3:=qI h3;have HF:Hid (r=false):=by unfold Hid;rw [HR.out,dT q0,dT q1,dT q2,h3];try simp
     clear h3 q0 q1 q2;go_in;go_wp2_with fail;refine (Z0A 4 Ad d cd Ae en ce tr Ap pa cp ta na wh st te _).mono ?_;rintro e w1 ⟨rfl,g1⟩;rw [H3.out];have hb1:=hb0.next g1;have hB1:=hB0.below g1 hB0.lt;obtain ⟨a0,a1,a2,a3,a4,a5,a6,a7,a8,a9⟩:=Z2 hB1;go_wp2_with fail;go_ret;exact ⟨by rw [HF.out];rfl,hb1⟩
    case true=>
     have H3:=qI h3;clear h3;cases h4:(Z0Y (⟨4,d,en,tr,pa,ta,na,wh,st,te⟩:Go.Dol.Obj)&&Z0Z (⟨4,d,en,tr,pa,ta,na,wh,st,te⟩:Go.Dol.Obj)&&ZU (⟨4,d,en,tr,pa,ta,na,wh,st,te⟩:Go.Dol.Obj))
     case false=>
      have H4:=qI h4;have HF:Hid (r=false):=by unfold Hid;rw [HR.out,dT q0,dT q1,dT q2,H3.out,h4];try simp
      clear h4 q0 q1 q2;go_in;go_wp2_with fail;refine (Z0A 4 Ad d cd Ae en ce tr Ap pa cp ta na wh st te _).mono ?_;rintro e w1 ⟨rfl,g1⟩;rw [H3.out];have hb1:=hb0.next g1;have hB1:=hB0.below g1 hB0.lt;obtain ⟨a0,a1,a2,a3,a4,a5,a6,a7,a8,a9⟩:=Z2 hB1;go_wp2_with fail;clear a0 a1 a2 a3 a4 a5 a6 a7 a8 a9;refine (Z3X 4 Ad d cd Ae en ce tr Ap pa cp ta na wh st te _).mono ?_;rintro e w2 ⟨rfl,g2⟩;rw [H4.out];have hb2:=hb1.next g2;have hB2:=hB1.below g2 hB1.lt;obtain ⟨a0,a1,a2,a3,a4,a5,a6,a7,a8,a9⟩:=Z2 hB2;go_wp2_with fail;go_ret;exact ⟨by rw [HF.out];rfl,hb2⟩
     case true=>
      have H4:=qI h4;clear h4;have HF:Hid (r=true):=by unfold Hid;rw [HR.out,dT q0,dT q1,dT q2,H3.out,H4.out];try rfl
      clear q0 q1 q2;go_in;go_wp2_with fail;refine (Z0A 4 Ad d cd Ae en ce tr Ap pa cp ta na wh st te _).mono ?_;rintro e w1 ⟨rfl,g1⟩;rw [H3.out];have hb1:=hb0.next g1;have hB1:=hB0.below g1 hB0.lt;obtain ⟨a0,a1,a2,a3,a4,a5,a6,a7,a8,a9⟩:=Z2 hB1;go_wp2_with fail;clear a0 a1 a2 a3 a4 a5 a6 a7 a8 a9;refine (Z3X 4 Ad d cd Ae en ce tr Ap pa cp ta na wh st te _).mono ?_;rintro e w2 ⟨rfl,g2⟩;rw [H4.out];have hb2:=hb1.next g2;have hB2:=hB1.below g2 hB1.lt;obtain ⟨a0,a1,a2,a3,a4,a5,a6,a7,a8,a9⟩:=Z2 hB2;go_wp2_with fail;go_ret;exact ⟨by rw [HF.out];rfl,hb2⟩
theorem Z0H (k:Int) (Ad:OA) (d:LU) (cd:Nat) (Ae:OA) (en:List Ent) (ce:Nat) (tr:BA) (Ap:OA) (pa:List BA) (cp:Nat) (ta na wh:BA) (st:Int) (te:BA) (w:World) (he:Rd w w.heap.size 3 Ae en.length (ec en)) (hp:Rd w w.heap.size 1 Ap pa.length (pc pa)) (hel:en.length≤140737488355328) (hpl:pa.length≤140737488355328) (hns:Hid (∀e∈en,e.name.size≤maxLen)):
  Calls Tryz.prog 119 #[.agg #[.int .i64 k,.slice Ad d.length cd,.slice Ae en.length ce,.string tr,.slice Ap pa.length cp,.string ta,.string na,.string wh,.int .i64 st,.string te]] w fun e w'=>e= .returned (.int .i64 (errC (Zb geS (⟨k,d,en,tr,pa,ta,na,wh,st,te⟩:Go.Dol.Obj))))∧Below w.heap.size w w':=by
 by_cases h1:k=1
 ·subst h1;exact Z6H Ad d cd Ae en ce tr Ap pa cp ta na wh st te w he hp hel hpl hns
 by_cases h2:k=2
 ·subst h2;exact Z6I Ad d cd Ae en ce tr Ap pa cp ta na wh st te w he hp hel hpl hns
 by_cases h3:k=3
 ·subst h3;exact Z6J Ad d cd Ae en ce tr Ap pa cp ta na wh st te w he hp hel hpl hns
 by_cases h4:k=4
 ·subst h4;exact Z6K Ad d cd Ae en ce tr Ap pa cp ta na wh st te w he hp hel hpl hns
 have hb0:Below w.heap.size w (w.alloc (.cells #[.int .i64 k,.slice Ad d.length cd,.slice Ae en.length ce,.string tr,.slice Ap pa.length cp,.string ta,.string na,.string wh,.int .i64 st,.string te] 40)):=(bR _ _).alloc (lR _) _;have hF:Hid (Zb geS (⟨k,d,en,tr,pa,ta,na,wh,st,te⟩:Go.Dol.Obj)=false):=by
  unfold Hid Zb;rw [if_neg h1,if_neg h2,if_neg h3,if_neg h4]
 have d1:(k==1)=false:=beq_eq_false_iff_ne.2 h1;have d2:(k==2)=false:=beq_eq_false_iff_ne.2 h2;have d3:(k==3)=false:=beq_eq_false_iff_ne.2 h3;have d4:(k==4)=false:=beq_eq_false_iff_ne.2 h4;clear h1 h2 h3 h4;go_in;go_wp2_with fail;go_ret;exact ⟨by rw [hF.out];rfl,hb0⟩
theorem Z5U (Ad:OA) (d:LU) (cd:Nat) (Ae:OA) (en:List Ent) (ce:Nat) (tr:BA) (Ap:OA) (pa:List BA) (cp:Nat) (ta na wh:BA) (st:Int) (te:BA) (w:World) (hd:Rd w w.heap.size 1 Ad d.length (bc d)) (he:Rd w w.heap.size 3 Ae en.length (ec en)) (hp:Rd w w.heap.size 1 Ap pa.length (pc pa)) (hel:en.length≤140737488355328) (hpl:pa.length≤140737488355328) (hns:Hid (∀e∈en,e.name.size≤maxLen)) (HC:Hid (Zb geS (⟨1,d,en,tr,pa,ta,na,wh,st,te⟩:Go.Dol.Obj)=true)):
  Calls Tryz.prog 51 #[.agg #[.int .i64 1,.slice Ad d.length cd,.slice Ae en.length ce,.string tr,.slice Ap pa.length cp,.string ta,.string na,.string wh,.int .i64 st,.string te]] w (Z2M w (⟨1,d,en,tr,pa,ta,na,wh,st,te⟩:Go.Dol.Obj)):=by
 have hb0:Below w.heap.size w (w.alloc (.cells #[.int .i64 1,.slice Ad d.length cd,.slice Ae en.length ce,.string tr,.slice Ap pa.length cp,.string ta,.string na,.string wh,.int .i64 st,.string te] 40)):=(bR _ _).alloc (lR _) _;have hB0:=Blk.new w 40 (Zs 1 (.slice Ad d.length cd) (.slice Ae en.length ce) tr (.slice Ap pa.length cp) ta na wh st te);have hd0:=hd.alive hb0;have he0:=he.alive hb0;have hp0:=hp.alive hb0;have hEC:Hid (errC (Zb geS (⟨1,d,en,tr,pa,ta,na,wh,st,te⟩:Go.Dol.Obj))=0):=qI (by rw [HC.out];rfl);go_in;go_wp2_with fail;refine (Z0H 1 Ad d cd Ae en ce tr Ap pa cp ta na wh st te _ he0 hp0 hel hpl hns).mono ?_;rintro e w1 ⟨rfl,hb1⟩;rw [hEC.out];have hB1:=hB0.below hb1 hB0.lt;have hbw:=hb0.next hb1;have hd1:=hd0.alive hb1;have he1:=he0.alive hb1;have hp1:=hp0.alive hb1;have hwr:IntKind.u8.wrap 1=1:=by rfl
 have hs1:w.heap.size<w1.heap.size:=hB1.lt;have hn1:w.heap.size≠w1.heap.size:=by omega
 have hn2: ¬w1.heap.size=w.heap.size:=by omega
 have ho1:(w1.alloc (.cells #[.int .u8 1] 5)).ownsRow w.heap.size 5 1 (.slice (some ⟨w1.heap.size,0,none⟩) 1 1) 1 (bc [1]):=World.ownsRow_lit w1 #[.int .u8 1] 1 hbw.size (by decide) rfl;have hbo:Below w1.heap.size w1 (w1.alloc (.cells #[.int .u8 1] 5)):=(bR _ _).alloc (lR _) _;have hb2:=hbw.next hbo;have hB2:=hB1.alloc (.cells #[.int .u8 1] 5);have hd2:=hd1.alive hbo;have he2:=he1.alive hbo;have hp2:=hp1.alive hbo;obtain ⟨c0,c1,c2,c3,c4,c5,c6,c7,c8,c9⟩:=Z2 hB1;have hdl:d.length≤1048576:=Z25 rfl HC.out;go_wp2_with (at_builtin;refine app8 rfl (.tmp 37) (.tmp 39) rfl w.heap.size _ 1 [1] rfl ho1 _ Ad d.length cd d rfl hd2 (by omega) hb2.size ?_);intro l A c w3 h0 h1 h2 h3 h4 h5 h6;go_wp2_with fail;go_ret2;exact ⟨hb2.trans h2,.inl ⟨HC.out,l,A,c,by unfold Hid;rw [h0.out];rfl,rfl,h1⟩⟩
def Zgx (g:Nat) (T:LU) (ps:List BA) (cs:List Value) (w:World) (b i:Value) (wr:World):Prop:=
 ∃(k:Nat) (l:LU) (A:OA) (c:Nat),i= .int .i64 k∧b= .slice A l.length c∧k≤ps.length∧Hid (l=T++Z0b (ps.take k))∧wr.ownsRow w.heap.size 5 1 (.slice A l.length c) l.length (bc l)∧l.length≤c∧c≤maxLen∧Blk wr g 40 cs∧Below w.heap.size w wr
def Zgy (g:Nat) (T:LU) (es:List Ent) (cs:List Value) (w:World) (b i:Value) (wr:World):Prop:=
 ∃(k:Nat) (l:LU) (A:OA) (c:Nat),i= .int .i64 k∧b= .slice A l.length c∧k≤es.length∧Hid (l=T++(es.take k).flatMap entB)∧wr.ownsRow w.heap.size 5 1 (.slice A l.length c) l.length (bc l)∧l.length≤c∧c≤maxLen∧Blk wr g 40 cs∧Below w.heap.size w wr
theorem Z5V (Ad:OA) (d:LU) (cd:Nat) (Ae:OA) (en:List Ent) (ce:Nat) (tr:BA) (Ap:OA) (pa:List BA) (cp:Nat) (ta na wh:BA) (st:Int) (te:BA) (w:World) (hd:Rd w w.heap.size 1 Ad d.length (bc d)) (he:Rd w w.heap.size 3 Ae en.length (ec en)) (hp:Rd w w.heap.size 1 Ap pa.length (pc pa)) (hel:en.length≤140737488355328) (hpl:pa.length≤140737488355328) (hns:Hid (∀e∈en,e.name.size≤maxLen)) (HC:Hid (Zb geS (⟨3,d,en,tr,pa,ta,na,wh,st,te⟩:Go.Dol.Obj)=true)):
  Calls Tryz.prog 51 #[.agg #[.int .i64 3,.slice Ad d.length cd,.slice Ae en.length ce,.string tr,.slice Ap pa.length cp,.string ta,.string na,.string wh,.int .i64 st,.string te]] w (Z2M w (⟨3,d,en,tr,pa,ta,na,wh,st,te⟩:Go.Dol.Obj)):=by
 have hb0:Below w.heap.size w (w.alloc (.cells #[.int .i64 3,.slice Ad d.length cd,.slice Ae en.length ce,.string tr,.slice Ap pa.length cp,.string ta,.string na,.string wh,.int .i64 st,.string te] 40)):=(bR _ _).alloc (lR _) _;have hB0:=Blk.new w 40 (Zs 3 (.slice Ad d.length cd) (.slice Ae en.length ce) tr (.slice Ap pa.length cp) ta na wh st te);have hd0:=hd.alive hb0;have he0:=he.alive hb0;have hp0:=hp.alive hb0;have hEC:Hid (errC (Zb geS (⟨3,d,en,tr,pa,ta,na,wh,st,te⟩:Go.Dol.Obj))=0):=qI (by rw [HC.out];rfl);go_in;go_wp2_with fail;refine (Z0H 3 Ad d cd Ae en ce tr Ap pa cp ta na wh st te _ he0 hp0 hel hpl hns).mono ?_;rintro e w1 ⟨rfl,hb1⟩;rw [hEC.out];have hB1:=hB0.below hb1 hB0.lt;have hbw:=hb0.next hb1;have hd1:=hd0.alive hb1;have he1:=he0.alive hb1;have hp1:=hp0.alive hb1;have hwr:IntKind.u8.wrap 3=3:=by rfl
 have hs1:w.heap.size<w1.heap.size:=hB1.lt;have hn1:w.heap.size≠w1.heap.size:=by omega
 have hn2: ¬w1.heap.size=w.heap.size:=by omega
 have ho1:(w1.alloc (.cells #[.int .u8 3] 5)).ownsRow w.heap.size 5 1 (.slice (some ⟨w1.heap.size,0,none⟩) 1 1) 1 (bc [3]):=World.ownsRow_lit w1 #[.int .u8 3] 1 hbw.size (by decide) rfl;have hbo:Below w1.heap.size w1 (w1.alloc (.cells #[.int .u8 3] 5)):=(bR _ _).alloc (lR _) _;have hb2:=hbw.next hbo;have hB2:=hB1.alloc (.cells #[.int .u8 3] 5);have hd2:=hd1.alive hbo;have he2:=he1.alive hbo;have hp2:=hp1.alive hbo;obtain ⟨c0,c1,c2,c3,c4,c5,c6,c7,c8,c9⟩:=Z2 hB1;obtain ⟨hts,hpb,htb⟩:=Z26 rfl HC.out;obtain ⟨hw1,hw2,_,_⟩:=Z1D htb;simp only at hts hpb htb hw1 hw2;have hpl4:=(Z1e hpb).2;have hpn:=Z3j hpb;have hcl:Hid (Zk (pa.length:Int)=pa.length):=by unfold Hid Zk;omega
 clear htb hpb;go_wp2_with (at_builtin;refine Z4S rfl (.tmp 83) (.tmp 85) rfl w.heap.size _ 1 [3] rfl ho1 tr rfl (by omega) hb2.size ?_);intro l1 A1 cc1 w3 e1 ho3 hb3 hg3 i1 i2;have hl1:l1.length≤33:=by rw [e1.out];simp only [List.length_cons,Zg];omega
 have hB3:=hB2.grown hg3 (fun e=>own_ne ho1 hB2 (by decide) e.symm);have hbw3:=hb2.trans hb3;obtain ⟨d0,d1,d2,d3,d4,d5,d6,d7,d8,d9⟩:=Z2 hB3;clear c0 c1 c2 c3 c4 c5 c6 c7 c8 c9;go_wp2_with fail;refine (Zr A1 l1 cc1 _ w3 (Rd.of_own ho3) (by omega)).mono ?_;rintro e w4 ⟨l2,A2,cc2,e2,rfl,ho4,hb4,i3,i4⟩;have hB4:=hB3.below hb4 hB3.lt;have hbw4:=hbw3.next hb4;have ho4':=ho4.base hbw3.size;obtain ⟨T,hTe⟩: ∃T,T=[3]++tr.data.toList++num pa.length:=⟨_,rfl⟩;have hT:Hid (l2=T++Z0b (pa.take 0)):=by
  unfold Hid;rw [e2.out,e1.out,hcl.out,hTe];simp [Z0b]
 have hTl:T.length≤42:=by
  rw [hTe];simp only [List.length_append,Zg,List.length_singleton];have:=Za 8 pa.length (by omega);omega
 have HTE:=qI hTe;clear d0 d1 d2 d3 d4 d5 d6 d7 d8 d9 hTe e1 e2;go_wp2_with fail;go_loopw [4,7] (fun b i wr=>Zgx w.heap.size T pa (Zs 3 (.slice Ad d.length cd) (.slice Ae en.length ce) tr (.slice Ap pa.length cp) ta na wh st te) w b i wr) (fun _ i _=>pa.length-(intOf i).toNat)
 case atStart=>exact ⟨0,l2,A2,cc2,rfl,rfl,zL _,hT,ho4',i3,i4,hB4,hbw4⟩
 case round=>
  clear hT ho4' hB4 hbw4 i3 i4 hB3 hbw3 ho3 ho4 hb3 hb4 hg3;obtain ⟨k',l3,A3,c3,rfl,rfl,hk,hT,hown,i3,i4,hB,hbel⟩:=hrel;obtain ⟨k0,k1,k2,k3,k4,k5,k6,k7,k8,k9⟩:=Z2 hB;have hs:=hbel.size;have hl3:l3.length≤T.length+(Z0b pa).length:=by rw [hT.out,List.length_append];have:=Z5p pa k';omega
  have f1:IntKind.i64.wrap ((k':Int)+1)=(k':Int)+1:=qJ _ (by omega)
  by_cases h1:k'<pa.length
  ·have d1:decide ((k':Int)<(pa.length:Int))=true:=dT (by omega)
   have d1':(k':Int)<(pa.length:Int):=by omega
   have hk0:(0:Int)≤(k':Int):=by omega
   have hlen1:pa.length≤9223372036854775807:=by omega
   have hrw:=hp.below hbel;obtain ⟨bb,off,rfl,hbb,hcell⟩:=hrw.at_ (by omega);have q0:=hcell _ _ (Z2K h1);obtain ⟨p,hp'⟩: ∃p,p=pa[k']:=⟨_,rfl⟩;rw [←hp'] at q0;have hsucc:Hid (Z0b (pa.take (k'+1))=Z0b (pa.take k')++p.data.toList):=by unfold Hid;rw [Z7q h1,hp']
   have hfit:l3.length+p.size≤140737488355328:=by
    have h5:=Z5p pa (k'+1);rw [hsucc.out,List.length_append,Zg] at h5;have h6:=congrArg List.length hT.out;rw [List.length_append] at h6;omega
   have hne:some w.heap.size≠(Value.slice A3 l3.length c3).ownBlock:=fun e=>own_ne hown hB (by decide) e.symm;clear hp' hcell;go_wp2_with (at_builtin;refine Z4S rfl (.tmp 99) (.tmp 104) rfl w.heap.size _ l3.length l3 rfl hown p rfl hfit hs ?_);intro l4 A4 c4 w4 e4 ho4 hb4 hg4 i5 i6;go_wp2_with fail;refine ⟨⟨k'+1,l4,A4,c4,by go_num,rfl,h1,?_,ho4,i5,i6,hB.grown hg4 hne,hbel.trans hb4⟩,by simp [intOf];omega⟩;unfold Hid;rw [e4.out,hT.out,hsucc.out,List.append_assoc]
  ·have d1:decide ((k':Int)<(pa.length:Int))=false:=qF (by omega)
   have d1': ¬(k':Int)<(pa.length:Int):=by omega
   have hkl:k'=pa.length:=by omega
   have hT2:Hid (l3=T++Z0b pa):=by unfold Hid;rw [hT.out,hkl,List.take_length]
   clear hkl;go_wp2_with fail;refine (Z04 A3 l3 c3 wh wr (Rd.of_own hown) (by omega)).mono ?_;rintro e w5 ⟨l5,A5,c5,e5,rfl,ho5,hb5,i5,i6⟩;have hB5:=hB.below hb5 hB.lt;have hr5:=Rd.of_own ho5;have hl5:l5.length≤l3.length+(9+1000):=by rw [e5.out,List.length_append];have:=ZQ (s:=wh) (by omega);unfold tx at this;omega
   have hbel5:=hbel.next hb5;clear k0 k1 k2 k3 k4 k5 k6 k7 k8 k9;go_wp2_with fail;have zx:w5.cell? ⟨w.heap.size,8,none⟩=some (.int .i64 st)∧w5.cell? ⟨w.heap.size,9,none⟩=some (.string te):=⟨by rw [hB5.cell];rfl,by rw [hB5.cell];rfl⟩;refine wp_region_held_drew (S:=fun w'=>w'.cell? ⟨w.heap.size,8,none⟩=some (.int .i64 st)∧w'.cell? ⟨w.heap.size,9,none⟩=some (.string te)) (by kernel_rfl) zx (fun hHeld=> ?_);refine tk 0 (.slice A5 l5.length c5) rfl (fun _ _ _ h=>h) (Or.inl ⟨by rfl,fun w' hS=> ?_⟩) hHeld ?_
   ·obtain ⟨s0,s1⟩:=hS
    go_simp
   try simp only [Act.put,sA,sB,sC,sD,sF]
   refine tk 1 (.pointer (some ⟨w.heap.size,8,none⟩)) rfl (fun _ _ _ h=>h) (Or.inl ⟨by rfl,fun w' hS=> ?_⟩) hHeld ?_
   ·obtain ⟨s0,s1⟩:=hS
    go_simp
   try simp only [Act.put,sA,sB,sC,sD,sE,sF]
   refine tk 2 (.int .i64 st) rfl (fun _ _ _ h=>h) (Or.inl ⟨by rfl,fun w' hS=> ?_⟩) hHeld ?_
   ·obtain ⟨s0,s1⟩:=hS
    go_simp
   try simp only [Act.put,sA,sB,sC,sD,sE,sF]
   refine tk 4 (.pointer (some ⟨w.heap.size,9,none⟩)) rfl (fun _ _ _ h=>h) (Or.inl ⟨by rfl,fun w' hS=> ?_⟩) hHeld ?_
   ·obtain ⟨s0,s1⟩:=hS
    go_simp
   try simp only [Act.put,sA,sB,sC,sD,sE,sF]
   refine tk 5 (.string te) rfl (fun _ _ _ h=>h) (Or.inl ⟨by rfl,fun w' hS=> ?_⟩) hHeld ?_
   ·obtain ⟨s0,s1⟩:=hS
    go_simp
   try simp only [Act.put,sA,sB,sC,sD,sE,sF]
   refine wpAnyH_ready (rs:=[3]) (by kernel_rfl) (by simp) (AllReadyH.cons (o:=_) rfl (fun K hK=> ?_) AllReadyH.nil);go_simp;refine (Zr A5 l5 c5 st w5.drew hr5.drew (by omega)).mono ?_;rintro e wax ⟨lax,Aax,cax,eax,rfl,oax,bax,_,_⟩;have Bax:=hB5.drew.below bax hB5.lt;have rax:=Rd.of_own oax;have nax:lax.length≤l5.length+9:=by rw [eax.out,List.length_append];have:=Za 8 (Zk st) (by have:=Z0v st;unfold Ze at this;omega);omega
   have zax:wax.cell? ⟨w.heap.size,8,none⟩=some (.int .i64 st)∧wax.cell? ⟨w.heap.size,9,none⟩=some (.string te):=⟨by rw [Bax.cell];rfl,by rw [Bax.cell];rfl⟩;refine hK.out _ _ zax (fun hHeld=> ?_);clear hK K
   try simp only [Act.put,sA,sB,sC,sD,sE,sF]
   refine wpAnyH_ready (rs:=[6]) (by kernel_rfl) (by simp) (AllReadyH.cons (o:=_) rfl (fun K hK=> ?_) AllReadyH.nil);go_simp;refine (Z04 Aax lax cax te wax rax (by omega)).mono ?_;rintro e wbx ⟨lbx,Abx,cbx,ebx,rfl,obx,bbx,jbx,kbx⟩;have Bbx:=Bax.below bbx Bax.lt;have nbx:lbx.length≤lax.length+(9+1000):=by rw [ebx.out,List.length_append];have:=ZQ (s:=te) (by omega);unfold tx at this;omega
   have zbx:wbx.cell? ⟨w.heap.size,8,none⟩=some (.int .i64 st)∧wbx.cell? ⟨w.heap.size,9,none⟩=some (.string te):=⟨by rw [Bbx.cell];rfl,by rw [Bbx.cell];rfl⟩;refine hK.out _ _ zbx (fun hHeld=> ?_);clear hK K
   try simp only [Act.put,sA,sB,sC,sD,sE,sF]
   refine tk 7 (.slice Abx lbx.length cbx) rfl (fun _ _ _ h=>h) (Or.inl ⟨by rfl,fun w' hS=> ?_⟩) hHeld ?_
   ·obtain ⟨s0,s1⟩:=hS
    go_simp
   try simp only [Act.put,sA,sB,sC,sD,sE,sF]
   refine wpAnyH_done (by kernel_rfl) ?_ _;have btx:Below w5.heap.size w5 wbx:=((bR _ _).drew).trans (Below.trans bax (bbx.mono bax.size));go_wp2_with fail;go_ret2;refine ⟨hbel5.next btx,.inl ⟨HC.out,lbx,Abx,cbx,?_,rfl,obx.base (lT hbel5.size bax.size)⟩⟩;unfold Hid;rw [ebx.out,eax.out,e5.out,hT2.out,HTE.out];show _=[3]++(tr.data.toList++(Z5i pa++(tx wh++(num (Zk st)++tx te))))
   unfold Z5i Z0b tx;simp only [List.append_assoc]
theorem Z5W (Ad:OA) (d:LU) (cd:Nat) (Ae:OA) (en:List Ent) (ce:Nat) (tr:BA) (Ap:OA) (pa:List BA) (cp:Nat) (ta na wh:BA) (st:Int) (te:BA) (w:World) (hd:Rd w w.heap.size 1 Ad d.length (bc d)) (he:Rd w w.heap.size 3 Ae en.length (ec en)) (hp:Rd w w.heap.size 1 Ap pa.length (pc pa)) (hel:en.length≤140737488355328) (hpl:pa.length≤140737488355328) (hns:Hid (∀e∈en,e.name.size≤maxLen)) (HC:Hid (Zb geS (⟨4,d,en,tr,pa,ta,na,wh,st,te⟩:Go.Dol.Obj)=true)):
  Calls Tryz.prog 51 #[.agg #[.int .i64 4,.slice Ad d.length cd,.slice Ae en.length ce,.string tr,.slice Ap pa.length cp,.string ta,.string na,.string wh,.int .i64 st,.string te]] w (Z2M w (⟨4,d,en,tr,pa,ta,na,wh,st,te⟩:Go.Dol.Obj)):=by
 have hb0:Below w.heap.size w (w.alloc (.cells #[.int .i64 4,.slice Ad d.length cd,.slice Ae en.length ce,.string tr,.slice Ap pa.length cp,.string ta,.string na,.string wh,.int .i64 st,.string te] 40)):=(bR _ _).alloc (lR _) _;have hB0:=Blk.new w 40 (Zs 4 (.slice Ad d.length cd) (.slice Ae en.length ce) tr (.slice Ap pa.length cp) ta na wh st te);have hd0:=hd.alive hb0;have he0:=he.alive hb0;have hp0:=hp.alive hb0;have hEC:Hid (errC (Zb geS (⟨4,d,en,tr,pa,ta,na,wh,st,te⟩:Go.Dol.Obj))=0):=qI (by rw [HC.out];rfl);go_in;go_wp2_with fail;refine (Z0H 4 Ad d cd Ae en ce tr Ap pa cp ta na wh st te _ he0 hp0 hel hpl hns).mono ?_;rintro e w1 ⟨rfl,hb1⟩;rw [hEC.out];have hB1:=hB0.below hb1 hB0.lt;have hbw:=hb0.next hb1;have hd1:=hd0.alive hb1;have he1:=he0.alive hb1;have hp1:=hp0.alive hb1;have hwr:IntKind.u8.wrap 4=4:=by rfl
 have hs1:w.heap.size<w1.heap.size:=hB1.lt;have hn1:w.heap.size≠w1.heap.size:=by omega
 have hn2: ¬w1.heap.size=w.heap.size:=by omega
 have ho1:(w1.alloc (.cells #[.int .u8 4] 5)).ownsRow w.heap.size 5 1 (.slice (some ⟨w1.heap.size,0,none⟩) 1 1) 1 (bc [4]):=World.ownsRow_lit w1 #[.int .u8 4] 1 hbw.size (by decide) rfl;have hbo:Below w1.heap.size w1 (w1.alloc (.cells #[.int .u8 4] 5)):=(bR _ _).alloc (lR _) _;have hb2:=hbw.next hbo;have hB2:=hB1.alloc (.cells #[.int .u8 4] 5);have hd2:=hd1.alive hbo;have he2:=he1.alive hbo;have hp2:=hp1.alive hbo;obtain ⟨c0,c1,c2,c3,c4,c5,c6,c7,c8,c9⟩:=Z2 hB1;obtain ⟨hts,hnz,htb⟩:=Z27 rfl HC.out;obtain ⟨hw1,hw2,_,_⟩:=Z1D htb;simp only at hts hnz htb hw1 hw2;clear htb;go_wp2_with (at_builtin;refine Z4S rfl (.tmp 17) (.tmp 19) rfl w.heap.size _ 1 [4] rfl ho1 ta rfl (by omega) hb2.size ?_);intro l1 A1 cc1 w3 e1 ho3 hb3 hg3 i1 i2;have hl1:l1.length≤33:=by rw [e1.out];simp only [List.length_cons,Zg];omega
 have hB3:=hB2.grown hg3 (fun e=>own_ne ho1 hB2 (by decide) e.symm);have hbw3:=hb2.trans hb3;have hr3:=Rd.of_own ho3;clear c0 c1 c2 c3 c4 c5 c6 c7 c8 c9;go_wp2_with fail;have zx:w3.cell? ⟨w.heap.size,6,none⟩=some (.string na)∧w3.cell? ⟨w.heap.size,7,none⟩=some (.string wh):=⟨by rw [hB3.cell];rfl,by rw [hB3.cell];rfl⟩;refine wp_region_held_drew (S:=fun w'=>w'.cell? ⟨w.heap.size,6,none⟩=some (.string na)∧w'.cell? ⟨w.heap.size,7,none⟩=some (.string wh)) (by kernel_rfl) zx (fun hHeld=> ?_);refine tk 0 (.slice A1 l1.length cc1) rfl (fun _ _ _ h=>h) (Or.inl ⟨by rfl,fun w' hS=> ?_⟩) hHeld ?_
 ·obtain ⟨s0,s1⟩:=hS
  go_simp
 try simp only [Act.put,sA,sB,sC,sD,sF]
 refine tk 1 (.pointer (some ⟨w.heap.size,6,none⟩)) rfl (fun _ _ _ h=>h) (Or.inl ⟨by rfl,fun w' hS=> ?_⟩) hHeld ?_
 ·obtain ⟨s0,s1⟩:=hS
  go_simp
 try simp only [Act.put,sA,sB,sC,sD,sE,sF]
 refine tk 2 (.string na) rfl (fun _ _ _ h=>h) (Or.inl ⟨by rfl,fun w' hS=> ?_⟩) hHeld ?_
 ·obtain ⟨s0,s1⟩:=hS
  go_simp
 try simp only [Act.put,sA,sB,sC,sD,sE,sF]
 refine tk 4 (.pointer (some ⟨w.heap.size,7,none⟩)) rfl (fun _ _ _ h=>h) (Or.inl ⟨by rfl,fun w' hS=> ?_⟩) hHeld ?_
 ·obtain ⟨s0,s1⟩:=hS
  go_simp
 try simp only [Act.put,sA,sB,sC,sD,sE,sF]
 refine tk 5 (.string wh) rfl (fun _ _ _ h=>h) (Or.inl ⟨by rfl,fun w' hS=> ?_⟩) hHeld ?_
 ·obtain ⟨s0,s1⟩:=hS
  go_simp
 try simp only [Act.put,sA,sB,sC,sD,sE,sF]
 refine wpAnyH_ready (rs:=[3]) (by kernel_rfl) (by simp) (AllReadyH.cons (o:=_) rfl (fun K hK=> ?_) AllReadyH.nil);go_simp;refine (Z04 A1 l1 cc1 na w3.drew hr3.drew (by omega)).mono ?_;rintro e wax ⟨lax,Aax,cax,eax,rfl,oax,bax,_,_⟩;have Bax:=hB3.drew.below bax hB3.lt;have rax:=Rd.of_own oax;have nax:lax.length≤l1.length+(9+200):=by rw [eax.out,List.length_append];have:=ZQ (s:=na) (by omega);unfold tx at this;omega
 have zax:wax.cell? ⟨w.heap.size,6,none⟩=some (.string na)∧wax.cell? ⟨w.heap.size,7,none⟩=some (.string wh):=⟨by rw [Bax.cell];rfl,by rw [Bax.cell];rfl⟩;refine hK.out _ _ zax (fun hHeld=> ?_);clear hK K
 try simp only [Act.put,sA,sB,sC,sD,sE,sF]
 refine wpAnyH_ready (rs:=[6]) (by kernel_rfl) (by simp) (AllReadyH.cons (o:=_) rfl (fun K hK=> ?_) AllReadyH.nil);go_simp;refine (Z04 Aax lax cax wh wax rax (by omega)).mono ?_;rintro e wbx ⟨lbx,Abx,cbx,ebx,rfl,obx,bbx,jbx,kbx⟩;have Bbx:=Bax.below bbx Bax.lt;have nbx:lbx.length≤lax.length+(9+1000):=by rw [ebx.out,List.length_append];have:=ZQ (s:=wh) (by omega);unfold tx at this;omega
 have zbx:wbx.cell? ⟨w.heap.size,6,none⟩=some (.string na)∧wbx.cell? ⟨w.heap.size,7,none⟩=some (.string wh):=⟨by rw [Bbx.cell];rfl,by rw [Bbx.cell];rfl⟩;refine hK.out _ _ zbx (fun hHeld=> ?_);clear hK K
 try simp only [Act.put,sA,sB,sC,sD,sE,sF]
 refine tk 7 (.slice Abx lbx.length cbx) rfl (fun _ _ _ h=>h) (Or.inl ⟨by rfl,fun w' hS=> ?_⟩) hHeld ?_
 ·obtain ⟨s0,s1⟩:=hS
  go_simp
 try simp only [Act.put,sA,sB,sC,sD,sE,sF]
 refine wpAnyH_done (by kernel_rfl) ?_ _;have btx:Below w3.heap.size w3 wbx:=((bR _ _).drew).trans (Below.trans bax (bbx.mono bax.size));have hrx:=Rd.of_own obx;go_wp2_with fail;have zy:wbx.cell? ⟨w.heap.size,8,none⟩=some (.int .i64 st)∧wbx.cell? ⟨w.heap.size,9,none⟩=some (.string te):=⟨by rw [Bbx.cell];rfl,by rw [Bbx.cell];rfl⟩;refine wp_region_held_drew (S:=fun w'=>w'.cell? ⟨w.heap.size,8,none⟩=some (.int .i64 st)∧w'.cell? ⟨w.heap.size,9,none⟩=some (.string te)) (by kernel_rfl) zy (fun hHeld=> ?_);refine tk 0 (.slice Abx lbx.length cbx) rfl (fun _ _ _ h=>h) (Or.inl ⟨by rfl,fun w' hS=> ?_⟩) hHeld ?_
 ·obtain ⟨s0,s1⟩:=hS
  go_simp
 try simp only [Act.put,sA,sB,sC,sD,sF]
 refine tk 1 (.pointer (some ⟨w.heap.size,8,none⟩)) rfl (fun _ _ _ h=>h) (Or.inl ⟨by rfl,fun w' hS=> ?_⟩) hHeld ?_
 ·obtain ⟨s0,s1⟩:=hS
  go_simp
 try simp only [Act.put,sA,sB,sC,sD,sE,sF]
 refine tk 2 (.int .i64 st) rfl (fun _ _ _ h=>h) (Or.inl ⟨by rfl,fun w' hS=> ?_⟩) hHeld ?_
 ·obtain ⟨s0,s1⟩:=hS
  go_simp
 try simp only [Act.put,sA,sB,sC,sD,sE,sF]
 refine tk 4 (.pointer (some ⟨w.heap.size,9,none⟩)) rfl (fun _ _ _ h=>h) (Or.inl ⟨by rfl,fun w' hS=> ?_⟩) hHeld ?_
 ·obtain ⟨s0,s1⟩:=hS
  go_simp
 try simp only [Act.put,sA,sB,sC,sD,sE,sF]
 refine tk 5 (.string te) rfl (fun _ _ _ h=>h) (Or.inl ⟨by rfl,fun w' hS=> ?_⟩) hHeld ?_
 ·obtain ⟨s0,s1⟩:=hS
  go_simp
 try simp only [Act.put,sA,sB,sC,sD,sE,sF]
 refine wpAnyH_ready (rs:=[3]) (by kernel_rfl) (by simp) (AllReadyH.cons (o:=_) rfl (fun K hK=> ?_) AllReadyH.nil);go_simp;refine (Zr Abx lbx cbx st wbx.drew hrx.drew (by omega)).mono ?_;rintro e way ⟨lay,Aay,cay,eay,rfl,oay,bay,_,_⟩;have Bay:=Bbx.drew.below bay Bbx.lt;have ray:=Rd.of_own oay;have nay:lay.length≤lbx.length+9:=by rw [eay.out,List.length_append];have:=Za 8 (Zk st) (by have:=Z0v st;unfold Ze at this;omega);omega
 have zay:way.cell? ⟨w.heap.size,8,none⟩=some (.int .i64 st)∧way.cell? ⟨w.heap.size,9,none⟩=some (.string te):=⟨by rw [Bay.cell];rfl,by rw [Bay.cell];rfl⟩;refine hK.out _ _ zay (fun hHeld=> ?_);clear hK K
 try simp only [Act.put,sA,sB,sC,sD,sE,sF]
 refine wpAnyH_ready (rs:=[6]) (by kernel_rfl) (by simp) (AllReadyH.cons (o:=_) rfl (fun K hK=> ?_) AllReadyH.nil);go_simp;refine (Z04 Aay lay cay te way ray (by omega)).mono ?_;rintro e wby ⟨lby,Aby,cby,eby,rfl,oby,bby,jby,kby⟩;have Bby:=Bay.below bby Bay.lt;have nby:lby.length≤lay.length+(9+1000):=by rw [eby.out,List.length_append];have:=ZQ (s:=te) (by omega);unfold tx at this;omega
 have zby:wby.cell? ⟨w.heap.size,8,none⟩=some (.int .i64 st)∧wby.cell? ⟨w.heap.size,9,none⟩=some (.string te):=⟨by rw [Bby.cell];rfl,by rw [Bby.cell];rfl⟩;refine hK.out _ _ zby (fun hHeld=> ?_);clear hK K
 try simp only [Act.put,sA,sB,sC,sD,sE,sF]
 refine tk 7 (.slice Aby lby.length cby) rfl (fun _ _ _ h=>h) (Or.inl ⟨by rfl,fun w' hS=> ?_⟩) hHeld ?_
 ·obtain ⟨s0,s1⟩:=hS
  go_simp
 try simp only [Act.put,sA,sB,sC,sD,sE,sF]
 refine wpAnyH_done (by kernel_rfl) ?_ _;have bty:Below wbx.heap.size wbx wby:=((bR _ _).drew).trans (Below.trans bay (bby.mono bay.size));go_wp2_with fail;go_ret2;have hbx:=hbw3.next btx;refine ⟨hbx.next bty,.inl ⟨HC.out,lby,Aby,cby,?_,rfl,oby.base (lT hbx.size bay.size)⟩⟩;unfold Hid;rw [eby.out,eay.out,ebx.out,eax.out,e1.out];show _=[4]++(ta.data.toList++(tx na++(tx wh++(num (Zk st)++tx te))))
 unfold tx;simp only [List.append_assoc,List.cons_append,List.nil_append]
theorem Z5X (Ad:OA) (d:LU) (cd:Nat) (Ae:OA) (en:List Ent) (ce:Nat) (tr:BA) (Ap:OA) (pa:List BA) (cp:Nat) (ta na wh:BA) (st:Int) (te:BA) (w:World) (hd:Rd w w.heap.size 1 Ad d.length (bc d)) (he:Rd w w.heap.size 3 Ae en.length (ec en)) (hp:Rd w w.heap.size 1 Ap pa.length (pc pa)) (hel:en.length≤140737488355328) (hpl:pa.length≤140737488355328) (hns:Hid (∀e∈en,e.name.size≤maxLen)) (HC:Hid (Zb geS (⟨2,d,en,tr,pa,ta,na,wh,st,te⟩:Go.Dol.Obj)=true)):
  Calls Tryz.prog 51 #[.agg #[.int .i64 2,.slice Ad d.length cd,.slice Ae en.length ce,.string tr,.slice Ap pa.length cp,.string ta,.string na,.string wh,.int .i64 st,.string te]] w (Z2M w (⟨2,d,en,tr,pa,ta,na,wh,st,te⟩:Go.Dol.Obj)):=by
 have hb0:Below w.heap.size w (w.alloc (.cells #[.int .i64 2,.slice Ad d.length cd,.slice Ae en.length ce,.string tr,.slice Ap pa.length cp,.string ta,.string na,.string wh,.int .i64 st,.string te] 40)):=(bR _ _).alloc (lR _) _;have hB0:=Blk.new w 40 (Zs 2 (.slice Ad d.length cd) (.slice Ae en.length ce) tr (.slice Ap pa.length cp) ta na wh st te);have hd0:=hd.alive hb0;have he0:=he.alive hb0;have hp0:=hp.alive hb0;have hEC:Hid (errC (Zb geS (⟨2,d,en,tr,pa,ta,na,wh,st,te⟩:Go.Dol.Obj))=0):=qI (by rw [HC.out];rfl);go_in;go_wp2_with fail;refine (Z0H 2 Ad d cd Ae en ce tr Ap pa cp ta na wh st te _ he0 hp0 hel hpl hns).mono ?_;rintro e w1 ⟨rfl,hb1⟩;rw [hEC.out];have hB1:=hB0.below hb1 hB0.lt;have hbw:=hb0.next hb1;have hd1:=hd0.alive hb1;have he1:=he0.alive hb1;have hp1:=hp0.alive hb1;have hwr:IntKind.u8.wrap 2=2:=by rfl
 have hs1:w.heap.size<w1.heap.size:=hB1.lt;have hn1:w.heap.size≠w1.heap.size:=by omega
 have hn2: ¬w1.heap.size=w.heap.size:=by omega
 have ho1:(w1.alloc (.cells #[.int .u8 2] 5)).ownsRow w.heap.size 5 1 (.slice (some ⟨w1.heap.size,0,none⟩) 1 1) 1 (bc [2]):=World.ownsRow_lit w1 #[.int .u8 2] 1 hbw.size (by decide) rfl;have hbo:Below w1.heap.size w1 (w1.alloc (.cells #[.int .u8 2] 5)):=(bR _ _).alloc (lR _) _;have hb2:=hbw.next hbo;have hB2:=hB1.alloc (.cells #[.int .u8 2] 5);have hd2:=hd1.alive hbo;have he2:=he1.alive hbo;have hp2:=hp1.alive hbo;obtain ⟨c0,c1,c2,c3,c4,c5,c6,c7,c8,c9⟩:=Z2 hB1;have heb:=Z0P rfl HC.out;simp only at heb;have hel4:=(Z0o heb).2;have hen:=Z50 heb;have hcl:Hid (Zk (en.length:Int)=en.length):=by unfold Hid Zk;omega
 clear heb;go_wp2_with fail;refine (Zr _ [2] 1 _ _ (Rd.of_own ho1) (by decide)).mono ?_;rintro e w4 ⟨l2,A2,cc2,e2,rfl,ho4,hb4,i3,i4⟩;have hB4:=hB2.below hb4 hB2.lt;have hbw4:=hb2.next hb4;have ho4':=ho4.base hb2.size;obtain ⟨T,hTe⟩: ∃T,T=[2]++num en.length:=⟨_,rfl⟩;have hT:Hid (l2=T++(en.take 0).flatMap entB):=by
  unfold Hid;rw [e2.out,hcl.out,hTe];simp
 have hTl:T.length≤10:=by
  rw [hTe];simp only [List.length_append,List.length_singleton];have:=Za 8 en.length (by omega);omega
 have HTE:=qI hTe;obtain ⟨d0,d1,d2,d3,d4,d5,d6,d7,d8,d9⟩:=Z2 hB4;clear c0 c1 c2 c3 c4 c5 c6 c7 c8 c9 hTe e2;go_wp2_with fail;clear d0 d1 d2 d3 d4 d5 d6 d7 d8 d9;go_loopw [4,5] (fun b i wr=>Zgy w.heap.size T en (Zs 2 (.slice Ad d.length cd) (.slice Ae en.length ce) tr (.slice Ap pa.length cp) ta na wh st te) w b i wr) (fun _ i _=>en.length-(intOf i).toNat)
 case atStart=>exact ⟨0,l2,A2,cc2,rfl,rfl,zL _,hT,ho4',i3,i4,hB4,hbw4⟩
 case round=>
  clear hT ho4' hB4 hbw4 i3 i4 ho4 hb4;obtain ⟨k',l3,A3,c3,rfl,rfl,hk,hT,hown,i3,i4,hB,hbel⟩:=hrel;obtain ⟨k0,k1,k2,k3,k4,k5,k6,k7,k8,k9⟩:=Z2 hB;have hs:=hbel.size;have f1:IntKind.i64.wrap ((k':Int)+1)=(k':Int)+1:=qJ _ (by omega)
  by_cases h1:k'<en.length
  ·have d1:decide ((k':Int)<(en.length:Int))=true:=dT (by omega)
   have d1':(k':Int)<(en.length:Int):=by omega
   have hk0:(0:Int)≤(k':Int):=by omega
   have hlen1:en.length≤9223372036854775807:=by omega
   have hrw:=he.below hbel;obtain ⟨bb,off,rfl,hbb,hcell⟩:=hrw.at_ (by omega);obtain ⟨p0,p1,p2⟩:=Z2L h1;have q0:=hcell _ _ p0;have q1:wr.cell? ⟨bb,off+k'*3+1,none⟩=_:=hcell _ _ p1;have q2:wr.cell? ⟨bb,off+k'*3+2,none⟩=_:=hcell _ _ p2;have hpart:=Zau h1;have hel':=Z6n en[k'];obtain ⟨x,hx⟩: ∃x,x=en[k']:=⟨_,rfl⟩;have hsucc:Hid ((en.take (k'+1)).flatMap entB=(en.take k').flatMap entB++entB x):=by unfold Hid;rw [Z4Y h1,hx]
   rw [←hx] at q0 q1 q2 hpart hel';have hl3:l3.length+x.name.size+1+x.id.size≤T.length+(en.flatMap entB).length:=by
    have h6:=congrArg List.length hT.out;rw [List.length_append] at h6;omega
   obtain ⟨x0,x1,x2⟩:=x;simp only at q0 q1 q2 hl3;clear hx hcell p0 p1 p2 hpart hel';go_wp2_with fail;refine (Z04 A3 l3 c3 x0 wr (Rd.of_own hown) (by omega)).mono ?_;rintro e w6 ⟨l6,A6,c6,e6,rfl,ho6,hb6,i5,i6⟩;have hl6:l6.length≤l3.length+9+x0.size:=by rw [e6.out,List.length_append];have:=ZQ (s:=x0) (by omega);unfold tx at this;omega
   have hB6:=hB.below hb6 hB.lt;have hbb':bb<wr.heap.size:=by omega
   have q1':w6.cell? ⟨bb,off+k'*3+1,none⟩=some (.bool x1):=(hb6.cell (p:=⟨bb,_,none⟩) hbb').trans q1;have q2':w6.cell? ⟨bb,off+k'*3+2,none⟩=some (.string x2):=(hb6.cell (p:=⟨bb,_,none⟩) hbb').trans q2;clear k0 k1 k2 k3 k4 k5 k6 k7 k8 k9 q0 q1 q2;obtain ⟨k0,k1,k2,k3,k4,k5,k6,k7,k8,k9⟩:=Z2 hB6
   cases x1 with
   | true=>
    go_wp2_with (at_builtin;refine Z1y rfl (.tmp 69) (.tmp 71) rfl wr.heap.size _ l6.length l6 rfl ho6 rfl (by decide) (by decide) (by omega) hb6.size ?_);intro d7 l7 A7 c7 w7 ed7 e7 ho7 hb7 hg7 _ i7 i8;have hb67:=hb6.trans hb7;have hB7:=hB6.grown hg7 (fun e=>own_ne ho6 hB6 (by decide) e.symm);have q2'':w7.cell? ⟨bb,off+k'*3+2,none⟩=some (.string x2):=(hb7.cell (p:=⟨bb,_,none⟩) hbb').trans q2';have hl7:l7.length≤l6.length+1:=by rw [e7.out,List.length_append];exact lR _
    clear k0 k1 k2 k3 k4 k5 k6 k7 k8 k9;obtain ⟨k0,k1,k2,k3,k4,k5,k6,k7,k8,k9⟩:=Z2 hB7;go_wp2_with (at_builtin;refine Z4S rfl (.tmp 73) (.tmp 79) rfl wr.heap.size _ l7.length l7 rfl ho7 x2 rfl (by omega) hb67.size ?_);intro l8 A8 c8 w8 e8 ho8 hb8 hg8 i9 i10;go_wp2_with fail;refine ⟨⟨k'+1,l8,A8,c8,by go_num,rfl,h1,?_,ho8.base hs,i9,i10,hB7.grown hg8 (fun e=>own_ne ho7 hB7 (by decide) e.symm),hbel.trans ((hb67.trans hb8).mono hs)⟩,by simp [intOf];omega⟩;have hd:d7=1:=Z0F (n:=1) ed7 rfl;unfold Hid;rw [e8.out,e7.out,e6.out,hT.out,hsucc.out,hd];unfold entB tx;simp only [List.append_assoc,List.cons_append,List.nil_append,if_true]
   | false=>
    go_wp2_with (at_builtin;refine Z1y rfl (.tmp 69) (.tmp 71) rfl wr.heap.size _ l6.length l6 rfl ho6 rfl (by decide) (by decide) (by omega) hb6.size ?_);intro d7 l7 A7 c7 w7 ed7 e7 ho7 hb7 hg7 _ i7 i8;have hb67:=hb6.trans hb7;have hB7:=hB6.grown hg7 (fun e=>own_ne ho6 hB6 (by decide) e.symm);have q2'':w7.cell? ⟨bb,off+k'*3+2,none⟩=some (.string x2):=(hb7.cell (p:=⟨bb,_,none⟩) hbb').trans q2';have hl7:l7.length≤l6.length+1:=by rw [e7.out,List.length_append];exact lR _
    clear k0 k1 k2 k3 k4 k5 k6 k7 k8 k9;obtain ⟨k0,k1,k2,k3,k4,k5,k6,k7,k8,k9⟩:=Z2 hB7;go_wp2_with (at_builtin;refine Z4S rfl (.tmp 73) (.tmp 79) rfl wr.heap.size _ l7.length l7 rfl ho7 x2 rfl (by omega) hb67.size ?_);intro l8 A8 c8 w8 e8 ho8 hb8 hg8 i9 i10;go_wp2_with fail;refine ⟨⟨k'+1,l8,A8,c8,by go_num,rfl,h1,?_,ho8.base hs,i9,i10,hB7.grown hg8 (fun e=>own_ne ho7 hB7 (by decide) e.symm),hbel.trans ((hb67.trans hb8).mono hs)⟩,by simp [intOf];omega⟩;have hd:d7=0:=UInt8.toNat_inj.1 ed7.out;unfold Hid;rw [e8.out,e7.out,e6.out,hT.out,hsucc.out,hd];unfold entB tx;simp [List.append_assoc]
  ·have d1:decide ((k':Int)<(en.length:Int))=false:=qF (by omega)
   have d1': ¬(k':Int)<(en.length:Int):=by omega
   have hkl:k'=en.length:=by omega
   have hT2:Hid (l3=encO (⟨2,d,en,tr,pa,ta,na,wh,st,te⟩:Go.Dol.Obj)):=by
    unfold Hid;rw [hT.out,hkl,List.take_length,HTE.out];show _=[2]++Z4G en
    unfold Z4G;rw [List.append_assoc]
   clear hkl;go_wp2_with fail;go_ret2;exact ⟨hbel,.inl ⟨HC.out,l3,A3,c3,hT2,rfl,hown⟩⟩
theorem Z3y (k:Int) (Ad:OA) (d:LU) (cd:Nat) (Ae:OA) (en:List Ent) (ce:Nat) (tr:BA) (Ap:OA) (pa:List BA) (cp:Nat) (ta na wh:BA) (st:Int) (te:BA) (w:World) (hd:Rd w w.heap.size 1 Ad d.length (bc d)) (he:Rd w w.heap.size 3 Ae en.length (ec en)) (hp:Rd w w.heap.size 1 Ap pa.length (pc pa)) (hel:en.length≤140737488355328) (hpl:pa.length≤140737488355328) (hns:Hid (∀e∈en,e.name.size≤maxLen)) (HC:Hid (Zb geS (⟨k,d,en,tr,pa,ta,na,wh,st,te⟩:Go.Dol.Obj)=false)):
  Calls Tryz.prog 51 #[.agg #[.int .i64 k,.slice Ad d.length cd,.slice Ae en.length ce,.string tr,.slice Ap pa.length cp,.string ta,.string na,.string wh,.int .i64 st,.string te]] w fun e w'=>e= .returned (.tuple #[.slice none 0 0,.int .i64 1])∧Below w.heap.size w w':=by
 have hb0:Below w.heap.size w (w.alloc (.cells #[.int .i64 k,.slice Ad d.length cd,.slice Ae en.length ce,.string tr,.slice Ap pa.length cp,.string ta,.string na,.string wh,.int .i64 st,.string te] 40)):=(bR _ _).alloc (lR _) _;have hB0:=Blk.new w 40 (Zs k (.slice Ad d.length cd) (.slice Ae en.length ce) tr (.slice Ap pa.length cp) ta na wh st te);have hd0:=hd.alive hb0;have he0:=he.alive hb0;have hp0:=hp.alive hb0;have hEC:Hid (errC (Zb geS (⟨k,d,en,tr,pa,ta,na,wh,st,te⟩:Go.Dol.Obj))=1):=qI (by rw [HC.out];rfl);go_in;go_wp2_with fail;refine (Z0H k Ad d cd Ae en ce tr Ap pa cp ta na wh st te _ he0 hp0 hel hpl hns).mono ?_;rintro e w1 ⟨rfl,hb1⟩;rw [hEC.out];have hB1:=hB0.below hb1 hB0.lt;have hbw:=hb0.next hb1;go_wp2_with fail;go_ret2;exact ⟨rfl,hbw⟩
theorem Z00 (k:Int) (Ad:OA) (d:LU) (cd:Nat) (Ae:OA) (en:List Ent) (ce:Nat) (tr:BA) (Ap:OA) (pa:List BA) (cp:Nat) (ta na wh:BA) (st:Int) (te:BA) (w:World) (hd:Rd w w.heap.size 1 Ad d.length (bc d)) (he:Rd w w.heap.size 3 Ae en.length (ec en)) (hp:Rd w w.heap.size 1 Ap pa.length (pc pa)) (hel:en.length≤140737488355328) (hpl:pa.length≤140737488355328) (hns:Hid (∀e∈en,e.name.size≤maxLen)):
  Calls Tryz.prog 51 #[.agg #[.int .i64 k,.slice Ad d.length cd,.slice Ae en.length ce,.string tr,.slice Ap pa.length cp,.string ta,.string na,.string wh,.int .i64 st,.string te]] w (Z2M w (⟨k,d,en,tr,pa,ta,na,wh,st,te⟩:Go.Dol.Obj)):=by
 cases hc:Zb geS (⟨k,d,en,tr,pa,ta,na,wh,st,te⟩:Go.Dol.Obj) with
 | false=>exact (Z3y k Ad d cd Ae en ce tr Ap pa cp ta na wh st te w hd he hp hel hpl hns (qI hc)).mono fun e w' h=>⟨h.2,.inr ⟨hc,h.1⟩⟩
 | true=>
  rcases Z3k hc with h | h | h | h
  ·have h':k=1:=h
   subst h';exact Z5U Ad d cd Ae en ce tr Ap pa cp ta na wh st te w hd he hp hel hpl hns (qI hc)
  ·have h':k=2:=h
   subst h';exact Z5X Ad d cd Ae en ce tr Ap pa cp ta na wh st te w hd he hp hel hpl hns (qI hc)
  ·have h':k=3:=h
   subst h';exact Z5V Ad d cd Ae en ce tr Ap pa cp ta na wh st te w hd he hp hel hpl hns (qI hc)
  ·have h':k=4:=h
   subst h';exact Z5W Ad d cd Ae en ce tr Ap pa cp ta na wh st te w hd he hp hel hpl hns (qI hc)
def Rr (w:World) (B g:Nat) (l:LU) (b:Bool):Prop:=
 ∃(A:OA) (c:Nat),Blk w g 265 [.slice A l.length c,.bool b]∧Far w B A l∧l.length≤c∧c≤maxLen∧l.length≤140737488355328∧B≤g
theorem Rr.keep {w w':World} {B g:Nat} {l:LU} {b:Bool} (h:Rr w B g l b) {row:Option Nat} (hg:w.grownBy w' row) (hne:some g≠row) (hr:Other w B row):Rr w' B g l b:=by
 obtain ⟨A,c,hB,hF,h1⟩:=h;exact ⟨A,c,hB.grown hg hne,hF.keep hg hr,h1⟩
theorem Rr.below {w w':World} {B g:Nat} {l:LU} {b:Bool} (h:Rr w B g l b) (hb:Below w.heap.size w w'):Rr w' B g l b:=by
 obtain ⟨A,c,hB,hF,h1⟩:=h;exact ⟨A,c,hB.below hb hB.lt,hF.below hb,h1⟩
theorem Rr.drew {w:World} {B g:Nat} {l:LU} {b:Bool} (h:Rr w B g l b):Rr w.drew B g l b:=by
 obtain ⟨A,c,hB,hF,h1⟩:=h;exact ⟨A,c,hB.drew,hF.drew,h1⟩
def Ze2 {α:Type} (mk:α→Value) (P:α→Prop) (B g:Nat) (t:Option (α×LU)) (l:LU) (b:Bool) (w:World) (e:Ending) (w':World):Prop:=
 ∃(v:α) (l':LU) (b':Bool),e= .returned (mk v)∧Rr w' B g l' b'∧Hid (Took t b v l' b')∧w.grownBy w' (some g)∧l'.length≤l.length∧P v
theorem Z15 (B g n:Nat) (nI:Int) (hnI:nI=(n:Nat)) (l:LU) (b:Bool) (w:World) (h:Rr w B g l b):
  Calls Tryz.prog 195 #[.pointer (some ⟨g,0,none⟩),.int .i64 nI] w (Ze2 mkS (fun v=>v.length≤n) B g (ZS n l) l b w):=by
 obtain ⟨A,c,hB,hF,hc,hcm,hl,hBg⟩:=h;have hO:=Other.blk hB (by decide) hBg;have k0:w.cell? ⟨g,0,none⟩=some (.slice A l.length c):=by rw [hB.cell];rfl
 have k1:w.cell? ⟨g,1,none⟩=some (.bool b):=by rw [hB.cell];rfl
 have z0:=hB.free 0;have z1:=hB.free 1
 by_cases hn:l.length<n
 ·have d1:decide ((l.length:Int)<nI)=true:=dT (by omega)
  have HT:Hid (ZS n l=none):=by unfold Hid ZS;rw [if_pos hn]
  clear hnI;go_in;go_wp2_with fail;go_ret;have hg:w.grownBy (w.setCell ⟨g,1,none⟩ (.bool true)) (some g):=Z0 (gR w _) 1 _;exact ⟨[],l,true,rfl,⟨A,c,hB.set 1 (.bool true),hF.keep hg hO,hc,hcm,hl,hBg⟩,qI (Z1g b _ _ HT.out),hg,lR _,zL _⟩
 ·have hn':n≤l.length:=by omega
  have d1:decide ((l.length:Int)<nI)=false:=qF (by omega);have HT:Hid (ZS n l=some (l.take n,l.drop n)):=by unfold Hid ZS;rw [if_neg hn]
  obtain ⟨m,em,jm,jm',⟨rm,km,km'⟩,_,sm⟩:=ZeR (k:=n) nI hnI hF.1 hn' hc hcm;obtain ⟨q,A',c',eq,jq,jq',hq,_,sq,_,sn⟩:=Z0V (k:=n) nI hnI hF.1 hn' hc hcm;have v1:=Z0L (c:=c) rm;clear hnI hn;go_in;go_wp2_with fail;go_ret;have hg:w.grownBy (w.setCell ⟨g,0,none⟩ (.slice A' q.length c')) (some g):=Z0 (gR w _) 0 _;have hq2:=hq.2;refine ⟨m,q,b,rfl,⟨A',c',hB.set 0 (.slice A' q.length c'),(hF.piece hq (lR _) jq sq).keep hg hO,hq2.1,hq2.2,by omega,hBg⟩,qI (Z1f b ?_),hg,by omega,jm⟩;rw [HT.out,em.out,eq.out]
theorem Z1V (B g:Nat) (l:LU) (b:Bool) (w:World) (h:Rr w B g l b):
  Calls Tryz.prog 193 #[.pointer (some ⟨g,0,none⟩)] w (Ze2 mkN (fun n=>n≤4611686018427387903) B g (Z7 l) l b w):=by
 obtain ⟨A,c,hB,hF,hc,hcm,hl,hBg⟩:=h;have k0:w.cell? ⟨g,0,none⟩=some (.slice A l.length c):=by rw [hB.cell];rfl
 have hgl:=hB.lt;go_in;go_wp2_with fail;refine (ZH A l c w hF.1 hl hc).mono ?_;intro e w1 h1;rcases ht:Z7 l with _ | ⟨n,q⟩
 ·rw [ht] at h1
  obtain ⟨rfl,hb1⟩:=h1;have hB1:=hB.below hb1 hgl;have hO1:=Other.blk hB1 (by decide) hBg;have k1:w1.cell? ⟨g,1,none⟩=some (.bool b):=by rw [hB1.cell];rfl
  have z0:=hB1.free 0;have z1:=hB1.free 1;have k3:w1.cell? ⟨g,0,none⟩=some (.slice A l.length c):=by rw [hB1.cell];rfl
  have HT:=qI ht;clear ht k0;go_wp2_with fail;go_ret;have hg:w1.grownBy (w1.setCell ⟨g,1,none⟩ (.bool true)) (some g):=Z0 (gR w1 _) 1 _;rw [HT.out];exact ⟨0,l,true,rfl,⟨A,c,hB1.set 1 (.bool true),(hF.below hb1).keep hg hO1,hc,hcm,hl,hBg⟩,qI (Z1g _ _ _ rfl),Z6 (Z5 hb1 _) hg,lR _,by decide⟩
 ·rw [ht] at h1
  obtain ⟨q',A',c',e1,rfl,ho1,hb1,i1,i2⟩:=h1;have hB1:=hB.below hb1 hgl;have hO1:=Other.blk hB1 (by decide) hBg;have k1:w1.cell? ⟨g,1,none⟩=some (.bool b):=by rw [hB1.cell];rfl
  have z0:=hB1.free 0;have z1:=hB1.free 1;have k3:w1.cell? ⟨g,0,none⟩=some (.slice A l.length c):=by rw [hB1.cell];rfl
  have HT:=qI ht;have hlt:=qI (Z4K ht);have hn:=qI ((ZC ht).2);have hF1:Far w1 B A' q':=Far.of_seg (Seg.of_own ho1);clear ht k0;go_wp2_with fail;go_ret;have hg:w1.grownBy (w1.setCell ⟨g,0,none⟩ (.slice A' q'.length c')) (some g):=Z0 (gR w1 _) 0 _;have hq:q'.length<l.length:=by rw [e1.out];exact hlt.out
  rw [HT.out];exact ⟨n,q',b,rfl,⟨A',c',hB1.set 0 (.slice A' q'.length c'),hF1.keep hg hO1,i1,i2,by omega,hBg⟩,qI (Z1f _ (by rw [e1.out])),Z6 (Z5 hb1 _) hg,by omega,hn.out⟩
theorem Z0c (B g:Nat) (l:LU) (b:Bool) (w:World) (h:Rr w B g l b):
  Calls Tryz.prog 194 #[.pointer (some ⟨g,0,none⟩)] w (Ze2 mkS (fun v=>v.length≤1048576) B g (Z0j l) l b w):=by
 obtain ⟨A,c,hB,hF,hc,hcm,hl,hBg⟩:=h;have k0:w.cell? ⟨g,0,none⟩=some (.slice A l.length c):=by rw [hB.cell];rfl
 have hgl:=hB.lt;go_in;go_wp2_with fail;refine (Z6y A l c 1048576 w hF.1 hl hc).mono ?_;intro e w1 h1;change Z5b w (Z0j l) e w1 at h1;rcases ht:Z0j l with _ | ⟨s,q⟩
 ·rw [ht] at h1
  obtain ⟨rfl,hb1⟩:=h1;have hB1:=hB.below hb1 hgl;have hO1:=Other.blk hB1 (by decide) hBg;have k1:w1.cell? ⟨g,1,none⟩=some (.bool b):=by rw [hB1.cell];rfl
  have z0:=hB1.free 0;have z1:=hB1.free 1;have k3:w1.cell? ⟨g,0,none⟩=some (.slice A l.length c):=by rw [hB1.cell];rfl
  have HT:=qI ht;clear ht k0;go_wp2_with fail;go_ret;have hg:w1.grownBy (w1.setCell ⟨g,1,none⟩ (.bool true)) (some g):=Z0 (gR w1 _) 1 _;rw [HT.out];exact ⟨[],l,true,rfl,⟨A,c,hB1.set 1 (.bool true),(hF.below hb1).keep hg hO1,hc,hcm,hl,hBg⟩,qI (Z1g _ _ _ rfl),Z6 (Z5 hb1 _) hg,lR _,by decide⟩
 ·rw [ht] at h1
  obtain ⟨q',A',c',e1,rfl,hs1,hb1⟩:=h1;have hB1:=hB.below hb1 hgl;have hO1:=Other.blk hB1 (by decide) hBg;have k1:w1.cell? ⟨g,1,none⟩=some (.bool b):=by rw [hB1.cell];rfl
  have z0:=hB1.free 0;have z1:=hB1.free 1;have k3:w1.cell? ⟨g,0,none⟩=some (.slice A l.length c):=by rw [hB1.cell];rfl
  have HT:=qI ht;have hlt:=qI (Z52 ht);have hF1:Far w1 B A' q':=Far.of_seg hs1;have i1:=hs1.2.1;have i2:=hs1.2.2.1;clear ht k0 hs1;go_wp2_with fail;go_ret;have hg:w1.grownBy (w1.setCell ⟨g,0,none⟩ (.slice A' q'.length c')) (some g):=Z0 (gR w1 _) 0 _;have hq:q'.length≤l.length:=by rw [e1.out];exact hlt.out.1
  rw [HT.out];exact ⟨s,q',b,rfl,⟨A',c',hB1.set 0 (.slice A' q'.length c'),hF1.keep hg hO1,i1,i2,by omega,hBg⟩,qI (Z1f _ (by rw [e1.out])),Z6 (Z5 hb1 _) hg,by omega,hlt.out.2⟩
end Go.Proofs.YtecpbcmpncgokaaGreat
