/- The document's side of the layer 'loose': names, bytes, keeping, dropping, ids. Conditions: a disk in good order; an id of at most 2^46 bytes. -/
import Derived.Test.YtecpbcmpncgokaaGreatBoth
import Derived.Test.YtecpbcmpncgokaaGreatRefOwn
import Derived.Test.YtecpbcmpncgokaaGreatLoadOk
import Derived.Test.YtecpbcmpncgokaaGreatObjE
import Derived.Test.YtecpbcmpncgokaaGreatSum10
import Derived.Test.YtecpbcmpncgokaaGreatShort
set_option maxRecDepth 100000
set_option maxHeartbeats 3200000
set_option linter.unusedVariables false
namespace Go.Proofs.YtecpbcmpncgokaaGreat
open Go.RowKit Go.Dol
def Zfb (w:World) (gr:Nat) (r:Except Int BA×Dk) (e:Ending) (w':World):Prop:=e= .returned (putR r.1)∧Rdk w' gr r.2∧w.grownBy w' (some gr)
theorem Z4C (A:OA) (l:LU) (c:Nat) (w:World) (hr:Rd w w.heap.size 1 A l.length (bc l)) (hl:l.length≤140737488355200):
  Calls Tryz.prog 123 #[.slice A l.length c] w fun e w'=>e= .returned (.string (idO l))∧Below w.heap.size w w':=(Z9T A l c w hr hl).mono fun e w' ⟨l',h,he,hb⟩=>⟨by rw [he,h.out];rfl,hb⟩
theorem Z12 (id:BA) (w:World) (hl:id.size≤70368744177600):
  Calls Tryz.prog 56 #[.string id] w fun e w'=>e= .returned (.string (Zd id))∧Below w.heap.size w w':=by
 have HX:=Z9U id w hl;go_in;go_wp2_with fail;refine HX.mono ?_;rintro e w1 ⟨l',hl',rfl,hb1⟩;have ad1:=Zah l' id w1 hl'.out hl;go_wp2_with fail;go_ret;exact ⟨rfl,hb1⟩
section
variable {w:World} {gr:Nat} {D:Dk}
theorem Z2J (h:Rdk w gr D) (hK:OkW D) (id:BA) (hid:id.size≤70368744177600):
  Calls Tryz.prog 52 #[.pointer (some ⟨gr,0,none⟩),.string id] w (Ze9 w (getO geS D id)):=by
 obtain ⟨r,hr⟩: ∃r,r=getO geS D id:=⟨_,rfl⟩;rw [←hr];have HR:=qI hr;clear hr;have hlen:=hK.len
 by_cases hs:id.size=32
 ·have h32:=qI hs
  have hnB:=(Z3d hs).1;have d0:((id.size:Int)!=32)=false:=by rw [hs];rfl
  clear hs;have HN:=qI (Z12 id w hid);go_in;go_wp2_with fail;refine HN.out.mono ?_;rintro e w2 ⟨rfl,hb02⟩;have h2:=h.below hb02;have hns:(Zd id).size≤maxLen:=by rw [Z0q,h32.out];decide
  have hRd:=Z16 h2 (Zd id) hns (by omega) (fun b hb=>hK.small' hb)
  cases hl:Z4 D.l (Zd id) with
  | none=>
   have hrd:Zq D (Zd id)=([],3):=by
    unfold Zq;rw [if_neg (by rw [hnB];decide),hl]
   rw [hrd] at hRd;have HRd:=qI hRd;have hr:Hid (r= .error 6):=by
    unfold Hid;rw [HR.out];unfold getO;rw [if_neg (by rw [h32.out];simp),hl]
   clear hRd hl hrd;go_wp2_with fail;refine HRd.out.mono ?_;rintro e w3 ⟨b,A,c,hbr,rfl,ho3,hb3⟩;have hb03:=hb02.next hb3;obtain rfl:b=[]:=hbr.out;go_wp2_with fail;go_ret2;rw [hr.out];exact ⟨hb03,rfl⟩
  | some q=>
   have hrd:Zq D (Zd id)=(q,0):=by
    unfold Zq;rw [if_neg (by rw [hnB];decide),hl]
   rw [hrd] at hRd;have HRd:=qI hRd;clear hRd hrd;go_wp2_with fail;refine HRd.out.mono ?_;rintro e w3 ⟨b,A,c,hbr,rfl,ho3,hb3⟩;have hb03:=hb02.next hb3;have hbq:Hid (b=q):=hbr;have hbl:=hK.small' hl;have hcl:=Z3w ho3;have hbl':b.length≤140737488355328:=by rw [hbq.out];exact hbl
   have HOp:=qI (Zb8 A b c 2097152 w3 (Rd.of_own ho3) hbl' hcl.1 (by omega));clear hbr HRd;go_wp2_with fail;refine HOp.out.mono ?_
   cases hop:Z1v b 2097152 with
   | none=>
    have hr:Hid (r= .error 2):=by
     unfold Hid;rw [HR.out];unfold getO;rw [if_neg (by rw [h32.out];simp),hl];simp only;rw [←hbq.out,hop]
    rintro e w4 ⟨rfl,hb4⟩;clear hl hop;go_wp2_with fail;go_ret2;rw [hr.out];exact ⟨hb03.next hb4,rfl⟩
   | some raw=>
    rintro e w4 ⟨p,A4,c4,hp,rfl,ho4,hb4,hp1,hp2⟩;have hb04:=hb03.next hb4;have hpl:p.length≤2097152:=by
     rw [hp.out];have:=(Z8X hop).2;omega
    have HS:=qI (Z4C A4 p c4 w4 (Rd.of_own ho4) (by omega));have hr:Hid (r=if Z21 p=id.data.toList∧ZB geS p=true then .ok p else .error 2):=by
     unfold Hid;rw [HR.out];unfold getO;rw [if_neg (by rw [h32.out];simp),hl];simp only;rw [←hbq.out,hop];simp only;rw [hp.out]
    clear hl hop hbq;go_wp2_with fail;refine HS.out.mono ?_;rintro e w5 ⟨rfl,hb5⟩;have hb05:=hb04.next hb5;have ho5:=Zh ho4 hb5
    by_cases hs:idO p=id
    ·have q1:((idO p).toList !=id.toList)=false:=Z9g hs
     have q2:((idO p).toList==id.toList)=true:=Z4i hs;have hS:Hid (Z21 p=id.data.toList):=Zcl.1 hs;have hD:=Z3z A4 p c4 w5 (Rd.of_own ho5) hp1 hp2 (by omega);clear hs
     cases hdec:decO geS p with
     | none=>
      rw [hdec] at hD;have HD:=qI hD;have hr2:Hid (r= .error 2):=by
       unfold Hid;rw [hr.out,if_neg (by unfold ZB;rw [hdec];simp)]
      clear hD hdec;go_wp2_with fail;refine HD.out.mono ?_;rintro e w6 ⟨rfl,hb6⟩;go_wp2_with fail;go_ret2;rw [hr2.out];exact ⟨hb05.next hb6,rfl⟩
     | some o=>
      rw [hdec] at hD;have HD:=qI hD;have hr2:Hid (r= .ok p):=by
       unfold Hid;rw [hr.out,if_pos ⟨hS.out,by unfold ZB;rw [hdec];rfl⟩]
      clear hD hdec;go_wp2_with fail;refine HD.out.mono ?_;rintro e w6 ⟨k,Ad,d,cd,Ae,en,ce,tr,Ap,pa,cp,ta,na,wh,st,te,ho,rfl,_,_,_,hb6,_,_,_⟩;have ho6:=Zh ho5 hb6;have hsz:w.heap.size≤w3.heap.size:=hb03.size;clear ho;go_wp2_with fail;go_ret2;rw [hr2.out];exact ⟨hb05.next hb6,p,A4,c4,rfl,rfl,ho6.base hsz,hp1,hp2⟩
    ·have q1:((idO p).toList !=id.toList)=true:=Z7g hs
     have q2:((idO p).toList==id.toList)=false:=Z2Q hs;have hr2:Hid (r= .error 2):=by
      unfold Hid;rw [hr.out,if_neg (fun h=>hs (Zcl.2 h.1))]
     clear hs;go_wp2_with fail;go_ret2;rw [hr2.out];exact ⟨hb05,rfl⟩
 ·have h32:=qI hs
  have d0:((id.size:Int)!=32)=true:=by simp;omega
  have hr:Hid (r= .error 1):=by
   unfold Hid;rw [HR.out];unfold getO;rw [if_pos hs]
  clear hs;go_in;go_wp2_with fail;go_ret2;rw [hr.out];exact ⟨bR _ _,rfl⟩
theorem Z7m (h:Rdk w gr D) (hK:OkW D) (id:BA) (hid:id.size≤70368744177600):
  Calls Tryz.prog 53 #[.pointer (some ⟨gr,0,none⟩),.string id] w (RetR w gr (dropO D id)):=by
 obtain ⟨r,hr⟩: ∃r,r=dropO D id:=⟨_,rfl⟩;rw [←hr];have HR:=qI hr;clear hr;have hlen:=hK.len
 by_cases hs:id.size=32
 ·have h32:=qI hs
  have d0:((id.size:Int)!=32)=false:=by rw [hs];rfl
  have hsz:(Zd id).size≤maxLen:=by rw [Z0q,hs];decide
  clear hs;have HN:=qI (Z12 id w hid);go_in;go_wp2_with fail;refine HN.out.mono ?_;rintro e w2 ⟨rfl,hb02⟩;have h2:=h.below hb02;have HH:=qI (ZT h2 (Zd id) (by omega));go_wp2_with fail;refine HH.out.mono ?_
  cases hl:(Z4 D.l (Zd id)).isSome with
  | false=>
   have hr:Hid (r=(6,D)):=by
    unfold Hid;rw [HR.out];unfold dropO;rw [if_neg (by rw [h32.out];simp),if_neg (by rw [hl];decide)]
   rintro e w3 ⟨nq,rfl,hw3⟩;have hb3:Below w2.heap.size w2 w3:=by rw [hw3];exact (bR _ _).drewN' nq
   have h3:=h2.below hb3;clear hl hw3;go_wp2_with fail;go_ret;rw [hr.out];exact ⟨rfl,h3,Z5 (hb02.next hb3) _⟩
  | true=>
   have hr:Hid (r=remD D (Zd id)):=by
    unfold Hid;rw [HR.out];unfold dropO;rw [if_neg (by rw [h32.out];simp),if_pos hl]
   rintro e w3 ⟨nq,rfl,hw3⟩;have hb3:Below w2.heap.size w2 w3:=by rw [hw3];exact (bR _ _).drewN' nq
   have h3:=h2.below hb3;have hb03:=hb02.next hb3;clear hl hw3;have HN2:=qI (Z12 id w3 hid);go_wp2_with fail;refine HN2.out.mono ?_;rintro e w4 ⟨rfl,hb4⟩;have h4:=h3.below hb4;have HRm:=qI (Z3A h4 hK (Zd id) hsz (by omega));go_wp2_with fail;refine HRm.out.mono ?_;rintro e w5 ⟨rfl,h5,ht5⟩;go_wp2_with fail;go_ret;rw [hr.out];exact ⟨rfl,h5,Z6 (Z5 (hb03.next hb4) _) ht5⟩
 ·have h32:=qI hs
  have d0:((id.size:Int)!=32)=true:=by simp;omega
  have hr:Hid (r=(1,D)):=by
   unfold Hid;rw [HR.out];unfold dropO;rw [if_pos hs]
  clear hs;go_in;go_wp2_with fail;go_ret;rw [hr.out];exact ⟨rfl,h,gR _ _⟩
theorem Z4D (h:Rdk w gr D) (hK:OkW D) (hsl:D.l.length+1≤3518437208880) (A:OA) (raw:LU) (c:Nat) (hr:Rd w w.heap.size 1 A raw.length (bc raw)) (hc:raw.length≤c) (hcm:c≤maxLen) (hl:raw.length≤140737488351232):
  Calls Tryz.prog 54 #[.pointer (some ⟨gr,0,none⟩),.slice A raw.length c] w (Zfb w gr (putO geS D raw)):=by
 obtain ⟨r,hre⟩: ∃r,r=putO geS D raw:=⟨_,rfl⟩;rw [←hre];have HR:=qI hre;clear hre;have hD:=Z3z A raw c w hr hc hcm hl
 cases hdec:decO geS raw with
 | none=>
  rw [hdec] at hD;have HD:=qI hD;have hr2:Hid (r=(.error 1,D)):=by
   unfold Hid;rw [HR.out];exact Z7h _ _ _ (by unfold ZB;rw [hdec];rfl)
  clear hD hdec;go_in;go_wp2_with fail;refine HD.out.mono ?_;rintro e w2 ⟨rfl,hb2⟩;have hb02:=hb2.alloc hb2.size (.cells #[.int .i64 0,.slice none 0 0,.slice none 0 0,.string ⟨#[]⟩,.slice none 0 0,.string ⟨#[]⟩,.string ⟨#[]⟩,.string ⟨#[]⟩,.int .i64 0,.string ⟨#[]⟩] 40);go_wp2_with fail;go_ret2;rw [hr2.out];exact ⟨rfl,h.below hb02,Z5 hb02 _⟩
 | some o=>
  rw [hdec] at hD;have HD:=qI hD;have hobj:ZB geS raw=true:=by unfold ZB;rw [hdec];rfl
  have hfew:=Z5z raw hobj;have hr2:=qI (HR.out.trans (Z9h hobj));have HO:=qI hobj;clear hD hdec hobj;go_in;go_wp2_with fail;refine HD.out.mono ?_;rintro e w2 ⟨k,Ad,d,cd,Ae,en,ce,tr,Ap,pa,cp,ta,na,wh,st,te,ho,rfl,_,_,_,hb02,_,_,_⟩;clear ho;have hb02:=hb02.alloc hb02.size (.cells #[.int .i64 k,.slice Ad d.length cd,.slice Ae en.length ce,.string tr,.slice Ap pa.length cp,.string ta,.string na,.string wh,.int .i64 st,.string te] 40);have h2:=h.below hb02;have HS:=qI (Z4C A raw c _ ((hr.below hb02).more hb02.size) (by omega));go_wp2_with fail;refine HS.out.mono ?_;rintro e w3 ⟨rfl,hb3⟩;have h3:=h2.below hb3;have hb03:=hb02.next hb3;obtain ⟨id,hid⟩: ∃id:BA,id=idO raw:=⟨_,rfl⟩;have hidO:=qI hid;have h32:id.size=32:=by rw [hid];exact Z2p raw
  rw [←hid];clear hid HS;have HG:=qI (Z2J h3 hK id (by omega));go_wp2_with fail;refine HG.out.mono ?_;obtain ⟨q,hq⟩: ∃q,q=getO geS D id:=⟨_,rfl⟩;rw [←hq];rw [←hidO.out,←hq] at hr2;rintro e w4 ⟨hb4,hm⟩;have h4:=h3.below hb4;have hb04:=hb03.next hb4;have hr4:Rd w4 w4.heap.size 1 A raw.length (bc raw):=(hr.below hb04).more hb04.size
  cases q with
  | ok b=>
   obtain ⟨b',Ab,cb,hbb,rfl,hob,hbc,hbcm⟩:=hm;have cv1:(convert 36 9 (.slice Ab b'.length cb)).run Tryz.prog w4= .ok (.string (idS b')) w4:=Z0L (Rd.of_own hob);have cv2:(convert 36 9 (.slice A raw.length c)).run Tryz.prog w4= .ok (.string (idS raw)) w4:=Z0L hr4;have hr3:Hid (r=if b'=raw then (.ok id,D) else (.error 7,D)):=by
    unfold Hid;rw [hr2.out];simp only;rw [hbb.out]
   clear hbb hq
   by_cases hb:b'=raw
   ·have hr4:Hid (r=(.ok id,D)):=by unfold Hid;rw [hr3.out,if_pos hb]
    have q1:((idS b').toList !=(idS raw).toList)=false:=Z9g (by rw [hb]);have q2:((idS b').toList==(idS raw).toList)=true:=Z4i (by rw [hb]);clear hb;go_wp2_with fail;go_ret2;rw [hr4.out];exact ⟨rfl,h4,Z5 hb04 _⟩
   ·have hr4:Hid (r=(.error 7,D)):=by unfold Hid;rw [hr3.out,if_neg hb]
    have q1:((idS b').toList !=(idS raw).toList)=true:=Z7g (fun e=>hb (by simpa [idS] using congrArg (fun x:BA=>x.data.toList) e));have q2:((idS b').toList==(idS raw).toList)=false:=Z2Q (fun e=>hb (by simpa [idS] using congrArg (fun x:BA=>x.data.toList) e));clear hb;go_wp2_with fail;go_ret2;rw [hr4.out];exact ⟨rfl,h4,Z5 hb04 _⟩
  | error k0=>
   obtain rfl:=hm;rcases Zai h32 hq.symm with rfl | rfl
   ·have hr3:Hid (r=(.error 2,D)):=by
     unfold Hid;rw [hr2.out]
     rfl
    clear hq;go_wp2_with fail;go_ret2;rw [hr3.out];exact ⟨rfl,h4,Z5 hb04 _⟩
   ·have HN:=qI (Z12 id w4 (by omega))
    clear hq;go_wp2_with fail;refine HN.out.mono ?_;rintro e w5 ⟨rfl,hb5⟩;have h5:=h4.below hb5;have hb05:=hb04.next hb5;have hr5:Rd w5 w5.heap.size 1 A raw.length (bc raw):=(hr.below hb05).more hb05.size;have HP:=qI (Z9A A raw c w5 hr5 (by omega) hc);go_wp2_with fail;refine HP.out.mono ?_;rintro e w6 ⟨b6,A6,c6,hb6e,rfl,hF,hb6,hc6,hcm6⟩;have h6:=h5.below hb6;have hb06:=hb05.next hb6;have hpl:b6.length≤2621449:=by rw [hb6e.out];exact Z4l HO.out
    have hns:(Zd id).size=66:=by rw [Z0q,h32]
    have HSv:=Z8n h6 hK (Zd id) (by omega) A6 b6 c6 hsl (by omega) 0 hF hc6 hcm6 (zL _);rw [hb6e.out,hidO.out] at HSv;obtain ⟨s,hs⟩: ∃s,s=ZP D (Zd (idO raw)) (Zp raw):=⟨_,rfl⟩;have hr3:Hid (r=if s.1≠0 then (.error s.1,s.2) else (.ok id,s.2)):=by
     unfold Hid;rw [hr2.out,hidO.out,hs]
     rfl
    rw [←hs,←hidO.out,←hb6e.out] at HSv;have HSV:=qI HSv;clear HSv hs hb6e;go_wp2_with fail;refine HSV.out.mono ?_;rintro e w7 ⟨rfl,h7,ht7⟩;obtain ⟨s1,s2⟩:=s
    by_cases hs0:s1=0
    ·have hr4:Hid (r=(.ok id,s2)):=by unfold Hid;rw [hr3.out,if_neg (by simpa using hs0)]
     subst hs0;go_wp2_with fail;go_ret2;rw [hr4.out];exact ⟨rfl,h7,Z6 (Z5 hb06 _) ht7⟩
    ·have hr4:Hid (r=(.error s1,s2)):=by unfold Hid;rw [hr3.out,if_pos hs0]
     have q1:(s1 !=0)=true:=bne_iff_ne.2 hs0;have q2:(s1==0)=false:=beq_eq_false_iff_ne.2 hs0;clear hs0;go_wp2_with fail;go_ret2;rw [hr4.out];exact ⟨rfl,h7,Z6 (Z5 hb06 _) ht7⟩
end
end Go.Proofs.YtecpbcmpncgokaaGreat
