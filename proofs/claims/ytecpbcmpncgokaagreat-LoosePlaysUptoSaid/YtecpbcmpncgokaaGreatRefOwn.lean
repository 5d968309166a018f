/- The document's save. Conditions: a disk in good order with room for one file more; bytes that lie below it or in a row of bytes. The document's Open and Apply: what they hand back lies in a row of its own. Conditions: as each law names. -/
import Derived.Test.YtecpbcmpncgokaaGreatLoadOk
import Derived.Test.YtecpbcmpncgokaaGreatWordsA
import Derived.Test.YtecpbcmpncgokaaGreatSafeB
import Derived.Test.YtecpbcmpncgokaaGreatShort
import Derived.Test.YtecpbcmpncgokaaGreatPressA
import Derived.Test.YtecpbcmpncgokaaGreatCodeA
import Derived.Deep.QuietTactic
import Derived.BigQuiet
import Derived.Deep.RegionHeld3
set_option maxRecDepth 100000
set_option maxHeartbeats 16000000
set_option linter.unusedVariables false
namespace Go.Dol
open Go.RowKit
theorem Z4x {D:Dk} (h:InOrder D.l) {s:BA} {c:LU} (hz:(appD D s c).1=0):(Z4 (appD D s c).2.l s).isSome=true∧(appD D s c).2.l=putF D.l s ((Z4 D.l s).getD []++c):=by
 unfold appD at hz ⊢;split
 ·rename_i h1
  rw [if_pos h1] at hz;cases hz
 ·rename_i h1
  rw [if_neg h1] at hz;split
  ·rename_i h2
   rw [if_pos h2] at hz;cases hz
  ·rename_i h2
   rw [if_neg h2] at hz;unfold Z1c at hz ⊢;split
   ·rename_i h3
    rw [if_pos h3] at hz;cases hz
   ·rename_i h3
    rw [if_neg h3] at hz;unfold Zw at hz ⊢;split
    ·rename_i h4
     rw [if_pos h4] at hz;cases hz
    ·refine ⟨?_,rfl⟩
     show (Z4 (putF D.l s _) s).isSome=true
     rw [Z0i h,if_pos rfl]
     rfl
theorem OkG.preS {L B:Nat} {D:Dk} (h:OkG L B D) {s:BA} {b:LU} (hs:(Z4 D.l s).isSome=false) (hl:D.l.length+1≤L) (hb:b.length≤B) {pre r:List (LU)} (hc:Zf b=pre++r):OkG L B (Zn D s pre).2:=by
 have h1:=Z53 b;rw [hc,List.flatten_append,List.length_append] at h1;have hs':Z4 D.l s=none:=by cases hx:Z4 D.l s with | none=>rfl | some c=>rw [hx] at hs;cases hs
 exact h.all (s:=s) pre (fun _=>hl) (by rw [hs',Option.getD_none,List.nil_append];omega)
end Go.Dol
namespace Go.Proofs.YtecpbcmpncgokaaGreat
open Go.RowKit Go.Dol
section
variable {w w':World} {gr:Nat} {D:Dk}
theorem Z4L (n:BA) (k:Int) (w:World) (hn:n.size≤140737488355328) (hk0: -4611686018427387904≤k) (hk:k≤4611686018427387904):
  Calls Tryz.prog 148 #[.string n,.int .i64 k] w fun e w'=>e= .returned (.int .i64 (16+(n.size+1)+max k 0))∧w'=w:=by
 have f1:IntKind.i64.wrap (16+(n.size:Int))=16+(n.size:Int):=qJ _ (by omega);have f2:IntKind.i64.wrap (16+(n.size:Int)+1)=16+(n.size:Int)+1:=qJ _ (by omega);have f3:IntKind.i64.wrap (16+(n.size:Int)+1+max k 0)=16+((n.size:Int)+1)+max k 0:=by rw [qJ _ (by omega)];omega
 go_in;go_wp2_with fail;go_ret;exact ⟨rfl,rfl⟩
def Z4y (gr:Nat) (w:World):Nat:=lenV ((w.cell? ⟨gr,1,none⟩).getD undef)
theorem Rdk.files (h:Rdk w gr D):Z4y gr w=D.l.length:=by
 obtain ⟨fs,A,c,k0,k1,k2,k3,k4,hr,hc,hcm,hF,hL⟩:=h.row;unfold Z4y;rw [k1,←hL.out,List.length_map]
 rfl
def Zep (D:Dk) (s:BA) (b:LU) (gr:Nat) (w:World) (i:Value) (wr:World):Prop:=
 ∃(at_:Nat) (E:Dk) (pre:List (LU)) (first:Bool),i= .int .i64 at_∧at_≤b.length∧Hid (Zn D s pre=(0,E))∧Hid (Zf b=pre++Z1a first (b.drop at_))∧Hid ((Z4 E.l s).isSome= !first)∧(first=true→at_=0)∧E.l.length≤D.l.length+1∧Hid (first=true→E.l.length=D.l.length)∧Rdk wr gr E∧w.grownBy wr (some gr)
def Z1q (D:Dk) (s n:BA) (b:LU):Int×Dk:=if (Zn D s (Zf b)).1≠0 then Zn D s (Zf b) else if (ZM (Zn D s (Zf b)).2 s).1≠0 then ZM (Zn D s (Zf b)).2 s else renD (ZM (Zn D s (Zf b)).2 s).2 s n
theorem Z7D (D:Dk) (n:BA) (b:LU):Z20 D n b=Z1q D (shd n) n b:=rfl
theorem Z8n (h:Rdk w gr D) (hK:OkW D) (n:BA) (hn:n.size≤140737488351232) (A:OA) (b:LU) (c:Nat) (hsl:D.l.length+1≤3518437208880) (hbw:b.length≤140737488355264) (B:Nat) (hfb:Far w B A b) (hcl:b.length≤c) (hcm:c≤maxLen) (hB:B≤gr):
  Calls Tryz.prog 127 #[.pointer (some ⟨gr,0,none⟩),.string n,.slice A b.length c] w (RetR w gr (ZP D n b)):=by
 obtain ⟨s,hs⟩: ∃s,n++(⟨#[126]⟩:BA)=s:=⟨_,rfl⟩;have hsd:shd n=s:=hs;have hss:s.size=n.size+1:=by rw [←hsd,Z0d]
 have hsm:s.size≤maxLen:=by unfold maxLen;omega
 have hnm:n.size≤maxLen:=by unfold maxLen;omega
 have hlen:=hK.len;have hO:Other w B (some gr):=by
  obtain ⟨fs0,A0,c0,hB0,_⟩:=id h;exact Other.blk hB0 (by decide) hB
 have HSD:=qI hsd;obtain ⟨fs0,A0,c0,k0,k1,k2,k3,k4,_⟩:=h.row;have HN:=Z06 s w hsm;clear hsd hss
 cases hB1:Z8 s with
 | false=>
  have HF:Hid (ZP D n b=(1,D)):=if_pos (.inl (by rw [HSD.out];exact hB1));rw [hB1] at HN;have HN2:=qI HN;clear HN hB1;go_in;go_wp2_with ((go_at_call 136;(with_reducible refine HN2.out.mono ?_);rintro e z0 ⟨rfl,hz0⟩;obtain rfl:=hz0.symm));go_ret;rw [HF.out];exact ⟨rfl,h,gR w _⟩
 | true=>
  rw [hB1] at HN;have HN2:=qI HN;have hS:=Z9B n w hnm;clear HN
  cases hT:Z07 n with
  | true=>
   have HF:Hid (ZP D n b=(1,D)):=if_pos (.inr (.inr hT));rw [hT] at hS;have HS:=qI hS;clear hS hT hB1;go_in
   go_wp2_with (first
    | (go_at_call 136;(with_reducible refine HN2.out.mono ?_);rintro e z0 ⟨rfl,hz0⟩;obtain rfl:=hz0.symm)
    | (go_at_call 199;(with_reducible refine HS.out.mono ?_);rintro e z0 ⟨rfl,hz0⟩;obtain rfl:=hz0.symm))
   go_ret;rw [HF.out];exact ⟨rfl,h,gR w _⟩
  | false=>
   rw [hT] at hS;have HS:=qI hS;clear hS
   by_cases h0:n.size=0
   ·have HF:Hid (ZP D n b=(1,D)):=if_pos (.inr (.inl h0))
    have hE:=Zba h0;clear hT hB1 h0;go_in
    go_wp2_with (first
     | (go_at_call 136;(with_reducible refine HN2.out.mono ?_);rintro e z0 ⟨rfl,hz0⟩;obtain rfl:=hz0.symm)
     | (go_at_call 199;(with_reducible refine HS.out.mono ?_);rintro e z0 ⟨rfl,hz0⟩;obtain rfl:=hz0.symm))
    go_ret;rw [HF.out];exact ⟨rfl,h,gR w _⟩
   ·have hE:=Z0K h0
    have hno: ¬(Z8 (shd n)=false∨n.size=0∨Z07 n=true):=by rw [HSD.out,hB1,hT];simp [h0]
    have hF0:ZP D n b=if D.dark=true then (5,D) else if (Z4 D.l s).isSome=true then (if (remD D s).1≠0 then remD D s else Z1w (remD D s).2 n b) else Z1w D n b:=by
     unfold ZP;rw [if_neg hno,HSD.out]
    clear hno hT h0
    cases hd:D.dark with
    | true=>
     have HF:Hid (ZP D n b=(5,D)):=by unfold Hid;rw [hF0,if_pos hd]
     rw [hd] at k4;clear hF0 hd hB1;go_in
     go_wp2_with (first
      | (go_at_call 136;(with_reducible refine HN2.out.mono ?_);rintro e z0 ⟨rfl,hz0⟩;obtain rfl:=hz0.symm)
      | (go_at_call 199;(with_reducible refine HS.out.mono ?_);rintro e z0 ⟨rfl,hz0⟩;obtain rfl:=hz0.symm))
     go_ret;rw [HF.out];exact ⟨rfl,h,gR w _⟩
    | false=>
     rw [hd] at k4;rw [hd,if_neg (by decide)] at hF0;have hHs:=ZT h s (by omega);clear hd
     cases his:(Z4 D.l s).isSome with
     | false=>
      rw [his] at hHs;rw [his,if_neg (by decide)] at hF0;have HF:=qI hF0;have HHs:=qI hHs;clear hHs hF0 hB1;go_in
      go_wp2_with (first
       | (go_at_call 136;(with_reducible refine HN2.out.mono ?_);rintro e z0 ⟨rfl,hz0⟩;obtain rfl:=hz0.symm)
       | (go_at_call 199;(with_reducible refine HS.out.mono ?_);rintro e z0 ⟨rfl,hz0⟩;obtain rfl:=hz0.symm))
      refine HHs.out.mono ?_;rintro e w2 ⟨nq,rfl,hw2⟩;have hb2:Below w.heap.size w w2:=by rw [hw2];exact (bR _ _).drewN' nq
      clear hw2;have hR2:=h.below hb2;have hg2:w.grownBy w2 (some gr):=Z5 hb2 _;obtain ⟨fr,hfr⟩: ∃fr,fr=frD D:=⟨_,rfl⟩;have hFr:=Zy hR2 ⟨hK.cap0,hK.cap1⟩ (by have:=hK.len;omega);rw [←hfr] at hFr;have HFr:=qI hFr;obtain ⟨nd,hnd⟩: ∃nd,nd=16+((n.size:Int)+1)+max (b.length:Int) 0:=⟨_,rfl⟩;have hnd2:nd=16+((n.size:Int)+1)+(b.length:Int):=by rw [hnd];omega
      have cN: ∀W,Calls Tryz.prog 148 #[.string n,.int .i64 (b.length:Int)] W fun e w'=>e= .returned (.int .i64 nd)∧w'=W:=by rw [hnd];exact fun W=>Z4L n _ W (by omega) (by omega) (by omega)
      have hTl:Z1w D n b=if fr<nd then (4,D) else Z1q D s n b:=by unfold Z1w;rw [Z7D,HSD.out,hfr,hnd2]
      clear hFr hnd hnd2 hfr
      by_cases hrm:fr<nd
      ·have d1:decide (fr<nd)=true:=dT hrm
       rw [if_pos hrm] at hTl;have HTl:=qI hTl;clear hTl hrm
       go_wp2_with (first
        | (go_at_call 138;(with_reducible refine HFr.out.mono ?_);rintro e w4 ⟨rfl,hR4,hb4⟩)
        | (go_at_call 148;(with_reducible refine (cN _).mono ?_);rintro e z0 ⟨rfl,hz0⟩;obtain rfl:=hz0.symm))
       go_ret;rw [HF.out,HTl.out];exact ⟨rfl,hR4,Z6 hg2 (Z5 hb4 _)⟩
      ·have d1:decide (fr<nd)=false:=qF hrm
       rw [if_neg hrm] at hTl;have HTl:=qI hTl;clear hTl hrm
       go_wp2_with (first
        | (go_at_call 138;(with_reducible refine HFr.out.mono ?_);rintro e w4 ⟨rfl,hR4,hb4⟩)
        | (go_at_call 148;(with_reducible refine (cN _).mono ?_);rintro e z0 ⟨rfl,hz0⟩;obtain rfl:=hz0.symm))
       have hg4:=Z6 hg2 (Z5 hb4 (some gr));have hbl:b.length≤140737488355264:=hbw;go_loopw [9] (fun i wr=>Zep D s b gr w i wr) (fun i wr=>2*(b.length-(intOf i).toNat)+(D.l.length+1-Z4y gr wr))
       case atStart=>exact ⟨0,D,[],true,rfl,zL _,rfl,rfl,his,fun _=>rfl,Nat.le_succ _,fun _=>rfl,hR4,hg4⟩
       case round=>
        clear hR4 hg4 hb4;obtain ⟨a,E,pre,first,rfl,ha,happ,hch,hlk,hf0,hEl,hEl2,hE,hg⟩:=hrel;have hKE:OkW E:=by have h1:=hK.preS his hsl hbw hch.out;rw [happ.out] at h1;exact h1
        have hfw:=hfb.keep hg hO;have hHs:=ZT hE s (by have:=hKE.len;omega);rw [hlk.out] at hHs;have HHs:=qI hHs;have hfo:=hE.files;have hmes: ∀{w9:World} {E9:Dk},Rdk w9 gr E9→Z4y gr w9=E9.l.length:=fun h=>h.files;clear hHs hf0;have hway:a<b.length∨(¬a<b.length∧first=true)∨(¬a<b.length∧first=false):=by cases first<;>by_cases h9:a<b.length<;>simp [h9]
        rcases hway with hat | ⟨hat,hfi⟩ | ⟨hat,hfi⟩
        ·have d2:decide ((a:Int)<(b.length:Int))=true:=dT (by omega)
         have d2n:decide (a<b.length)=true:=dT hat;have hnz:first=true∨0<(b.drop a).length:=.inr (by rw [List.length_drop];omega);obtain ⟨r,hr⟩: ∃r:Nat,r=b.length-a:=⟨_,rfl⟩;obtain ⟨q,hq⟩: ∃q:Nat,q=min 64 r:=⟨_,rfl⟩;have g1:IntKind.i64.wrap ((b.length:Int)-(a:Int))=(r:Int):=by rw [qJ _ (by omega)];omega
         have g2:min (64:Int) (r:Int)=(q:Int):=by omega
         have g3:IntKind.i64.wrap ((a:Int)+(q:Int))=(a:Int)+(q:Int):=qJ _ (by omega);obtain ⟨mm,A2,c2,em,jm,jm2,hPc,_,hsg,_,hslc⟩:=Z9W (lo:=a) (hi:=a+q) (a:Int) ((a:Int)+(q:Int)) rfl (by omega) hfw.1 (by omega) (by omega) hcl hcm;have hmm:mm=(b.drop a).take 64:=by
          rw [em.out,show a+q-a=q by omega,hq]
          by_cases h9:r≤64
          ·rw [Nat.min_eq_right h9,List.take_of_length_le (by rw [List.length_drop];omega),List.take_of_length_le (by rw [List.length_drop];omega)]
          ·rw [Nat.min_eq_left (by omega)]
         have hdd:(b.drop a).drop 64=b.drop (a+q):=by
          rw [List.drop_drop]
          by_cases h9:r≤64
          ·rw [List.drop_eq_nil_of_le (by omega),List.drop_eq_nil_of_le (by omega)]
          ·rw [show a+64=a+q by omega]
         have hch2:Zf b=(pre++[mm])++Z1a false (b.drop (a+q)):=by rw [hch.out,Z1X hnz,←hmm,hdd,List.append_assoc];rfl
         have hff:Far (wr) B A2 mm:=Far.piece (k:=a) hfw hPc (lR _) (by omega) hsg;have hml:mm.length≤64:=by omega
         have hsn:=Z1j (c:=mm) (s:=s) (D:=D) (l:=pre) (by rw [happ.out]);rw [happ.out] at hsn;obtain ⟨ec,E2,hap⟩: ∃ec E2,appD E s mm=(ec,E2):=⟨_,_,rfl⟩;have hsn2:Zn D s (pre++[mm])=(ec,E2):=by rw [hsn];exact hap
         have hKE2:OkW E2:=by have h1:=hK.preS his hsl hbw hch2;rw [hsn2] at h1;exact h1
         have cA:Calls Tryz.prog 200 #[.pointer (some ⟨gr,0,none⟩),.string s,.slice A2 mm.length c2] wr (RetR wr gr (ec,E2)):=by rw [←hap];exact Z17 hE hKE s hsm B A2 mm c2 hff hB
         have hth:ec=0→(Z4 E2.l s).isSome=true∧E2.l=putF E.l s ((Z4 E.l s).getD []++mm):=by
          intro h9;have h10:=Z4x (D:=E) hKE.ord (s:=s) (c:=mm) (by rw [hap];exact h9);rw [hap] at h10;exact h10
         have hqp:0<q:=by omega
         have HCH:=qI hch2;have HSN:=qI hsn2;have HTH:=qI hth;have HAP:=qI hap;have jm3:a+q≤b.length:=by omega
         clear hmm hdd hch2 hsn hsn2 hth hap hnz hq hr em hPc hsg;have HcA:=qI cA;clear cA;go_wp2_with fail;refine HcA.out.mono ?_;rintro e w6 ⟨rfl,hE6,hg6⟩;have hg06:=Z6 hg hg6
         by_cases he:ec=0
         ·obtain ⟨t1,t2⟩:=HTH.out he
          subst he;have T2:=qI t2;have T1:Hid ((Z4 E2.l s).isSome= !false):=t1;have hlen2:E2.l.length=E.l.length+(match Z4 E.l s with | none=>1 | some _=>0):=by rw [T2.out];exact Z3n _ _ _
          have hflag:(first=false→E2.l.length=E.l.length)∧(first=true→E2.l.length=E.l.length+1):=by
           have h9:=hlk.out
           cases hx:Z4 E.l s with
           | none=>
            rw [hx] at h9 hlen2
            cases first with
            | true=>exact ⟨(fun h=>by cases h),fun _=>hlen2⟩
            | false=>cases h9
           | some y=>
            rw [hx] at h9 hlen2
            cases first with
            | true=>cases h9
            | false=>exact ⟨fun _=>hlen2,(fun h=>by cases h)⟩
          have hEl3:=hEl2.out;have hE2l:E2.l.length≤D.l.length+1:=by
           cases first with
           | true=>have:=hEl3 (by simp);have:=hflag.2 rfl;omega
           | false=>have:=hflag.1 rfl;omega
          have hm9:=hmes hE6;have hm8:=hfo;have hle9:E.l.length≤E2.l.length:=by
           cases first with
           | true=>have:=hflag.2 rfl;omega
           | false=>have:=hflag.1 rfl;omega
          have HM9:=qI hm9;have HM8:=qI hm8;clear t1 t2 hlen2 hflag hEl3 hm9 hm8;go_wp2_with fail;refine ⟨⟨a+q,E2,pre++[mm],false,by go_num,jm3,HSN.out,HCH.out,T1,(fun h=>by cases h),hE2l,qI (fun h=>by cases h),hE6,hg06⟩,?_⟩;have h8:=HM8.out;have h9:=HM9.out;simp only [intOf];omega
         ·have hz:(ec==0)=false:=beq_eq_false_iff_ne.2 he
          have HL:Hid (Z1q D s n b=(ec,E2)):=by
           have h9:Zn D s (Zf b)=(ec,E2):=by rw [HCH.out,Z1k (by rw [HSN.out];exact he),HSN.out]
           unfold Hid Z1q;rw [h9,if_pos he]
          clear he;go_wp2_with fail;go_ret;rw [HF.out,HTl.out,HL.out];exact ⟨rfl,hE6,hg06⟩
        ·have d2:decide ((a:Int)<(b.length:Int))=false:=qF (by omega)
         have d2n:decide (a<b.length)=false:=qF hat;subst hfi;have hnz:true=true∨0<(b.drop a).length:=.inl rfl;obtain ⟨r,hr⟩: ∃r:Nat,r=b.length-a:=⟨_,rfl⟩;obtain ⟨q,hq⟩: ∃q:Nat,q=min 64 r:=⟨_,rfl⟩;have g1:IntKind.i64.wrap ((b.length:Int)-(a:Int))=(r:Int):=by rw [qJ _ (by omega)];omega
         have g2:min (64:Int) (r:Int)=(q:Int):=by omega
         have g3:IntKind.i64.wrap ((a:Int)+(q:Int))=(a:Int)+(q:Int):=qJ _ (by omega);obtain ⟨mm,A2,c2,em,jm,jm2,hPc,_,hsg,_,hslc⟩:=Z9W (lo:=a) (hi:=a+q) (a:Int) ((a:Int)+(q:Int)) rfl (by omega) hfw.1 (by omega) (by omega) hcl hcm;have hmm:mm=(b.drop a).take 64:=by
          rw [em.out,show a+q-a=q by omega,hq]
          by_cases h9:r≤64
          ·rw [Nat.min_eq_right h9,List.take_of_length_le (by rw [List.length_drop];omega),List.take_of_length_le (by rw [List.length_drop];omega)]
          ·rw [Nat.min_eq_left (by omega)]
         have hdd:(b.drop a).drop 64=b.drop (a+q):=by
          rw [List.drop_drop]
          by_cases h9:r≤64
          ·rw [List.drop_eq_nil_of_le (by omega),List.drop_eq_nil_of_le (by omega)]
          ·rw [show a+64=a+q by omega]
         have hch2:Zf b=(pre++[mm])++Z1a false (b.drop (a+q)):=by rw [hch.out,Z1X hnz,←hmm,hdd,List.append_assoc];rfl
         have hff:Far (wr) B A2 mm:=Far.piece (k:=a) hfw hPc (lR _) (by omega) hsg;have hml:mm.length≤64:=by omega
         have hsn:=Z1j (c:=mm) (s:=s) (D:=D) (l:=pre) (by rw [happ.out]);rw [happ.out] at hsn;obtain ⟨ec,E2,hap⟩: ∃ec E2,appD E s mm=(ec,E2):=⟨_,_,rfl⟩;have hsn2:Zn D s (pre++[mm])=(ec,E2):=by rw [hsn];exact hap
         have hKE2:OkW E2:=by have h1:=hK.preS his hsl hbw hch2;rw [hsn2] at h1;exact h1
         have cA: ∀j,Calls Tryz.prog 200 #[.pointer (some ⟨gr,0,none⟩),.string s,.slice A2 mm.length c2] (wr.drewN j) (RetR (wr.drewN j) gr (ec,E2)):=by rw [←hap];exact fun j=>Z17 (hE.drewN j) hKE s hsm B A2 mm c2 (hff.below ((bR _ _).drewN' j)) hB
         have hth:ec=0→(Z4 E2.l s).isSome=true∧E2.l=putF E.l s ((Z4 E.l s).getD []++mm):=by
          intro h9;have h10:=Z4x (D:=E) hKE.ord (s:=s) (c:=mm) (by rw [hap];exact h9);rw [hap] at h10;exact h10
         have hqp:q=0:=by omega
         have HCH:=qI hch2;have HSN:=qI hsn2;have HTH:=qI hth;have HAP:=qI hap;have HQ:=qI hqp;have jm3:a+q≤b.length:=by omega
         clear hmm hdd hch2 hsn hsn2 hth hap hnz hq hr em hPc hsg hqp;go_wp2_with ((go_at_call 125;(with_reducible refine HHs.out.mono ?_);rintro e w5 ⟨nq,rfl,rfl⟩));refine (cA _).mono ?_;rintro e w6 ⟨rfl,hE6,hg6⟩;have hg06:=Z6 (Z6 hg (Z5 ((bR _ _).drewN' nq) (some gr))) hg6
         by_cases he:ec=0
         ·obtain ⟨t1,t2⟩:=HTH.out he
          subst he;have T2:=qI t2;have T1:Hid ((Z4 E2.l s).isSome= !false):=t1;have hlen2:E2.l.length=E.l.length+(match Z4 E.l s with | none=>1 | some _=>0):=by rw [T2.out];exact Z3n _ _ _
          have hflag:E2.l.length=E.l.length+1:=by
           have h9:=hlk.out
           cases hx:Z4 E.l s with
           | none=>rw [hx] at hlen2;exact hlen2
           | some y=>rw [hx] at h9;cases h9
          have hEl3:=hEl2.out;have hE2l:E2.l.length≤D.l.length+1:=by
           have:=hEl3 (by simp);omega
          have hm9:=hmes hE6;have hm8:=hfo;have HM9:=qI hm9;have HM8:=qI hm8;have HFL:=qI hflag;clear t1 t2 hlen2 hflag hEl3 hm9 hm8;go_wp2_with fail;refine ⟨⟨a+q,E2,pre++[mm],false,by go_num,jm3,HSN.out,HCH.out,T1,(fun h=>by cases h),hE2l,qI (fun h=>by cases h),hE6,hg06⟩,?_⟩;have h8:=HM8.out;have h9:=HM9.out;have h7:=HFL.out;have h6:=HQ.out;simp only [intOf];omega
         ·have hz:(ec==0)=false:=beq_eq_false_iff_ne.2 he
          have HL:Hid (Z1q D s n b=(ec,E2)):=by
           have h9:Zn D s (Zf b)=(ec,E2):=by rw [HCH.out,Z1k (by rw [HSN.out];exact he),HSN.out]
           unfold Hid Z1q;rw [h9,if_pos he]
          clear he;go_wp2_with fail;go_ret;rw [HF.out,HTl.out,HL.out];exact ⟨rfl,hE6,hg06⟩
        ·have d2:decide ((a:Int)<(b.length:Int))=false:=qF (by omega)
         have d2n:decide (a<b.length)=false:=qF hat;subst hfi;have hall:Zn D s (Zf b)=(0,E):=by rw [hch.out,Z59 (by rw [List.length_drop];omega),List.append_nil];exact happ.out
         have hL:Z1q D s n b=if (ZM E s).1≠0 then ZM E s else renD (ZM E s).2 s n:=by unfold Z1q;rw [hall,if_neg (by simp)]
         have cS: ∀j,Calls Tryz.prog 201 #[.pointer (some ⟨gr,0,none⟩),.string s] (wr.drewN j) (RetR (wr.drewN j) gr (ZM E s)):=fun j=>Z4M (hE.drewN j) hKE s hsm (by have:=hKE.len;omega);have hKS:=hKE.sync s;obtain ⟨es,E3,hsy⟩: ∃es E3,ZM E s=(es,E3):=⟨_,_,rfl⟩;rw [hsy] at cS hKS hL;simp only at hKS hL;have HL0:=qI hL;clear hall hsy hL;go_wp2_with ((go_at_call 125;(with_reducible refine HHs.out.mono ?_);rintro e w5 ⟨nq,rfl,rfl⟩));refine (cS _).mono ?_;rintro e w6 ⟨rfl,hE6,hg6⟩;have hg06:=Z6 (Z6 hg (Z5 ((bR _ _).drewN' nq) (some gr))) hg6
         by_cases he:es=0
         ·have HL:Hid (Z1q D s n b=renD E3 s n):=by unfold Hid;rw [HL0.out,if_neg (by rw [he];simp)]
          subst he;have HRn:=qI (Z3B hE6 hKS s n hsm hnm);go_wp2_with fail;refine HRn.out.mono ?_;rintro e w7 ⟨rfl,hE7,hg7⟩;go_wp2_with fail;go_ret;rw [HF.out,HTl.out,HL.out];exact ⟨rfl,hE7,Z6 hg06 hg7⟩
         ·have hz:(es==0)=false:=beq_eq_false_iff_ne.2 he
          have HL:Hid (Z1q D s n b=(es,E3)):=by unfold Hid;rw [HL0.out,if_pos he]
          clear he;go_wp2_with fail;go_ret;rw [HF.out,HTl.out,HL.out];exact ⟨rfl,hE6,hg06⟩
     | true=>
      rw [his] at hHs;rw [his,if_pos rfl] at hF0;have HHs:=qI hHs;have hKr:=hK.rem s;obtain ⟨er,D1,hrm1⟩: ∃er D1,remD D s=(er,D1):=⟨_,_,rfl⟩;have cRm: ∀W,Rdk W gr D→Calls Tryz.prog 126 #[.pointer (some ⟨gr,0,none⟩),.string s] W (RetR W gr (er,D1)):=by rw [←hrm1];exact fun W h=>Z3A h hK s hsm (by omega)
      have hgone:er=0→(Z4 D1.l s).isSome=false∧D1.l.length+1≤3518437208880:=by
       intro h9;obtain ⟨h10,h11⟩:=Z5x hK.ord (n:=s) (by rw [hrm1];exact h9);rw [hrm1] at h10 h11;refine ⟨by rw [h10];rfl,?_⟩;rw [h11];have:=Z5w D.l s;omega
      rw [hrm1] at hF0 hKr;simp only at hF0 hKr;have HGN:=qI hgone;have HF0:=qI hF0;clear hHs hF0 hB1 hgone hrm1;go_in
      go_wp2_with (first
       | (go_at_call 136;(with_reducible refine HN2.out.mono ?_);rintro e z0 ⟨rfl,hz0⟩;obtain rfl:=hz0.symm)
       | (go_at_call 199;(with_reducible refine HS.out.mono ?_);rintro e z0 ⟨rfl,hz0⟩;obtain rfl:=hz0.symm))
      refine HHs.out.mono ?_;rintro e w2 ⟨nq,rfl,hw2⟩;have hb2:Below w.heap.size w w2:=by rw [hw2];exact (bR _ _).drewN' nq
      clear hw2;have hR2:=h.below hb2;have HRm:=qI (cRm _ hR2);clear cRm;go_wp2_with fail;refine HRm.out.mono ?_;rintro e w3 ⟨rfl,hR3,hg3⟩;have hg03:=Z6 (Z5 hb2 (some gr)) hg3
      by_cases he0:er=0
      ·obtain ⟨hl1,hsl1⟩:=HGN.out he0
       have HF:Hid (ZP D n b=Z1w D1 n b):=by unfold Hid;rw [HF0.out,if_neg (by rw [he0];simp)]
       subst he0;go_wp2_with fail;obtain ⟨fr,hfr⟩: ∃fr,fr=frD D1:=⟨_,rfl⟩;have hFr:=Zy hR3 ⟨hKr.cap0,hKr.cap1⟩ (by have:=hKr.len;omega);rw [←hfr] at hFr;have HFr:=qI hFr;obtain ⟨nd,hnd⟩: ∃nd,nd=16+((n.size:Int)+1)+max (b.length:Int) 0:=⟨_,rfl⟩;have hnd2:nd=16+((n.size:Int)+1)+(b.length:Int):=by rw [hnd];omega
       have cN: ∀W,Calls Tryz.prog 148 #[.string n,.int .i64 (b.length:Int)] W fun e w'=>e= .returned (.int .i64 nd)∧w'=W:=by rw [hnd];exact fun W=>Z4L n _ W (by omega) (by omega) (by omega)
       have hTl:Z1w D1 n b=if fr<nd then (4,D1) else Z1q D1 s n b:=by unfold Z1w;rw [Z7D,HSD.out,hfr,hnd2]
       clear hFr hnd hnd2 hfr
       by_cases hrm:fr<nd
       ·have d1:decide (fr<nd)=true:=dT hrm
        rw [if_pos hrm] at hTl;have HTl:=qI hTl;clear hTl hrm
        go_wp2_with (first
         | (go_at_call 138;(with_reducible refine HFr.out.mono ?_);rintro e w4 ⟨rfl,hR4,hb4⟩)
         | (go_at_call 148;(with_reducible refine (cN _).mono ?_);rintro e z0 ⟨rfl,hz0⟩;obtain rfl:=hz0.symm))
        go_ret;rw [HF.out,HTl.out];exact ⟨rfl,hR4,Z6 hg03 (Z5 hb4 _)⟩
       ·have d1:decide (fr<nd)=false:=qF hrm
        rw [if_neg hrm] at hTl;have HTl:=qI hTl;clear hTl hrm
        go_wp2_with (first
         | (go_at_call 138;(with_reducible refine HFr.out.mono ?_);rintro e w4 ⟨rfl,hR4,hb4⟩)
         | (go_at_call 148;(with_reducible refine (cN _).mono ?_);rintro e z0 ⟨rfl,hz0⟩;obtain rfl:=hz0.symm))
        have hg4:=Z6 hg03 (Z5 hb4 (some gr));have hbl:b.length≤140737488355264:=hbw;go_loopw [9] (fun i wr=>Zep D1 s b gr w i wr) (fun i wr=>2*(b.length-(intOf i).toNat)+(D1.l.length+1-Z4y gr wr))
        case atStart=>exact ⟨0,D1,[],true,rfl,zL _,rfl,rfl,hl1,fun _=>rfl,Nat.le_succ _,fun _=>rfl,hR4,hg4⟩
        case round=>
         clear hR4 hg4 hb4;obtain ⟨a,E,pre,first,rfl,ha,happ,hch,hlk,hf0,hEl,hEl2,hE,hg⟩:=hrel;have hKE:OkW E:=by have h1:=hKr.preS hl1 hsl1 hbw hch.out;rw [happ.out] at h1;exact h1
         have hfw:=hfb.keep hg hO;have hHs:=ZT hE s (by have:=hKE.len;omega);rw [hlk.out] at hHs;have HHs:=qI hHs;have hfo:=hE.files;have hmes: ∀{w9:World} {E9:Dk},Rdk w9 gr E9→Z4y gr w9=E9.l.length:=fun h=>h.files;clear hHs hf0;have hway:a<b.length∨(¬a<b.length∧first=true)∨(¬a<b.length∧first=false):=by cases first<;>by_cases h9:a<b.length<;>simp [h9]
         rcases hway with hat | ⟨hat,hfi⟩ | ⟨hat,hfi⟩
         ·have d2:decide ((a:Int)<(b.length:Int))=true:=dT (by omega)
          have d2n:decide (a<b.length)=true:=dT hat;have hnz:first=true∨0<(b.drop a).length:=.inr (by rw [List.length_drop];omega);obtain ⟨r,hr⟩: ∃r:Nat,r=b.length-a:=⟨_,rfl⟩;obtain ⟨q,hq⟩: ∃q:Nat,q=min 64 r:=⟨_,rfl⟩;have g1:IntKind.i64.wrap ((b.length:Int)-(a:Int))=(r:Int):=by rw [qJ _ (by omega)];omega
          have g2:min (64:Int) (r:Int)=(q:Int):=by omega
          have g3:IntKind.i64.wrap ((a:Int)+(q:Int))=(a:Int)+(q:Int):=qJ _ (by omega);obtain ⟨mm,A2,c2,em,jm,jm2,hPc,_,hsg,_,hslc⟩:=Z9W (lo:=a) (hi:=a+q) (a:Int) ((a:Int)+(q:Int)) rfl (by omega) hfw.1 (by omega) (by omega) hcl hcm;have hmm:mm=(b.drop a).take 64:=by
           rw [em.out,show a+q-a=q by omega,hq]
           by_cases h9:r≤64
           ·rw [Nat.min_eq_right h9,List.take_of_length_le (by rw [List.length_drop];omega),List.take_of_length_le (by rw [List.length_drop];omega)]
           ·rw [Nat.min_eq_left (by omega)]
          have hdd:(b.drop a).drop 64=b.drop (a+q):=by
           rw [List.drop_drop]
           by_cases h9:r≤64
           ·rw [List.drop_eq_nil_of_le (by omega),List.drop_eq_nil_of_le (by omega)]
           ·rw [show a+64=a+q by omega]
          have hch2:Zf b=(pre++[mm])++Z1a false (b.drop (a+q)):=by rw [hch.out,Z1X hnz,←hmm,hdd,List.append_assoc];rfl
          have hff:Far (wr) B A2 mm:=Far.piece (k:=a) hfw hPc (lR _) (by omega) hsg;have hml:mm.length≤64:=by omega
          have hsn:=Z1j (c:=mm) (s:=s) (D:=D1) (l:=pre) (by rw [happ.out]);rw [happ.out] at hsn;obtain ⟨ec,E2,hap⟩: ∃ec E2,appD E s mm=(ec,E2):=⟨_,_,rfl⟩;have hsn2:Zn D1 s (pre++[mm])=(ec,E2):=by rw [hsn];exact hap
          have hKE2:OkW E2:=by have h1:=hKr.preS hl1 hsl1 hbw hch2;rw [hsn2] at h1;exact h1
          have cA:Calls Tryz.prog 200 #[.pointer (some ⟨gr,0,none⟩),.string s,.slice A2 mm.length c2] wr (RetR wr gr (ec,E2)):=by rw [←hap];exact Z17 hE hKE s hsm B A2 mm c2 hff hB
          have hth:ec=0→(Z4 E2.l s).isSome=true∧E2.l=putF E.l s ((Z4 E.l s).getD []++mm):=by
           intro h9;have h10:=Z4x (D:=E) hKE.ord (s:=s) (c:=mm) (by rw [hap];exact h9);rw [hap] at h10;exact h10
          have hqp:0<q:=by omega
          have HCH:=qI hch2;have HSN:=qI hsn2;have HTH:=qI hth;have HAP:=qI hap;have jm3:a+q≤b.length:=by omega
          clear hmm hdd hch2 hsn hsn2 hth hap hnz hq hr em hPc hsg;have HcA:=qI cA;clear cA;go_wp2_with fail;refine HcA.out.mono ?_;rintro e w6 ⟨rfl,hE6,hg6⟩;have hg06:=Z6 hg hg6
          by_cases he:ec=0
          ·obtain ⟨t1,t2⟩:=HTH.out he
           subst he;have T2:=qI t2;have T1:Hid ((Z4 E2.l s).isSome= !false):=t1;have hlen2:E2.l.length=E.l.length+(match Z4 E.l s with | none=>1 | some _=>0):=by rw [T2.out];exact Z3n _ _ _
           have hflag:(first=false→E2.l.length=E.l.length)∧(first=true→E2.l.length=E.l.length+1):=by
            have h9:=hlk.out
            cases hx:Z4 E.l s with
            | none=>
             rw [hx] at h9 hlen2
             cases first with
             | true=>exact ⟨(fun h=>by cases h),fun _=>hlen2⟩
             | false=>cases h9
            | some y=>
             rw [hx] at h9 hlen2
             cases first with
             | true=>cases h9
             | false=>exact ⟨fun _=>hlen2,(fun h=>by cases h)⟩
           have hEl3:=hEl2.out;have hE2l:E2.l.length≤D1.l.length+1:=by
            cases first with
            | true=>have:=hEl3 (by simp);have:=hflag.2 rfl;omega
            | false=>have:=hflag.1 rfl;omega
           have hm9:=hmes hE6;have hm8:=hfo;have hle9:E.l.length≤E2.l.length:=by
            cases first with
            | true=>have:=hflag.2 rfl;omega
            | false=>have:=hflag.1 rfl;omega
           have HM9:=qI hm9;have HM8:=qI hm8;clear t1 t2 hlen2 hflag hEl3 hm9 hm8;go_wp2_with fail;refine ⟨⟨a+q,E2,pre++[mm],false,by go_num,jm3,HSN.out,HCH.out,T1,(fun h=>by cases h),hE2l,qI (fun h=>by cases h),hE6,hg06⟩,?_⟩;have h8:=HM8.out;have h9:=HM9.out;simp only [intOf];omega
          ·have hz:(ec==0)=false:=beq_eq_false_iff_ne.2 he
           have HL:Hid (Z1q D1 s n b=(ec,E2)):=by
            have h9:Zn D1 s (Zf b)=(ec,E2):=by rw [HCH.out,Z1k (by rw [HSN.out];exact he),HSN.out]
            unfold Hid Z1q;rw [h9,if_pos he]
           clear he;go_wp2_with fail;go_ret;rw [HF.out,HTl.out,HL.out];exact ⟨rfl,hE6,hg06⟩
         ·have d2:decide ((a:Int)<(b.length:Int))=false:=qF (by omega)
          have d2n:decide (a<b.length)=false:=qF hat;subst hfi;have hnz:true=true∨0<(b.drop a).length:=.inl rfl;obtain ⟨r,hr⟩: ∃r:Nat,r=b.length-a:=⟨_,rfl⟩;obtain ⟨q,hq⟩: ∃q:Nat,q=min 64 r:=⟨_,rfl⟩;have g1:IntKind.i64.wrap ((b.length:Int)-(a:Int))=(r:Int):=by rw [qJ _ (by omega)];omega
          have g2:min (64:Int) (r:Int)=(q:Int):=by omega
          have g3:IntKind.i64.wrap ((a:Int)+(q:Int))=(a:Int)+(q:Int):=qJ _ (by omega);obtain ⟨mm,A2,c2,em,jm,jm2,hPc,_,hsg,_,hslc⟩:=Z9W (lo:=a) (hi:=a+q) (a:Int) ((a:Int)+(q:Int)) rfl (by omega) hfw.1 (by omega) (by omega) hcl hcm;have hmm:mm=(b.drop a).take 64:=by
           rw [em.out,show a+q-a=q by omega,hq]
           by_cases h9:r≤64
           ·rw [Nat.min_eq_right h9,List.take_of_length_le (by rw [List.length_drop];omega),List.take_of_length_le (by rw [List.length_drop];omega)]
           ·rw [Nat.min_eq_left (by omega)]
          have hdd:(b.drop a).drop 64=b.drop (a+q):=by
           rw [List.drop_drop]
           by_cases h9:r≤64
           ·rw [List.drop_eq_nil_of_le (by omega),List.drop_eq_nil_of_le (by omega)]
           ·rw [show a+64=a+q by omega]
          have hch2:Zf b=(pre++[mm])++Z1a false (b.drop (a+q)):=by rw [hch.out,Z1X hnz,←hmm,hdd,List.append_assoc];rfl
          have hff:Far (wr) B A2 mm:=Far.piece (k:=a) hfw hPc (lR _) (by omega) hsg;have hml:mm.length≤64:=by omega
          have hsn:=Z1j (c:=mm) (s:=s) (D:=D1) (l:=pre) (by rw [happ.out]);rw [happ.out] at hsn;obtain ⟨ec,E2,hap⟩: ∃ec E2,appD E s mm=(ec,E2):=⟨_,_,rfl⟩;have hsn2:Zn D1 s (pre++[mm])=(ec,E2):=by rw [hsn];exact hap
          have hKE2:OkW E2:=by have h1:=hKr.preS hl1 hsl1 hbw hch2;rw [hsn2] at h1;exact h1
          have cA: ∀j,Calls Tryz.prog 200 #[.pointer (some ⟨gr,0,none⟩),.string s,.slice A2 mm.length c2] (wr.drewN j) (RetR (wr.drewN j) gr (ec,E2)):=by rw [←hap];exact fun j=>Z17 (hE.drewN j) hKE s hsm B A2 mm c2 (hff.below ((bR _ _).drewN' j)) hB
          have hth:ec=0→(Z4 E2.l s).isSome=true∧E2.l=putF E.l s ((Z4 E.l s).getD []++mm):=by
           intro h9;have h10:=Z4x (D:=E) hKE.ord (s:=s) (c:=mm) (by rw [hap];exact h9);rw [hap] at h10;exact h10
          have hqp:q=0:=by omega
          have HCH:=qI hch2;have HSN:=qI hsn2;have HTH:=qI hth;have HAP:=qI hap;have HQ:=qI hqp;have jm3:a+q≤b.length:=by omega
          clear hmm hdd hch2 hsn hsn2 hth hap hnz hq hr em hPc hsg hqp;go_wp2_with ((go_at_call 125;(with_reducible refine HHs.out.mono ?_);rintro e w5 ⟨nq,rfl,rfl⟩));refine (cA _).mono ?_;rintro e w6 ⟨rfl,hE6,hg6⟩;have hg06:=Z6 (Z6 hg (Z5 ((bR _ _).drewN' nq) (some gr))) hg6
          by_cases he:ec=0
          ·obtain ⟨t1,t2⟩:=HTH.out he
           subst he;have T2:=qI t2;have T1:Hid ((Z4 E2.l s).isSome= !false):=t1;have hlen2:E2.l.length=E.l.length+(match Z4 E.l s with | none=>1 | some _=>0):=by rw [T2.out];exact Z3n _ _ _
           have hflag:E2.l.length=E.l.length+1:=by
            have h9:=hlk.out
            cases hx:Z4 E.l s with
            | none=>rw [hx] at hlen2;exact hlen2
            | some y=>rw [hx] at h9;cases h9
           have hEl3:=hEl2.out;have hE2l:E2.l.length≤D1.l.length+1:=by
            have:=hEl3 (by simp);omega
           have hm9:=hmes hE6;have hm8:=hfo;have HM9:=qI hm9;have HM8:=qI hm8;have HFL:=qI hflag;clear t1 t2 hlen2 hflag hEl3 hm9 hm8;go_wp2_with fail;refine ⟨⟨a+q,E2,pre++[mm],false,by go_num,jm3,HSN.out,HCH.out,T1,(fun h=>by cases h),hE2l,qI (fun h=>by cases h),hE6,hg06⟩,?_⟩;have h8:=HM8.out;have h9:=HM9.out;have h7:=HFL.out;have h6:=HQ.out;simp only [intOf];omega
          ·have hz:(ec==0)=false:=beq_eq_false_iff_ne.2 he
           have HL:Hid (Z1q D1 s n b=(ec,E2)):=by
            have h9:Zn D1 s (Zf b)=(ec,E2):=by rw [HCH.out,Z1k (by rw [HSN.out];exact he),HSN.out]
            unfold Hid Z1q;rw [h9,if_pos he]
           clear he;go_wp2_with fail;go_ret;rw [HF.out,HTl.out,HL.out];exact ⟨rfl,hE6,hg06⟩
         ·have d2:decide ((a:Int)<(b.length:Int))=false:=qF (by omega)
          have d2n:decide (a<b.length)=false:=qF hat;subst hfi;have hall:Zn D1 s (Zf b)=(0,E):=by rw [hch.out,Z59 (by rw [List.length_drop];omega),List.append_nil];exact happ.out
          have hL:Z1q D1 s n b=if (ZM E s).1≠0 then ZM E s else renD (ZM E s).2 s n:=by unfold Z1q;rw [hall,if_neg (by simp)]
          have cS: ∀j,Calls Tryz.prog 201 #[.pointer (some ⟨gr,0,none⟩),.string s] (wr.drewN j) (RetR (wr.drewN j) gr (ZM E s)):=fun j=>Z4M (hE.drewN j) hKE s hsm (by have:=hKE.len;omega);have hKS:=hKE.sync s;obtain ⟨es,E3,hsy⟩: ∃es E3,ZM E s=(es,E3):=⟨_,_,rfl⟩;rw [hsy] at cS hKS hL;simp only at hKS hL;have HL0:=qI hL;clear hall hsy hL;go_wp2_with ((go_at_call 125;(with_reducible refine HHs.out.mono ?_);rintro e w5 ⟨nq,rfl,rfl⟩));refine (cS _).mono ?_;rintro e w6 ⟨rfl,hE6,hg6⟩;have hg06:=Z6 (Z6 hg (Z5 ((bR _ _).drewN' nq) (some gr))) hg6
          by_cases he:es=0
          ·have HL:Hid (Z1q D1 s n b=renD E3 s n):=by unfold Hid;rw [HL0.out,if_neg (by rw [he];simp)]
           subst he;have HRn:=qI (Z3B hE6 hKS s n hsm hnm);go_wp2_with fail;refine HRn.out.mono ?_;rintro e w7 ⟨rfl,hE7,hg7⟩;go_wp2_with fail;go_ret;rw [HF.out,HTl.out,HL.out];exact ⟨rfl,hE7,Z6 hg06 hg7⟩
          ·have hz:(es==0)=false:=beq_eq_false_iff_ne.2 he
           have HL:Hid (Z1q D1 s n b=(es,E3)):=by unfold Hid;rw [HL0.out,if_pos he]
           clear he;go_wp2_with fail;go_ret;rw [HF.out,HTl.out,HL.out];exact ⟨rfl,hE6,hg06⟩
      ·have hz:(er==0)=false:=beq_eq_false_iff_ne.2 he0
       have HF:Hid (ZP D n b=(er,D1)):=by unfold Hid;rw [HF0.out,if_pos he0]
       clear he0;go_wp2_with fail;go_ret;rw [HF.out];exact ⟨rfl,hR3,hg03⟩
end
end Go.Proofs.YtecpbcmpncgokaaGreat
set_option linter.unusedVariables false
namespace Go.Proofs.YtecpbcmpncgokaaGreat
open Go.RowKit Go.Dol
set_option maxRecDepth 100000 in
set_option maxHeartbeats 4000000 in
theorem Zb8 (A:OA) (l:LU) (c:Nat) (most:Int) (w:World) (hr:Rd w w.heap.size 1 A l.length (bc l)) (hl:l.length≤140737488355328) (hc:l.length≤c) (hm:most≤70368744177664):
  Calls Tryz.prog 122 #[.slice A l.length c,.int .i64 most] w (ZaZ w (Z1v l most)):=by
 obtain ⟨r,hre⟩: ∃r,r=Z1v l most:=⟨_,rfl⟩;rw [←hre];have HR:=qI hre;clear hre;go_in;go_wp2_with fail;refine (ZH A l c w hr hl hc).mono ?_;intro e w1 h1;rcases ht:Z7 l with _ | ⟨size,q⟩
 ·rw [ht] at h1
  obtain ⟨rfl,hb1⟩:=h1;have hn:Hid (r=none):=by unfold Hid;rw [HR.out,Z1v,ht]
  clear ht;go_wp2_with fail;go_ret2;rw [hn.out];exact ⟨rfl,hb1⟩
 rw [ht] at h1;obtain ⟨q1,A1,c1,e1,rfl,ho1,hb1,i1,i2⟩:=h1;have hql:q1.length<l.length:=by rw [e1.out];exact ZF ht
 by_cases hbig:most<(size:Int)
 ·have hn:Hid (r=none):=by
   unfold Hid;rw [HR.out,Z1v,ht];simp only;rw [if_neg (by omega)]
  clear ht;go_wp2_with fail;go_ret2;rw [hn.out];exact ⟨rfl,hb1⟩
 have hgo:Hid (r=ZO size [] q1):=by
  unfold Hid;rw [HR.out,Z1v,ht,e1.out];simp only;rw [if_pos (by omega)]
 have hsm:size≤70368744177664:=by omega
 clear ht;go_wp2_with fail;go_loopw [0,8] (fun p out wr=>Zfs size r w p out wr) (fun p _ _=>lenV p)
 case atStart=>
  exact ⟨q1,[],A1,none,c1,0,rfl,rfl,hgo,zL _,by omega,Seg.of_own ho1,⟨by simp [bc],.inl ⟨rfl,rfl⟩⟩,Apart.nil _ _,hb1⟩
 case round=>
  clear ho1 hb1 hgo e1 hql;obtain ⟨p,o,Ap,Ao,cp,co,rfl,rfl,hgo,hos,hpl,hseg,hown,hap,hbel⟩:=hrel;have hs:=hbel.size;have hol:=Z3w hown;have hpc:=hseg.2.1;rcases Nat.eq_zero_or_pos p.length with hp0 | hp0
  ·have hpe:p=[]:=nZ hp0
   have HP:=qI hp0;have hpi: ¬((0:Int)<(p.length:Int)):=by omega
   have hpd:decide (0<p.length)=false:=by simp;omega
   by_cases hfin:o.length=size
   ·have hq:Hid (r=some o):=by unfold Hid;rw [hgo.out,hpe,Z2t,if_pos hfin]
    have HF:=qI hfin;have hne:((o.length:Int)!=(size:Int))=false:=by simp;omega
    clear hpe hfin hp0;go_wp2_with fail;go_ret2;rw [hq.out];exact ⟨o,Ao,co,rfl,rfl,hown,hbel,hol.1,hol.2⟩
   ·have hq:Hid (r=none):=by unfold Hid;rw [hgo.out,hpe,Z2t,if_neg hfin]
    have HF:=qI hfin;have hne:((o.length:Int)!=(size:Int))=true:=by simp;omega
    clear hpe hfin hp0;go_wp2_with fail;go_ret2;rw [hq.out];exact ⟨rfl,hbel⟩
  ·have hpi:(0:Int)<(p.length:Int):=by omega
   have hpne:Hid (p≠[]):=fun h=>by rw [h] at hp0;simp at hp0
   go_wp2_with fail;refine (ZH Ap p cp wr hseg.rd hpl hpc).mono ?_;intro e w2 h2;rcases ht:Z7 p with _ | ⟨t,q⟩
   ·rw [ht] at h2
    obtain ⟨rfl,hb2⟩:=h2;have hn:Hid (r=none):=by unfold Hid;rw [hgo.out,Z6s hpne.out ht]
    clear ht;go_wp2_with fail;go_ret2;rw [hn.out];exact ⟨rfl,hbel.trans (hb2.mono hs)⟩
   rw [ht] at h2;obtain ⟨q2,A2,c2,e2,rfl,ho2,hb2,j1,j2⟩:=h2;have hql:q2.length<p.length:=by rw [e2.out];exact ZF ht
   have htm:t≤4611686018427387903:=(ZC ht).2;have HT:=qI ht;have hs2:=hb2.size;have hown2:=Zh hown hb2;have hap2:Apart A2 c2 (.slice Ao o.length co):=Apart.new hown (Seg.of_own ho2) (lR _);have hbel2:Below w.heap.size w w2:=hbel.trans (hb2.mono hs);clear ht hap hseg hown;obtain ⟨y,hy⟩: ∃y,y=t/2:=⟨_,rfl⟩;have hyi:(t:Int)/2=(y:Int):=by omega
   have hyq:(t:Int).tdiv 2=(y:Int):=by rw [Int.tdiv_eq_ediv_of_nonneg (by omega)];exact hyi
   have HY:=qI hy;have hyb:y≤2305843009213693951:=by omega
   clear hy
   by_cases hev:t%2=0
   ·have hm0:(t:Int)%2=0:=by omega
    have hm1:(t:Int).tmod 2=0:=by rw [Int.tmod_eq_emod_of_nonneg (by omega)];exact hm0
    have hrun:Hid (r=if y+1≤size-o.length∧y+1≤q2.length then ZO size (o++q2.take (y+1)) (q2.drop (y+1)) else none):=by
     unfold Hid;rw [hgo.out,Z56 HT.out hev,←HY.out,e2.out]
    have HEV:=qI hev;clear hev
    by_cases hroom:y+1≤size-o.length
    ·have hri:(y:Int)+1≤(size:Int)-(o.length:Int):=by omega
     by_cases hfit:y+1≤q2.length
     ·rw [if_pos ⟨hroom,hfit⟩] at hrun
      have hfi:(y:Int)+1≤(q2.length:Int):=by omega
      go_wp2_with (at_builtin;refine app8 rfl (.tmp 63) (.tmp 66) rfl w.heap.size _ o.length o rfl hown2 w2.heap.size A2 (y+1) c2 (q2.take (y+1)) rfl ((Rd.of_own ho2).head (l:=q2) hfit) (by omega) (by omega) ?_);intro o3 Ao3 co3 w3 e3 ho3 hb3 hg3 hw3 j3 j4;have ho3l:Hid (o3.length=o.length+(y+1)):=by unfold Hid;rw [e3.out,List.length_append,List.length_take];omega
      have hseg2:=Seg.of_own ho2;have hseg3:=(hseg2.keepR hg3 hap2).lower (base':=w.heap.size) hs;have hap3:Apart A2 c2 (.slice Ao3 o3.length co3):=hap2.app hseg2 (lR _) hw3.out;have htl:=hseg3.tail8 hfit;have hbel3:=hbel2.trans hb3;have hr3:Hid (r=ZO size o3 (q2.drop (y+1))):=by unfold Hid;rw [hrun.out,e3.out]
      have hdl:Hid ((q2.drop (y+1)).length=q2.length-(y+1)):=by unfold Hid;simp
      by_cases hcc:c2=y+1
      ·rw [if_pos hcc] at htl
       have HCC:=qI hcc;go_wp2_with fail;rw [←hdl.out] at htl ⊢;have hz:c2-(y+1)=0:=by have:=HCC.out;omega
       rw [hz] at htl;refine ⟨⟨q2.drop (y+1),o3,A2,Ao3,0,co3,rfl,rfl,hr3,by rw [ho3l.out];omega,by rw [hdl.out];omega,htl,ho3,hap3.piece (by omega) rfl,hbel3⟩,?_⟩;show (q2.drop (y+1)).length<p.length
       rw [hdl.out];omega
      ·rw [if_neg hcc,Z95] at htl
       have HCC:=qI hcc;go_wp2_with fail;rw [←hdl.out] at htl ⊢;refine ⟨⟨q2.drop (y+1),o3,_,Ao3,c2-(y+1),co3,rfl,rfl,hr3,by rw [ho3l.out];omega,by rw [hdl.out];omega,htl,ho3,hap3.piece (by omega) (by rw [←Z95,Z2e]),hbel3⟩,?_⟩;show (q2.drop (y+1)).length<p.length
       rw [hdl.out];omega
     ·rw [if_neg (fun hh=>hfit hh.2)] at hrun
      have hfi: ¬((y:Int)+1≤(q2.length:Int)):=by omega
      go_wp2_with fail;go_ret2;rw [hrun.out];exact ⟨rfl,hbel2⟩
    ·rw [if_neg (fun hh=>hroom hh.1)] at hrun
     have hri: ¬((y:Int)+1≤(size:Int)-(o.length:Int)):=by omega
     go_wp2_with fail;go_ret2;rw [hrun.out];exact ⟨rfl,hbel2⟩
   ·have hm0:(t:Int)%2=1:=by omega
    have hm1:(t:Int).tmod 2=1:=by rw [Int.tmod_eq_emod_of_nonneg (by omega)];exact hm0
    have hod:Hid (t%2=1):=by unfold Hid;omega
    clear hev
    by_cases hroom:y+4≤size-o.length
    ·have hri:(y:Int)+4≤(size:Int)-(o.length:Int):=by omega
     go_wp2_with fail;refine (ZH A2 q2 c2 w2 (Rd.of_own ho2) (by omega) j1).mono ?_;intro e w3 h3;rcases ht:Z7 q2 with _ | ⟨d,q⟩
     ·rw [ht] at h3
      obtain ⟨rfl,hb3⟩:=h3;have hn:Hid (r=none):=by unfold Hid;rw [hgo.out,Z1H HT.out hod.out (by rw [←e2.out];exact ht)]
      clear ht;go_wp2_with fail;go_ret2;rw [hn.out];exact ⟨rfl,hbel2.trans (hb3.mono (lT hs hs2))⟩
     rw [ht] at h3;obtain ⟨q3,A3,c3,e3,rfl,ho3,hb3,j3,j4⟩:=h3;have hql3:q3.length<q2.length:=by rw [e3.out];exact ZF ht
     have hdm:d≤4611686018427387903:=(ZC ht).2;have hcp:Hid (r=if y+4≤size-o.length∧y+4≤259∧1≤d∧d≤o.length∧d≤4096 then ZO size (Z0W o d (y+4)) q3 else none):=by
      unfold Hid;rw [hgo.out,Z1W HT.out hod.out (by rw [←e2.out];exact ht),←HY.out,e3.out]
     have hs3:=hb3.size;have hbel3:=hbel2.trans (hb3.mono (lT hs hs2));have hown3:=Zh hown2 hb3;have hap3:Apart A3 c3 (.slice Ao o.length co):=Apart.new hown2 (Seg.of_own ho3) (lR _);have hseg3:=(Seg.of_own ho3).lower (base':=w.heap.size) (lT hs hs2);clear ht hown2 hap2 ho2;have hbad: ¬(y+4≤259∧1≤d∧d≤o.length∧d≤4096)→Hid (r=none):=fun hh=>by
      unfold Hid;rw [hcp.out,if_neg (fun h=>hh h.2)]
     have HB:=qI hbad;clear hbad
     by_cases g1:y+4≤259
     ·have g1i:(y:Int)+4≤259:=by omega
      by_cases g2:1≤d
      ·have g2i: ¬((d:Int)<1):=by omega
       have g2d:decide ((d:Int)<1)=false:=by simp;omega
       by_cases g3:d≤o.length
       ·have g3i: ¬((o.length:Int)<(d:Int)):=by omega
        have g3d:decide (o.length<d)=false:=by simp;omega
        by_cases g4:d≤4096
        ·have g4i: ¬((4096:Int)<(d:Int)):=by omega
         have g4d:decide ((4096:Int)<(d:Int))=false:=by simp;omega
         rw [if_pos ⟨hroom,g1,g2,g3,g4⟩] at hcp;go_wp2_with fail;go_loopw [8,15] (fun out k wr=>Zft o d (y+4) A3 c3 q3 w out k wr) (fun _ k _=>260-(intOf k).toNat)
         case atStart=>exact ⟨0,o,Ao,co,rfl,rfl,zL _,rfl,rfl,hseg3,hown3,hap3,hbel3⟩
         case round=>
          clear hseg3 hown3 hap3 hbel3 ho3 hb3 hs3;obtain ⟨m,o4,Ao4,co4,rfl,rfl,hm4,hcpy,ho4l,hseg4,hown4,hap4,hbel4⟩:=hrel;have hs4:=hbel4.size;have ho4b:o4.length≤o.length+m:=by have:=ho4l.out;omega
          have ho4c:o.length+m≤o4.length:=by have:=ho4l.out;omega
          by_cases hlt:m<y+4
          ·have hlti:(m:Int)<(y:Int)+4:=by omega
           have hdo:o4.length-d<o4.length:=by omega
           obtain ⟨bo,offo,rfl,hbo,hcell⟩:=(Rd.of_own hown4).at_ (by omega);have hcx:=hcell (o4.length-d) _ (Z09 o4 (o4.length-d) hdo);obtain ⟨x,hx⟩: ∃x,x=(o4[o4.length-d]).toNat:=⟨_,rfl⟩;have hx256:x<256:=by have:=(o4[o4.length-d]).toNat_lt;omega
           rw [←hx] at hcx;have f1:IntKind.i64.wrap ((o4.length:Int)-(d:Int))=(o4.length:Int)-(d:Int):=qJ _ (by omega);have f2:((o4.length:Int)-(d:Int)).toNat=o4.length-d:=by omega
           have f3:(0:Int)≤(o4.length:Int)-(d:Int):=by omega
           have f4:(o4.length:Int)-(d:Int)<(o4.length:Int):=by omega
           have hgd:o4.getD (o4.length-d) 0=UInt8.ofNat x:=by
            rw [List.getD_eq_getElem?_getD,gE hdo,hx];simp
           have HG:=qI hgd;clear hx hgd hcell;go_wp2_with (at_builtin;refine Z1y rfl (.tmp 103) (.tmp 111) rfl w.heap.size _ o4.length o4 rfl hown4 rfl (by omega) (by omega) (by omega) hs4 ?_);intro b5 o5 Ao5 co5 w5 eb e5 ho5 hb5 hg5 hw5 j5 j6;go_wp2_with fail;have hcpy':Hid (Z0W o d (y+4)=Z0W o5 d (y+4-(m+1))):=by
            have hb':b5=UInt8.ofNat x:=Z0F eb rfl;unfold Hid;rw [hcpy.out,show y+4-m=(y+4-(m+1))+1 by omega,Z0W,HG.out,e5.out,hb']
           have ho5l:Hid (o5.length=o.length+(m+1)):=by unfold Hid;rw [e5.out,List.length_append,ho4l.out];rfl
           exact ⟨⟨m+1,o5,Ao5,co5,rfl,by go_num,by omega,hcpy',ho5l,hseg4.keepR hg5 hap4,ho5,hap4.app hseg4 (Nat.le_succ _) hw5.out,hbel4.trans hb5⟩,by simp [intOf];omega⟩
          ·have hlti: ¬((m:Int)<(y:Int)+4):=by omega
           have hmy:m=y+4:=by omega
           have hfin:Hid (r=ZO size o4 q3):=by
            unfold Hid;rw [hcp.out,hcpy.out,hmy,Nat.sub_self]
            rfl
           have HM:=qI hmy;have ho4z:o4.length≤size:=by omega
           clear hmy;go_wp2_with fail;exact ⟨⟨q3,o4,A3,Ao4,c3,co4,rfl,rfl,hfin,ho4z,by omega,hseg4,hown4,hap4,hbel4⟩,by show q3.length<p.length;omega⟩
        ·have g4i:(4096:Int)<(d:Int):=by omega
         have hn:=HB.out (fun h=>g4 h.2.2.2);go_wp2_with fail;go_ret2;rw [hn.out];exact ⟨rfl,hbel3⟩
       ·have g3i:(o.length:Int)<(d:Int):=by omega
        have hn:=HB.out (fun h=>g3 h.2.2.1);go_wp2_with fail;go_ret2;rw [hn.out];exact ⟨rfl,hbel3⟩
      ·have g2i:(d:Int)<1:=by omega
       have hn:=HB.out (fun h=>g2 h.2.1);go_wp2_with fail;go_ret2;rw [hn.out];exact ⟨rfl,hbel3⟩
     ·have g1i: ¬((y:Int)+4≤259):=by omega
      have hn:=HB.out (fun h=>g1 h.1);go_wp2_with fail;go_ret2;rw [hn.out];exact ⟨rfl,hbel3⟩
    ·have hri: ¬((y:Int)+4≤(size:Int)-(o.length:Int)):=by omega
     have hn:Hid (r=none):=by unfold Hid;rw [hgo.out,Z6L HT.out hod.out (by rw [←HY.out];omega)]
     go_wp2_with fail;go_ret2;rw [hn.out];exact ⟨rfl,hbel2⟩
end Go.Proofs.YtecpbcmpncgokaaGreat
