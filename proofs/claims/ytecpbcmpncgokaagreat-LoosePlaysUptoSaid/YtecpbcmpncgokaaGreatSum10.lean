/- The walks of the layer 'sum', its seventh part: digits. Conditions: bytes that are made fit 2^47. What only some chapters reach of the text XSumB. The walks of the layer 'sum', its tenth part: bytes of digits, as the document says. Conditions: bytes that are made fit 2^47. -/
import Derived.Test.YtecpbcmpncgokaaGreatSumA
import Derived.Deep.RegionLaw
import Derived.Deep.QuietTactic
import Derived.BigQuiet
import Derived.Test.YtecpbcmpncgokaaGreatWordsA
import Derived.Test.YtecpbcmpncgokaaGreatShort
set_option maxRecDepth 100000
set_option maxHeartbeats 2000000
set_option linter.unusedVariables false
namespace Go.Dol
open Go.RowKit
def dig (n:Nat):UInt8:=if n<10 then UInt8.ofNat (48+n) else UInt8.ofNat (87+n)
def Z1x (l:LU):LU:=l.flatMap fun c=>[dig (c.toNat/16),dig (c.toNat%16)]
theorem Z0T (l:LU):(Z1x l).length=2*l.length:=by
 induction l with
 | nil=>rfl
 | cons x l ih=>unfold Z1x at ih ⊢; rw [List.flatMap_cons,List.length_append,ih,List.length_cons];simp;omega
theorem Z7P (l:LU) (c:UInt8):Z1x (l++[c])=Z1x l++[dig (c.toNat/16),dig (c.toNat%16)]:=by
 unfold Z1x;rw [List.flatMap_append];simp
theorem Rd.two (w:World) (T:TypeId) (x y:UInt8):Rd (w.alloc (.cells #[.int .u8 x.toNat,.int .u8 y.toNat] T)) (w.heap.size+1) 1 (some ⟨w.heap.size,0,none⟩) 2 (bc [x,y]):=by
 refine ⟨by simp [bc],fun _=>⟨w.heap.size,0,rfl,by omega,fun j u hu=> ?_⟩⟩;have hj:j<2:=by have:=(List.getElem?_eq_some_iff.1 hu).1;simpa [bc] using this
 have hc:=cell_of_row (w.alloc (.cells #[.int .u8 x.toNat,.int .u8 y.toNat] T)) w.heap.size (0+j) #[.int .u8 x.toNat,.int .u8 y.toNat] T (0,0) (heap_alloc_new w _);rw [hc,Nat.zero_add];simpa [bc] using hu
end Go.Dol
namespace Go.Proofs.YtecpbcmpncgokaaGreat
open Go.RowKit Go.Dol
theorem Z30 (k:Nat) (hk:k<16): ∀h:k<(⟨#[48,49,50,51,52,53,54,55,56,57,97,98,99,100,101,102]⟩:BA).size,(⟨#[48,49,50,51,52,53,54,55,56,57,97,98,99,100,101,102]⟩:BA)[k]'h=dig k:=by
 intro h;have h': ∀i:Fin 16,(⟨#[48,49,50,51,52,53,54,55,56,57,97,98,99,100,101,102]⟩:BA)[i.val]?=some (dig i.val):=by decide
 have h1:=h' ⟨k,hk⟩;simp only at h1;rw [getElem?_pos _ k h] at h1;injection h1
theorem ZeL {w:World} {ops:Array Oper} {o:Oper} {a:Act} {K:Act→World→Prop} {Q:Exit→Act→World→Prop} {E:Prop} (hgd:o.guard=none) (s x:Operand)
  (ho:o.op= .call { callee:=.builtin .append,args:=#[s,x],argTypes:=#[36,36] })
  (base:Nat) (v:Value) (n:Nat) (xs:LU) (hs:a.eval s=v) (hown:w.ownsRow base 5 1 v n (bc xs))
  (B:Nat) (A:OA) (m c:Nat) (news:LU) (hx:a.eval x= .slice A m c) (hr:Rd w B 1 A m (bc news))
  (hlen:n+m≤140737488355328) (hbase:base≤w.heap.size)
  (h: ∀(l':LU) (A':OA) (c':Nat) (w':World),Hid (l'=xs++news)→w'.ownsRow base 5 1 (.slice A' l'.length c') l'.length (bc l')→Below base w w'→w.grownBy w' v.ownBlock→
   l'.length≤c'→c'≤maxLen→K (a.put o.dst (.slice A' l'.length c')) w'):if Region.wanted o (yielded ops a.tmps)=true then Oper.wp Tryz.prog o a w K Q else E:=by
 have hw:Region.wanted o (yielded ops a.tmps)=true:=by simp [Region.wanted,hgd]
 rw [if_pos hw];refine Z0U w s x _ ho base _ _ 1 1 Tryz.underlying36 Z2d rfl (by decide) v n (bc xs) hs hown B A m c (bc news) hx hr (Z7S _) (by unfold maxLen;omega) (by omega) hbase ?_;intro A' c' w' h1 h2 h3 h4 h5;have e1:n=xs.length:=by have:=hown.1;rw [Zv] at this;omega
 have e2:m=news.length:=by have:=hr.len;rw [Zv] at this;omega
 have e:n+m=(xs++news).length:=by rw [List.length_append];omega
 rw [←Z1m,e] at h1;rw [e] at h3 h4 ⊢;exact h _ A' c' w' rfl h1 ((bR _ _).grown h2 hbase (fun k hk=>(hown.lt k hk).1)) h2 h4 h5
def ZeM (l:LU) (w1:World) (out i:Value) (wr:World):Prop:=
 ∃(k:Nat) (l1:LU) (A:OA) (c:Nat),out= .slice A l1.length c∧i= .int .i64 k∧k≤l.length∧Hid (l1=Z1x (l.take k))∧wr.ownsRow w1.heap.size 5 1 (.slice A l1.length c) l1.length (bc l1)∧Below w1.heap.size w1 wr∧l1.length≤c∧c≤maxLen
open Go.RowKit Go.Dol
theorem Z7Q {s:BA} {l:LU} (h:l=s.data.toList) {k:Nat} (hk:k<l.length) (h2:k<s.size):(s[k]'h2).toNat=(l[k]).toNat:=by
 subst h
 rfl
end Go.Proofs.YtecpbcmpncgokaaGreat
namespace Go.Dol
def digV (x:Nat):Int:=if 48≤x∧x≤57 then (x:Int)-48 else if 97≤x∧x≤102 then (x:Int)-87 else -1
theorem Z7R (k:Nat) (hk:k<16):digV (dig k).toNat=k:=by
 have h: ∀i:Fin 16,digV (dig i.val).toNat=i.val:=by decide
 exact h ⟨k,hk⟩
theorem Zdp (x:Nat) (hx:x<256) (h: ∀j,j<16→(dig j).toNat≠x):digV x= -1:=by
 have h': ∀i:Fin 256,(∀j:Fin 16,(dig j.val).toNat≠i.val)→digV i.val= -1:=by decide+kernel
 exact h' ⟨x,hx⟩ (fun j=>h j.val j.isLt)
end Go.Dol
namespace Go.Proofs.YtecpbcmpncgokaaGreat
open Go.RowKit Go.Dol
open Go.RowKit Go.Dol
open Go.RowKit Go.Dol
theorem Z9S (x:Int) (k:Nat) (kk:Int) (w:World) (hk:kk=k) (hx0:0≤x) (hx1:x<4294967296) (hk0:0<k) (hk1:k<32):
  Calls Tryz.prog 249 #[.int .u32 x,.int .i64 kk] w fun e w'=>e= .returned (.int .u32 (rotl x k))∧ ∃n,w'=w.drewN n:=by
 subst hk;have f1:IntKind.i64.wrap (32-(k:Int))=32-(k:Int):=qJ _ (by omega);have f2:(0:Int)≤32-(k:Int):=by omega
 have f3:(32-(k:Int)).toNat=32-k:=by omega
 go_in;go_wp2_with fail;go_quiet (fail);go_wp2_with fail;go_ret;exact ⟨rfl,nq,rfl⟩
open Go.RowKit Go.Dol
theorem Zbo:(Tryz.prog.info? 128).map (fun i=>(i.zero,i.size,i.bytes))=some (some (.int .u32 0),1,4):=by kernel_rfl
def upW (l:LU) (k:Nat):List Int:=(List.range k).map (Z1r l)
theorem ZeN (l:LU) (k:Nat):upW l (k+1)=upW l k++[Z1r l k]:=by
 unfold upW;rw [List.range_succ,List.map_append]
 rfl
theorem Zbp (l:LU) (i:Nat) (h:4*i+3<l.length):Z1r l i=((l[4*i]).toNat:Int)+256*((l[4*i+1]).toNat:Int)+65536*((l[4*i+2]).toNat:Int)+16777216*((l[4*i+3]).toNat:Int):=by
 unfold Z1r;rw [List.drop_eq_getElem_cons (by omega),List.drop_eq_getElem_cons (by omega),List.drop_eq_getElem_cons (by omega),List.drop_eq_getElem_cons h];have e1:4*i+1+1=4*i+2:=rfl;simp only [List.take_succ_cons,List.take_zero,leN,List.foldr,e1];omega
def WRel (l:LU) (w:World) (v i:Value) (wr:World):Prop:=
 ∃(k:Nat) (A:OA) (c:Nat),v= .slice A k c∧i= .int .i64 k∧k≤8∧k≤c∧wr.ownsRow w.heap.size 128 1 (.slice A k c) k (wc (upW l k))∧Below w.heap.size w wr
def Zdq (S W:List Int) (tail tw:List Value) (g gw:Nat) (T:TypeId) (w:World) (i:Value) (wr:World):Prop:=
 ∃r:Nat,i= .int .i64 r∧r≤8∧Blk wr g T (wc (rounds S W r)++tail)∧Blk wr gw T (wc W++tw)∧w.grownBy wr (some g)
def Zdr (S W:List Int) (r:Nat) (tail tw:List Value) (g gw:Nat) (T:TypeId) (w:World) (i:Value) (wr:World):Prop:=
 ∃k:Nat,i= .int .i64 k∧k≤8∧Blk wr g T (wc (inner S W r k)++tail)∧Blk wr gw T (wc W++tw)∧w.grownBy wr (some g)
theorem Z8p (g n8:Nat) (S:List Int) (tail:List Value) (cs:Nat) (A:OA) (l:LU) (n c:Nat) (w:World) (hS:Words S) (hb:Blk w g 128 (wc S++tail)) (hcs:8≤cs) (hr:Rd w w.heap.size 1 A n (bc l)) (hn:n=32) (hn8:n8=8):
  Calls Tryz.prog 192 #[.slice (some ⟨g,0,none⟩) n8 cs,.slice A n c] w fun e w'=>e= .returned (.tuple #[])∧Blk w' g 128 (wc (sumB S l)++tail)∧w.grownBy w' (some g):=by
 subst hn;subst hn8;have hl:l.length=32:=by have:=hr.len;rw [Zv] at this;omega
 have HL:=qI hl;clear hl;have hgw:=hb.lt;obtain ⟨bb,off,rfl,hbb,hcells⟩:=hr.at_ (by omega);have HC:=qI hcells;clear hcells;go_in;go_wp2_with fail;go_loopw [4,5] (fun v i wr=>WRel l w v i wr) (fun _ i _=>8-(intOf i).toNat)
 case atStart=>exact ⟨0,none,0,rfl,rfl,by omega,by omega,⟨by simp [wc,upW],.inl ⟨rfl,by simp⟩⟩,bR _ _⟩
 case round=>
  obtain ⟨k,A1,c1,rfl,rfl,hk,hkc,ho,hbel⟩:=hrel;have hs:=hbel.size
  by_cases hlt:k<8
  ·have hl4:4*k+3<l.length:=by rw [HL.out];omega
   have hw4:=Zbp l k hl4;have hwr:=Z3v l k;obtain ⟨x0,hx0⟩: ∃x,x=(l[4*k]).toNat:=⟨_,rfl⟩;obtain ⟨x1,hx1⟩: ∃x,x=(l[4*k+1]).toNat:=⟨_,rfl⟩;obtain ⟨x2,hx2⟩: ∃x,x=(l[4*k+2]).toNat:=⟨_,rfl⟩;obtain ⟨x3,hx3⟩: ∃x,x=(l[4*k+3]).toNat:=⟨_,rfl⟩;have b0:x0<256:=by have:=(l[4*k]).toNat_lt;omega
   have b1:x1<256:=by have:=(l[4*k+1]).toNat_lt;omega
   have b2:x2<256:=by have:=(l[4*k+2]).toNat_lt;omega
   have b3:x3<256:=by have:=(l[4*k+3]).toNat_lt;omega
   have q0:wr.cell? ⟨bb,off+4*k,none⟩=some (.int .u8 x0):=by rw [hbel.cell (p:=⟨bb,_,none⟩) hbb,hx0];exact HC.out (4*k) _ (Z09 l _ (by omega))
   have q1:wr.cell? ⟨bb,off+(4*k+1),none⟩=some (.int .u8 x1):=by rw [hbel.cell (p:=⟨bb,_,none⟩) hbb,hx1];exact HC.out (4*k+1) _ (Z09 l _ (by omega))
   have q2:wr.cell? ⟨bb,off+(4*k+2),none⟩=some (.int .u8 x2):=by rw [hbel.cell (p:=⟨bb,_,none⟩) hbb,hx2];exact HC.out (4*k+2) _ (Z09 l _ (by omega))
   have q3:wr.cell? ⟨bb,off+(4*k+3),none⟩=some (.int .u8 x3):=by rw [hbel.cell (p:=⟨bb,_,none⟩) hbb,hx3];exact HC.out (4*k+3) _ (Z09 l _ (by omega))
   rw [←hx0,←hx1,←hx2,←hx3] at hw4;obtain ⟨v,hv⟩: ∃v:Nat,v=x0+256*x1+65536*x2+16777216*x3:=⟨_,rfl⟩;have hve:Z1r l k=(v:Int):=by omega
   have HVE:=qI hve;have HV:=qI hv;clear hw4 hx0 hx1 hx2 hx3 hl4 hwr hve hv;have u0:IntKind.u32.wrap (x0:Int)=x0:=by rw [IntKind.wrap_u32];omega
   have u1:IntKind.u32.wrap (x1:Int)=x1:=by rw [IntKind.wrap_u32];omega
   have u2:IntKind.u32.wrap (x2:Int)=x2:=by rw [IntKind.wrap_u32];omega
   have u3:IntKind.u32.wrap (x3:Int)=x3:=by rw [IntKind.wrap_u32];omega
   have u4:IntKind.u32.wrap (256*(x1:Int))=256*(x1:Int):=by rw [IntKind.wrap_u32];omega
   have u5:IntKind.u32.wrap (65536*(x2:Int))=65536*(x2:Int):=by rw [IntKind.wrap_u32];omega
   have u6:IntKind.u32.wrap (16777216*(x3:Int))=16777216*(x3:Int):=by rw [IntKind.wrap_u32];omega
   have u7:IntKind.u32.wrap ((x0:Int)+256*(x1:Int))=(x0:Int)+256*(x1:Int):=by rw [IntKind.wrap_u32];omega
   have u8:IntKind.u32.wrap ((x0:Int)+256*(x1:Int)+65536*(x2:Int))=(x0:Int)+256*(x1:Int)+65536*(x2:Int):=by rw [IntKind.wrap_u32];omega
   have u9:IntKind.u32.wrap ((x0:Int)+256*(x1:Int)+65536*(x2:Int)+16777216*(x3:Int))=(v:Int):=by rw [IntKind.wrap_u32];have:=HV.out;omega
   have e1:IntKind.i64.wrap (4*(k:Int))=4*(k:Int):=qJ _ (by omega);have e2:IntKind.i64.wrap (4*(k:Int)+1)=4*(k:Int)+1:=qJ _ (by omega);have e3:IntKind.i64.wrap (4*(k:Int)+2)=4*(k:Int)+2:=qJ _ (by omega);have e4:IntKind.i64.wrap (4*(k:Int)+3)=4*(k:Int)+3:=qJ _ (by omega);have p1:(4*(k:Int)).toNat=4*k:=by omega
   have p2:(4*(k:Int)+1).toNat=4*k+1:=by omega
   have p3:(4*(k:Int)+2).toNat=4*k+2:=by omega
   have p4:(4*(k:Int)+3).toNat=4*k+3:=by omega
   have r1:(0:Int)≤4*(k:Int):=by omega
   have r2:4*(k:Int)<32:=by omega
   have r3:4*(k:Int)+1<32:=by omega
   have r4:4*(k:Int)+2<32:=by omega
   have r5:4*(k:Int)+3<32:=by omega
   have r6:(0:Int)≤4*(k:Int)+1:=by omega
   have r7:(0:Int)≤4*(k:Int)+2:=by omega
   have r8:(0:Int)≤4*(k:Int)+3:=by omega
   go_wp2_with fail
   go_region_held3 (fun w'=>w'.cell? ⟨bb,off+4*k,none⟩=some (.int .u8 x0)∧w'.cell? ⟨bb,off+(4*k+1),none⟩=some (.int .u8 x1)∧w'.cell? ⟨bb,off+(4*k+2),none⟩=some (.int .u8 x2)∧w'.cell? ⟨bb,off+(4*k+3),none⟩=some (.int .u8 x3)) (first | go_keep | (go_split_ands;refine ⟨?_,?_,?_,?_⟩<;>(rw [z2.cell (p:=⟨bb,_,none⟩) hbb];assumption)))
    ((refine ZgW (by rfl) (.tmp 13) (.tmp 47) 261 128 _ 4 (by rfl) Tryz.underlying261 Zbo rfl w.heap.size _ k (wc (upW l k)) (by rfl) (World.ownsRow.alloc (w:=World.drew wr) ho _) (wr.heap.size+1) _ 1 1 [.int .u32 v] (by rfl) (Rd.new1 wr _ _).drew (by simp [Value.oneCell']) (by unfold maxLen;omega) (by omega) (by simp;omega) ?_;intro A' c' w' z1 z2 z3 z4 z5))
   go_wp2_with fail;refine ⟨⟨k+1,A',c',rfl,by go_num,hlt,z4,?_,hbel.trans (((bR _ _).alloc hs _).drew.trans z2)⟩,by simp [intOf];omega⟩;rw [ZeN,HVE.out];have:wc (upW l k++[(v:Int)])=wc (upW l k)++[.int .u32 v]:=by simp [wc]
   rw [this];exact z1
  ·have hk8:k=8:=by omega
   rw [hk8] at ho;have HK:=qI hk8;obtain ⟨gw,tw,rfl,hgw2,hbk⟩:=Z7Y ho (by omega)
   replace hbk:Blk wr gw 128 (wc (Z2D l)++tw):=hbk
   clear hk8 ho;have hW:=Z4P l;obtain ⟨W,hWe⟩: ∃W,W=Z2D l:=⟨_,rfl⟩;rw [←hWe] at hbk hW;have HW:=qI hWe;clear hWe;have hbg:Blk wr g 128 (wc S++tail):=hb.below hbel hgw;have hgr:w.grownBy wr (some g):=Z5 hbel _;have hne:g≠gw:=by omega
   have hgd: ¬((k:Int)<8):=by omega
   clear hbel hr hb hs hgw hgw2;go_wp2_with fail;go_loopw [6] (fun i wr=>Zdq S W tail tw g gw 128 w i wr) (fun i _=>8-(intOf i).toNat)
   case atStart=>exact ⟨0,rfl,by omega,hbg,hbk,hgr⟩
   case round=>
    clear hbg hbk hgr;obtain ⟨r,rfl,hr8,hbg,hbk,hgr⟩:=hrel
    by_cases hlt2:r<8
    ·have hwo:=hS.rounds W r
     have hrd:decide ((r:Int)<8)=true:=by simp;omega
     go_wp2_with fail;go_loopw [7] (fun i wr=>Zdr (rounds S W r) W r tail tw g gw 128 w i wr) (fun i _=>8-(intOf i).toNat)
     case atStart=>exact ⟨0,rfl,by omega,hbg,hbk,hgr⟩
     case round=>
      clear hbg hbk hgr;obtain ⟨j,rfl,hk8,hbg,hbk,hgr⟩:=hrel
      by_cases hlt3:j<8
      ·obtain ⟨S',hS'⟩: ∃S',S'=inner (rounds S W r) W r j:=⟨_,rfl⟩
       have hw':Words S':=by rw [hS'];exact hwo.inner W r j
       rw [←hS'] at hbg;obtain ⟨x1,hx1⟩: ∃x,x=getI S' j:=⟨_,rfl⟩;obtain ⟨x2,hx2⟩: ∃x,x=getI W ((j+r)%8):=⟨_,rfl⟩;obtain ⟨x3,hx3⟩: ∃x,x=getI S' ((j+1)%8):=⟨_,rfl⟩;have hc1:wr.cell? ⟨g,j,none⟩=some (.int .u32 x1):=by rw [hbg.cell,hx1];exact Z48 hw' tail hlt3
       have hc2:wr.cell? ⟨gw,(j+r)%8,none⟩=some (.int .u32 x2):=by rw [hbk.cell,hx2];exact Z48 hW tw (Nat.mod_lt _ (by omega))
       have hc3:wr.cell? ⟨g,(j+1)%8,none⟩=some (.int .u32 x3):=by rw [hbg.cell,hx3];exact Z48 hw' tail (Nat.mod_lt _ (by omega))
       have hfr:=hbg.free j;have hrx:=Z47 .xor x1 x2;have HS':=qI hS';have HX1:=qI hx1;have HX2:=qI hx2;have HX3:=qI hx3;clear hS' hx1 hx2 hx3;have f0:IntKind.i64.wrap ((j:Int)+1)=(j:Int)+1:=qJ _ (by omega);have f1:((j:Int)+1).tmod 8=((j:Int)+1)%8:=Int.tmod_eq_emod_of_nonneg (by omega);have f2:(0:Int)≤((j:Int)+1)%8:=by omega
       have f3:((j:Int)+1)%8<8:=by omega
       have f4:(((j:Int)+1)%8).toNat=(j+1)%8:=by omega
       have f5:IntKind.i64.wrap ((j:Int)+(r:Int))=(j:Int)+(r:Int):=qJ _ (by omega);have f6:IntKind.u32.wrap ((j:Int)+(r:Int))=(j:Int)+(r:Int):=by rw [IntKind.wrap_u32];omega
       have f7:((j:Int)+(r:Int)).tmod 8=((j:Int)+(r:Int))%8:=Int.tmod_eq_emod_of_nonneg (by omega);have f8:(((j:Int)+(r:Int))%8).toNat=(j+r)%8:=by omega
       have f9:(0:Int)≤((j:Int)+(r:Int))%8:=by omega
       have f10:((j:Int)+(r:Int))%8<8:=by omega
       have f13:((j:Int)+(r:Int))%8<(k:Int):=by have:=HK.out;omega
       have f11:IntKind.i64.wrap (3*(j:Int))=3*(j:Int):=qJ _ (by omega);have f12:IntKind.i64.wrap (5+3*(j:Int))=5+3*(j:Int):=qJ _ (by omega);go_wp2_with fail;go_quiet ((go_at_call 249;exact Calls.quiet_of (Z9S _ (5+3*j) _ _ (by omega) hrx.1 hrx.2 (by omega) (by omega))));go_wp2_with fail;have hmix:(rotl (bits .xor .u32 x1 x2) (5+3*j)+x3*2246822507+((j:Int)+(r:Int)))%4294967296=Z4O S' W r j:=by
        rw [HX1.out,HX2.out,HX3.out]
        rfl
       have HM:=qI hmix;clear hmix;refine ⟨⟨j+1,by go_num,by omega,?_,(hbk.drewN nq).far (p:=⟨g,j,none⟩) (fun e=>hne e.symm) _,Z0 (Z4b hgr nq) _ _⟩,by simp [intOf];omega⟩;have h1:=(hbg.drewN nq).set j (.int .u32 (Z4O S' W r j));rw [Z9R S' tail (by rw [hw'.1];exact hlt3)] at h1;rw [HM.out];have h2:inner (rounds S W r) W r (j+1)=S'.set j (Z4O S' W r j):=by rw [HS'.out];rfl
       rw [h2];exact h1
      ·have hk88:j=8:=by omega
       have HK8:=qI hk88;have hjd: ¬((j:Int)<8):=by omega
       clear hk88;go_wp2_with fail;refine ⟨⟨r+1,by go_num,by omega,?_,hbk,hgr⟩,by simp [intOf];omega⟩;rw [HK8.out] at hbg;exact hbg
    ·have hr88:r=8:=by omega
     have HR8:=qI hr88;have hrd: ¬((r:Int)<8):=by omega
     clear hr88;go_wp2_with fail;go_end0;refine ⟨rfl,?_,hgr⟩;rw [HW.out,HR8.out] at hbg;exact hbg
open Go.RowKit Go.Dol
def ZgS (l:LU) (B:Nat) (w:World) (b:Value) (wr:World):Prop:=
 ∃(k:Nat) (l1:LU) (A:OA) (c:Nat),b= .slice A l1.length c∧Hid (l1=l++1::List.replicate k 0)∧Hid (l1.length=l.length+1+k)∧k≤padN l.length∧wr.ownsRow B 5 1 (.slice A l1.length c) l1.length (bc l1)∧Below B w wr
def ZgT (l0:LU) (n B:Nat) (w:World) (b x i:Value) (wr:World):Prop:=
 ∃(k m:Nat) (l1:LU) (A:OA) (c:Nat),b= .slice A l1.length c∧x= .int .u64 m∧i= .int .i64 k∧k≤8∧m≤n∧Hid (l1=l0++leB k n)∧Hid (l1.length=l0.length+k)∧Hid (m=n/256^k)∧wr.ownsRow B 5 1 (.slice A l1.length c) l1.length (bc l1)∧Below B w wr
def Zgp (l0:LU) (B:Nat) (w:World) (b i:Value) (wr:World):Prop:=
 ∃(k:Nat) (l1:LU) (A:OA) (c:Nat),b= .slice A l1.length c∧i= .int .i64 k∧k≤32∧Hid (l1=l0++List.replicate k 0)∧Hid (l1.length=l0.length+k)∧wr.ownsRow B 5 1 (.slice A l1.length c) l1.length (bc l1)∧Below B w wr
def ZfC (w:World) (s i:Value) (wr:World):Prop:=
 ∃(k:Nat) (A:OA) (c:Nat),s= .slice A k c∧i= .int .i64 k∧k≤8∧k≤c∧wr.ownsRow w.heap.size 128 1 (.slice A k c) k (wc (first.take k))∧Below w.heap.size w wr
def Zgq (all:LU) (tail:List Value) (g:Nat) (w:World) (i:Value) (wr:World):Prop:=
 ∃(k:Nat) (S:List Int),i= .int .i64 k∧k≤all.length∧k%32=0∧Words S∧Hid (ZG S (all.drop k)=ZG first all)∧Blk wr g 128 (wc S++tail)∧w.grownBy wr (some g)
def ZgU (S:List Int) (w:World) (out i:Value) (wr:World):Prop:=
 ∃(k:Nat) (l:LU) (A:OA) (c:Nat),out= .slice A l.length c∧i= .int .i64 k∧k≤8∧Hid (l=Z2E (S.take k))∧wr.ownsRow w.heap.size 5 1 (.slice A l.length c) l.length (bc l)∧Below w.heap.size w wr
theorem _root_.Go.Dol.Rd.newN (w:World) (T:TypeId) (cs:List Value):Rd (w.alloc (.cells cs.toArray T)) (w.heap.size+1) 1 (some ⟨w.heap.size,0,none⟩) cs.length cs:=by
 refine ⟨by simp,fun _=>⟨w.heap.size,0,rfl,by omega,fun j u hu=> ?_⟩⟩;have hc:=(Blk.new w T cs).cell (0+j);rw [hc,Nat.zero_add];exact hu
theorem ZeO (x:Nat) (h:x<4294967296):bc (leB 4 x)=[.int .u8 (x%256:Nat),.int .u8 (x/256%256:Nat),.int .u8 (x/65536%256:Nat),.int .u8 (x/16777216:Nat)]:=by
 simp only [leB,bc,List.map_cons,List.map_nil,UInt8.toNat_ofNat',Nat.div_div_eq_div_mul];have h1:x/(256*(256*256))%256=x/16777216:=by omega
 simp;omega
theorem Zds (k:Nat) (hk:k<8):getI first k=((k:Int)+1)*2654435769%4294967296:=by
 have h: ∀i:Fin 8,getI first i.val=((i.val:Int)+1)*2654435769%4294967296:=by decide
 exact h ⟨k,hk⟩
theorem Z6N (k:Nat) (hk:k<8):first.take (k+1)=first.take k++[getI first k]:=by
 have hl:k<first.length:=by rw [Z1l.1];exact hk
 rw [List.take_succ_eq_append_getElem hl];simp [getI,gE hl]
theorem Z9T (A:OA) (l:LU) (c:Nat) (w:World) (hr:Rd w w.heap.size 1 A l.length (bc l)) (hl:l.length≤140737488355200):
  Calls Tryz.prog 123 #[.slice A l.length c] w fun e w'=> ∃l',Hid (l'=Z21 l)∧e= .returned (.string ⟨l'.toArray⟩)∧Below w.heap.size w w':=by
 go_in;go_wp2_with (at_builtin;refine app8 rfl (.tmp 12) (.tmp 13) rfl w.heap.size _ 0 [] rfl ⟨by simp [bc],.inl ⟨rfl,rfl⟩⟩ w.heap.size A l.length c l rfl hr (by omega) (lR _) ?_);intro l1 A1 c1 w1 e1 ho1 hb1 _ _ i1 i2;have h1l:l1.length=l.length:=by simp [e1.out]
 have H1:=qI h1l;have hs1:=hb1.size;go_wp2_with (at_builtin;refine Z1y rfl (.tmp 15) (.tmp 16) rfl w.heap.size _ l1.length l1 rfl ho1 rfl (by decide) (by decide) (by omega) (by omega) ?_);intro d l2 A2 c2 w2 ed e2 ho2 hb2 _ _ i3 i4;have e2':Hid (l2=l++1::List.replicate 0 0):=by
  unfold Hid;have:=e2.out;have h1:d=1:=Z0F (n:=1) ed rfl;rw [this,h1,e1.out]
  rfl
 have h2l:Hid (l2.length=l.length+1+0):=by
  unfold Hid;rw [e2'.out];simp
 have hb02:Below w.heap.size w w2:=hb1.trans hb2;clear h1l ho1 hb1 hb2 e1 e2 ed;go_wp2_with fail;go_loopw [3] (fun b wr=>ZgS l w.heap.size w b wr) (fun b _=>l.length+1+padN l.length-lenV b)
 case atStart=>exact ⟨0,l2,A2,c2,rfl,e2',h2l,zL _,ho2,hb02⟩
 case round=>
  clear ho2 hb02;obtain ⟨k,l3,A3,c3,rfl,e3,h3l,hk,ho,hbl⟩:=hrel;have hs:=hbl.size;have hpn:Hid (padN l.length=(24+64-(l.length%32+1))%32):=rfl;obtain ⟨q,hq⟩: ∃q,q=l3.length%32:=⟨_,rfl⟩;have hrem:(l3.length:Int)%32=(q:Int):=by omega
  have hrem2:(l3.length:Int).tmod 32=(q:Int):=by rw [Int.tmod_eq_emod_of_nonneg (by omega)];exact hrem
  have h3b:l3.length≤140737488355240:=by
   have:=h3l.out;have:=hpn.out;omega
  have HQ:=qI hq;clear hq
  by_cases hq24:q=24
  ·have HQ24:=qI hq24
   have hb24:((q:Int)!=24)=false:=by rw [hq24];rfl
   have hkl:Hid (k=padN l.length):=by
    unfold Hid;have:=HQ.out;have:=HQ24.out;have:=hpn.out;have:=h3l.out;omega
   have hu64:IntKind.u64.wrap (l.length:Int)=(l.length:Int):=by rw [IntKind.wrap_u64];omega
   clear hq24;go_wp2_with fail;go_loopw [3,4,5] (fun b x i wr=>ZgT l3 l.length w.heap.size w b x i wr) (fun _ _ i _=>8-(intOf i).toNat)
   case atStart=>exact ⟨0,l.length,l3,A3,c3,rfl,rfl,rfl,by omega,lR _,by simp [Hid,leB],by simp [Hid],by simp [Hid],ho,hbl⟩
   case round=>
    clear ho hbl hs;obtain ⟨k4,m,l4,A4,c4,rfl,rfl,rfl,hk4,hmn,e4,h4l,hm,ho,hbl⟩:=hrel;have hs:=hbl.size;have h4b:l4.length≤140737488355248:=by
     have:=h4l.out;omega
    by_cases hlt4:k4<8
    ·have hki:(k4:Int)<8:=by omega
     have hmr:(m:Int)%256<256:=by omega
     have hmq:IntKind.u64.wrap ((m:Int)/256)=(m:Int)/256:=by rw [IntKind.wrap_u64];omega
     go_wp2_with (at_builtin;refine Z1y rfl (.tmp 32) (.tmp 36) rfl w.heap.size _ l4.length l4 rfl ho rfl (by omega) (by omega) (by omega) (by omega) ?_);intro d l5 A5 c5 w5 ed e5 ho5 hb5 _ _ j3 j4;go_wp2_with fail;refine ⟨⟨k4+1,m/256,l5,A5,c5,rfl,by go_num,by go_num,by omega,by omega,?_,?_,?_,ho5,hbl.trans hb5⟩,by simp [intOf];omega⟩
     ·have hd':=Z0F (n:=m%256) ed (by omega)
      unfold Hid;rw [e5.out,e4.out,hd',hm.out,Z7N,List.append_assoc]
     ·unfold Hid
      rw [e5.out,List.length_append,h4l.out]
      rfl
     ·unfold Hid
      rw [hm.out,Nat.div_div_eq_div_mul,Nat.pow_succ]
    ·have hki: ¬(k4:Int)<8:=by omega
     have hk48:Hid (k4=8):=by unfold Hid;omega
     go_wp2_with fail;go_loopw [3,6] (fun b i wr=>Zgp l4 w.heap.size w b i wr) (fun _ i _=>32-(intOf i).toNat)
     case atStart=>exact ⟨0,l4,A4,c4,rfl,rfl,by omega,by simp [Hid],by simp [Hid],ho,hbl⟩
     case round=>
      clear ho hbl hs;obtain ⟨k6,l6,A6,c6,rfl,rfl,hk6,e6,h6l,ho,hbl⟩:=hrel;have hs:=hbl.size;have h6b:l6.length≤140737488355288:=by
       have:=h6l.out;omega
      by_cases hlt6:k6<32
      ·have hki6:(k6:Int)<32:=by omega
       go_wp2_with (at_builtin;refine Z1y rfl (.tmp 44) (.tmp 45) rfl w.heap.size _ l6.length l6 rfl ho rfl (by decide) (by decide) (by omega) (by omega) ?_);intro d l7 A7 c7 w7 ed e7 ho7 hb7 _ _ j5 j6;go_wp2_with fail;refine ⟨⟨k6+1,l7,A7,c7,rfl,by go_num,by omega,?_,?_,ho7,hbl.trans hb7⟩,by simp [intOf];omega⟩
       ·have hd0:d=0:=by
         have:=ed.out;exact UInt8.toNat_inj.1 (by simpa using this)
        unfold Hid;rw [e7.out,e6.out,hd0,List.append_assoc,List.replicate_succ']
       ·unfold Hid
        rw [e7.out,List.length_append,h6l.out]
        rfl
      ·have hki6: ¬(k6:Int)<32:=by omega
       have hk632:k6=32:=by omega
       have hall:Hid (l6=l++Z0D l.length l.length):=by
        unfold Hid Z0D;rw [e6.out,e4.out,e3.out,hkl.out,hk48.out,hk632];simp
       have hmod:Hid (l6.length%32=0):=by
        unfold Hid;rw [hall.out,List.length_append];exact Z46 _ _
       have hrd:=Rd.of_own ho;have hlc6:l6.length≤c6:=by obtain ⟨_,_,h,hle,_⟩:=Z1s ho;injection h with _ _ h;omega
       clear hk632 ho;have hdone: ∀out:LU,out=Z2E (ZG first l6).1→Hid (out=Z21 l):=fun out h=>by
        unfold Hid;rw [h,Zbl,hall.out]
       have HD:=qI hdone;clear hdone hall;go_wp2_with fail;obtain ⟨w6,hw6⟩: ∃w6,w6=wr:=⟨_,rfl⟩;rw [←hw6] at hrd hbl hs;rw [←hw6];clear hw6;go_loopw [7,8] (fun s i wr=>ZfC w6 s i wr) (fun _ i _=>8-(intOf i).toNat)
       case atStart=>exact ⟨0,none,0,rfl,rfl,by omega,by omega,⟨by simp [wc],.inl ⟨rfl,by simp⟩⟩,bR _ _⟩
       case round=>
        obtain ⟨k8,A8,c8,rfl,rfl,hk8,hk8c,ho8,hb8⟩:=hrel;have hs8:=hb8.size
        by_cases hlt8:k8<8
        ·have hki8:(k8:Int)<8:=by omega
         have hu1:IntKind.u32.wrap ((k8:Int)+1)=(k8:Int)+1:=by rw [IntKind.wrap_u32];omega
         go_wp2_with (at_builtin;refine ZeS rfl (.tmp 51) (.tmp 56) 261 128 _ 4 rfl Tryz.underlying261 Zbo rfl w6.heap.size _ k8 (wc (first.take k8)) rfl (ho8.alloc _) (wr.heap.size+1) _ 1 1 [.int .u32 (getI first k8)] rfl (by rw [Zds k8 hlt8];exact Rd.new1 wr _ _) (by simp [Value.oneCell']) (by unfold maxLen;omega) (by omega) (by simp;omega) ?_);intro A9 c9 w9 ho9 hb9 _ j7 j8;go_wp2_with fail;refine ⟨⟨k8+1,A9,c9,rfl,by go_num,by omega,j7,?_,hb8.trans (((bR _ _).alloc hs8 _).trans hb9)⟩,by simp [intOf];omega⟩;rw [Z6N k8 hlt8];have:wc (first.take k8++[getI first k8])=wc (first.take k8)++[.int .u32 (getI first k8)]:=by simp [wc]
         rw [this];exact ho9
        ·have hki8: ¬(k8:Int)<8:=by omega
         have hk88:k8=8:=by omega
         have HK8:=qI hk88;have ho8':wr.ownsRow w6.heap.size 128 1 (.slice A8 k8 c8) k8 (wc first):=by
          have e:first.take k8=first:=List.take_of_length_le (by rw [hk88,Z1l.1];exact lR _);rwa [e] at ho8
         obtain ⟨g,tail,rfl,hg6,hbk⟩:=Z7Y ho8' (by omega);obtain ⟨w8,hw8⟩: ∃w8,w8=wr:=⟨_,rfl⟩;rw [←hw8] at hbk hb8 hs8;clear hk88 ho8 ho8';go_wp2_with fail;rw [←hw8];clear hw8;go_loopw [9] (fun i wr=>Zgq l6 tail g w8 i wr) (fun i _=>l6.length-(intOf i).toNat)
         case atStart=>exact ⟨0,first,rfl,zL _,rfl,Z1l,by simp [Hid],hbk,gR _ _⟩
         case round=>
          clear hbk;obtain ⟨k9,S,rfl,hk9,hk932,hS,habs,hbk,hgr⟩:=hrel;have hsz:=hgr.size
          by_cases hlt9:k9<l6.length
          ·have hm:=hmod.out
           have hk32:k9+32≤l6.length:=by omega
           have hbw:Below w6.heap.size w6 wr:=hb8.trans (Z1 hgr hg6 hs8);have hr6:=hrd.below hbw;have hcut:=(hr6.more (B':=wr.heap.size) hbw.size).cut (lo:=k9) (hi:=k9+32) (cap:=c6) (by omega) hk32 (by omega);rw [if_neg (by omega),Nat.mul_one,Nat.mul_one,Z18,Z0E,Nat.add_sub_cancel_left] at hcut;have hci:(k9:Int)+32≤(c6:Int):=by omega
           have hc60: ¬c6=k9:=by omega
           have f1:IntKind.i64.wrap ((k9:Int)+32)=(k9:Int)+32:=qJ _ (by omega);have hki9:(k9:Int)<(l6.length:Int):=by omega
           have HM9:=qI hk932;clear hm hk932;go_wp2_with fail
           ((with_reducible refine (Z8p g k8 S tail c8 _ ((l6.drop k9).take 32) 32 _ wr hS hbk (by omega) hcut rfl HK8.out).mono ?_);rintro e w9 ⟨rfl,hb9,hg9⟩)
           go_wp2_with fail;refine ⟨⟨k9+32,_,rfl,hk32,by have:=HM9.out;omega,hS.sumB _,?_,hb9,Z6 hgr hg9⟩,by simp [intOf];omega⟩;unfold Hid;rw [←habs.out,Z1L (l:=l6.drop k9) (by rw [List.length_drop];omega),List.drop_drop]
          ·have hki9: ¬(k9:Int)<(l6.length:Int):=by omega
           have hfin:Hid (S=(ZG first l6).1):=by
            unfold Hid;rw [←habs.out,List.drop_eq_nil_of_le (by omega),Z1K (by simp)]
           have hball:Below w.heap.size w wr:=hbl.trans ((hb8.trans (Z1 hgr hg6 hs8)).mono hs);clear hk932 habs hgr hb8;go_wp2_with fail;obtain ⟨w9,hw9⟩: ∃w9,w9=wr:=⟨_,rfl⟩;rw [←hw9] at hbk hball hsz;rw [←hw9];clear hw9;have hlg:=hbk.lt;go_loopw [10,11] (fun out i wr=>ZgU S w9 out i wr) (fun _ i _=>8-(intOf i).toNat)
           case atStart=>exact ⟨0,[],none,0,rfl,rfl,by omega,rfl,⟨by simp [bc],.inl ⟨rfl,rfl⟩⟩,bR _ _⟩
           case round=>
            obtain ⟨ka,la,Aa,ca,rfl,rfl,hka,ea,hoa,hba⟩:=hrel;have hsa:=hba.size
            by_cases hlta:ka<8
            ·have hkia:(ka:Int)<8:=by omega
             have hcell:wr.cell? ⟨g,ka,none⟩=some (.int .u32 (getI S ka)):=by rw [(hbk.below hba hlg).cell];exact Z48 hS tail hlta
             have hrg:=hS.get hlta;obtain ⟨x,hx⟩: ∃x:Nat,x=(getI S ka).toNat:=⟨_,rfl⟩;have hxe:getI S ka=(x:Int):=by omega
             have hx32:x<4294967296:=by omega
             rw [hxe] at hcell;have HX:=qI hx;have hll:la.length=4*ka:=by rw [ea.out];exact Z2I hS.1 (by omega)
             have HLL:=qI hll;have hlb:la.length≤32:=by omega
             obtain ⟨v0,hv0⟩: ∃v:Nat,v=x%256:=⟨_,rfl⟩;obtain ⟨v1,hv1⟩: ∃v:Nat,v=x/256%256:=⟨_,rfl⟩;obtain ⟨v2,hv2⟩: ∃v:Nat,v=x/65536%256:=⟨_,rfl⟩;obtain ⟨v3,hv3⟩: ∃v:Nat,v=x/16777216:=⟨_,rfl⟩;have hbytes:Hid (bc (leB 4 x)=[.int .u8 v0,.int .u8 v1,.int .u8 v2,.int .u8 v3]):=by
              unfold Hid;rw [ZeO x hx32,hv0,hv1,hv2,hv3]
             have f0:(x:Int)%256=(v0:Int):=by omega
             have f1:(x:Int)/256%256=(v1:Int):=by omega
             have f2:(x:Int)/65536%256=(v2:Int):=by omega
             have f3:(x:Int)/16777216=(v3:Int):=by omega
             have t0:(x:Int).tmod 256=(v0:Int):=by rw [Int.tmod_eq_emod_of_nonneg (by omega)];exact f0
             have t1:((x:Int)/256).tmod 256=(v1:Int):=by rw [Int.tmod_eq_emod_of_nonneg (by omega)];exact f1
             have t2:((x:Int)/65536).tmod 256=(v2:Int):=by rw [Int.tmod_eq_emod_of_nonneg (by omega)];exact f2
             have w1:IntKind.u32.wrap ((x:Int)/256)=(x:Int)/256:=by rw [IntKind.wrap_u32];omega
             have w2:IntKind.u32.wrap ((x:Int)/65536)=(x:Int)/65536:=by rw [IntKind.wrap_u32];omega
             have w3:IntKind.u32.wrap (v3:Int)=(v3:Int):=by rw [IntKind.wrap_u32];omega
             have hk8x:(ka:Int)<(k8:Int):=by have:=HK8.out;omega
             have b0:IntKind.u8.wrap (v0:Int)=(v0:Int):=by rw [IntKind.wrap_u8];omega
             have b1:IntKind.u8.wrap (v1:Int)=(v1:Int):=by rw [IntKind.wrap_u8];omega
             have b2:IntKind.u8.wrap (v2:Int)=(v2:Int):=by rw [IntKind.wrap_u8];omega
             have b3:IntKind.u8.wrap (v3:Int)=(v3:Int):=by rw [IntKind.wrap_u8];omega
             clear hx hxe hll hv0 hv1 hv2 hv3 hrg;go_wp2_with fail
             go_region_held3 (fun w'=>w'.cell? ⟨g,ka,none⟩=some (.int .u32 x)) (first | go_keep | (rw [z2.cell (p:=⟨g,_,none⟩) hlg];assumption))
              ((refine ZeL (by rfl) (.tmp 75) (.tmp 102) (by rfl) w9.heap.size _ la.length la (by rfl) (World.ownsRow.alloc (w:=World.drew wr) hoa _) (wr.heap.size+1) _ 4 4 (leB 4 x) (by rfl) (by rw [hbytes.out];exact (Rd.newN wr _ [.int .u8 v0,.int .u8 v1,.int .u8 v2,.int .u8 v3]).drew) (by omega) (by simp;omega) ?_;intro l' A' c' w' z1 z3 z2 z4 z5 z6))
             go_wp2_with fail;refine ⟨⟨ka+1,l',A',c',rfl,by go_num,by omega,?_,z3,hba.trans (((bR _ _).alloc hsa _).drew.trans z2)⟩,by simp [intOf];omega⟩;unfold Hid;rw [z1.out,ea.out,Z3D (by rw [hS.1];exact hlta),←HX.out]
            ·have hkia: ¬(ka:Int)<8:=by omega
             have hka8:ka=8:=by omega
             have hout:Hid (la=Z21 l):=by
              refine HD.out la ?_;rw [ea.out,hka8,List.take_of_length_le (by rw [hS.1];exact lR _),hfin.out]
             have HKA:=qI hka8;clear hka8;go_wp2_with (refine Z6x rfl (.tmp 104) rfl wr.heap.size Aa la.length ca la rfl (Rd.of_own hoa) ?_);go_ret;exact ⟨la,hout,rfl,hball.trans (hba.mono hball.size)⟩
  ·have hb24:((q:Int)!=24)=true:=by simp;omega
   have hkl:k<padN l.length:=by
    have:=HQ.out;have:=hpn.out;have:=h3l.out;omega
   go_wp2_with (at_builtin;refine Z1y rfl (.tmp 22) (.tmp 23) rfl w.heap.size _ l3.length l3 rfl ho rfl (by decide) (by decide) (by omega) (by omega) ?_);intro d l5 A5 c5 w5 ed e5 ho5 hb5 _ _ j3 j4;go_wp2_with fail;have h5l:l5.length=l.length+1+(k+1):=by rw [e5.out,List.length_append,h3l.out];rfl
   have hd0:d=0:=by
    have:=ed.out;exact UInt8.toNat_inj.1 (by simpa using this)
   refine ⟨⟨k+1,l5,A5,c5,rfl,?_,h5l,hkl,ho5,hbl.trans hb5⟩,?_⟩
   ·unfold Hid
    rw [e5.out,hd0,e3.out,List.replicate_succ'];simp
   ·show l.length+1+padN l.length-l5.length<l.length+1+padN l.length-l3.length
    rw [h5l,h3l.out];omega
end Go.Proofs.YtecpbcmpncgokaaGreat
set_option maxRecDepth 100000
set_option maxHeartbeats 400000
set_option linter.unusedVariables false
namespace Go.Proofs.YtecpbcmpncgokaaGreat
open Go.RowKit Go.Dol
theorem Zdt (s:BA) (w:World) (hl:s.size≤70368744177600):
  Calls Tryz.prog 102 #[.string s] w fun e w'=> ∃l',Hid (l'=Z1x s.data.toList)∧e= .returned (.string ⟨l'.toArray⟩)∧Below w.heap.size w w':=by
 obtain ⟨l,hls⟩: ∃l,l=s.data.toList:=⟨_,rfl⟩;have hsz:s.size=l.length:=by rw [hls,Zg]
 have HSZ:=qI hsz;have HLS:=qI hls;clear hsz hls;go_in;go_wp2_with (refine Z7U rfl (.tmp 6) _ _ _ rfl Tryz.underlying9 Tryz.underlying36 Tryz.underlying5 s rfl (by omega) ?_);intro A c w1 hr hb1 i1 i2;rw [←HLS.out] at hr;go_wp2_with fail;go_loopw [3,5,9] (fun out _ i wr=>ZeM l w1 out i wr) (fun _ _ i _=>l.length-(intOf i).toNat)
 case atStart=>exact ⟨0,[],none,0,rfl,rfl,zL _,rfl,⟨by simp [bc],.inl ⟨rfl,rfl⟩⟩,bR _ _,lR _,by unfold maxLen;omega⟩
 case round=>
  obtain ⟨k,l1,A1,c1,rfl,rfl,hk,e1,ho,hbl,j1,j2⟩:=hrel;have hs1:=hbl.size;have e1l:l1.length=2*k:=by rw [e1.out,Z0T,List.length_take];omega
  by_cases hlt:k<l.length
  ·have hkl:k<s.size:=by rw [HSZ.out];exact hlt
   obtain ⟨b,off,rfl,hb,hcell⟩:=(hr.below hbl).at_ (by omega);have hcx:=hcell k _ (Z09 l k hlt);obtain ⟨x,hx⟩: ∃x,x=(l[k]).toNat:=⟨_,rfl⟩;have hx256:x<256:=by have:=(l[k]).toNat_lt;omega
   rw [←hx] at hcx;have HX:=qI hx;clear hx hcell;obtain ⟨y,hy⟩: ∃y,y=x/16:=⟨_,rfl⟩;obtain ⟨z,hz⟩: ∃z,z=x%16:=⟨_,rfl⟩;have hy16:y<16:=by omega
   have hz16:z<16:=by omega
   have hd1:=Z30 y hy16;have hd2:=Z30 z hz16;have hq:IntKind.u8.wrap ((x:Int)/16)=(y:Int):=by rw [IntKind.wrap_u8];omega
   have hm:(x:Int)%16=(z:Int):=by omega
   have hm2:(x:Int).tmod 16=(z:Int):=by rw [Int.tmod_eq_emod_of_nonneg (by omega)];omega
   have hyi:(y:Int)<16:=by omega
   have hzi:(z:Int)<16:=by omega
   have HY:=qI hy;have HZ:=qI hz;clear hy hz;have hlen2:l1.length≤140737488355200:=by omega
   have E1L:=qI e1l;clear e1l;go_wp2_with fail
   go_region_law ((refine ZeL (by rfl) (.tmp 13) (.tmp 20) (by rfl) w1.heap.size _ l1.length l1 (by rfl) (World.ownsRow.alloc (w:=World.drew wr) ho _) (wr.heap.size+1) _ 2 2 [dig y,dig z] (by rfl) (Rd.two wr.drew _ _ _) (by omega) (by simp;omega) ?_;intro l' A' c' w' q1 q2 q3 q4 q5 q6))
   all_goals
    go_wp2_with fail;refine ⟨⟨k+1,l',A',c',rfl,by go_num,hlt,?_,q2,hbl.trans (((bR _ _).alloc hs1 _).drew.trans q3),q5,q6⟩,by simp [intOf];omega⟩;unfold Hid;rw [q1.out,e1.out,List.take_succ_eq_append_getElem hlt,Z7P,HY.out,HZ.out,HX.out]
  ·have hkk:k=l.length:=by omega
   have HKK:=qI hkk;have E1L:=qI e1l;have hb:decide (k<s.size)=false:=by simp [HSZ.out];omega
   have hb2: ¬((k:Int)<(s.size:Int)):=by rw [HSZ.out];omega
   clear hkk e1l;go_wp2_with (refine Z6x rfl (.tmp 23) rfl wr.heap.size A1 l1.length c1 l1 rfl (Rd.of_own ho) ?_);go_ret;refine ⟨l1,?_,rfl,hb1.trans (hbl.mono hb1.size)⟩;unfold Hid;rw [e1.out,HKK.out,List.take_length,HLS.out]
theorem Z9U (s:BA) (w:World) (hl:s.size≤70368744177600):
  Calls Tryz.prog 129 #[.string s] w fun e w'=> ∃l',Hid (l'=Z1x s.data.toList)∧e= .returned (.string ⟨l'.toArray⟩)∧Below w.heap.size w w':=by
 obtain ⟨l,hls⟩: ∃l,l=s.data.toList:=⟨_,rfl⟩;have hsz:s.size=l.length:=by rw [hls,Zg]
 have HSZ:=qI hsz;have HLS:=qI hls;clear hsz hls;go_in;go_wp2_with fail;go_loopw [3,4] (fun out i wr=>ZeM l w out i wr) (fun _ i _=>l.length-(intOf i).toNat)
 case atStart=>exact ⟨0,[],none,0,rfl,rfl,zL _,rfl,⟨by simp [bc],.inl ⟨rfl,rfl⟩⟩,bR _ _,lR _,by unfold maxLen;omega⟩
 case round=>
  obtain ⟨k,l1,A1,c1,rfl,rfl,hk,e1,ho,hbl,j1,j2⟩:=hrel;have hs1:=hbl.size;have e1l:l1.length=2*k:=by rw [e1.out,Z0T,List.length_take];omega
  by_cases hlt:k<l.length
  ·have hkl:k<s.size:=by rw [HSZ.out];exact hlt
   obtain ⟨x,hx⟩: ∃x,x=(l[k]).toNat:=⟨_,rfl⟩;have hx256:x<256:=by have:=(l[k]).toNat_lt;omega
   have hsx: ∀h:k<s.size,(s[k]'h).toNat=x:=fun h=>by rw [hx];exact Z7Q HLS.out hlt h
   have hki:(k:Int)<(s.size:Int):=by omega
   have HX:=qI hx;clear hx;obtain ⟨y,hy⟩: ∃y,y=x/16:=⟨_,rfl⟩;obtain ⟨z,hz⟩: ∃z,z=x%16:=⟨_,rfl⟩;have hy16:y<16:=by omega
   have hz16:z<16:=by omega
   have hd1:=Z30 y hy16;have hd2:=Z30 z hz16;have hq:IntKind.u8.wrap ((x:Int)/16)=(y:Int):=by rw [IntKind.wrap_u8];omega
   have hm:(x:Int)%16=(z:Int):=by omega
   have hm2:(x:Int).tmod 16=(z:Int):=by rw [Int.tmod_eq_emod_of_nonneg (by omega)];omega
   have hyi:(y:Int)<16:=by omega
   have hzi:(z:Int)<16:=by omega
   have HY:=qI hy;have HZ:=qI hz;clear hy hz;have hlen2:l1.length≤140737488355200:=by omega
   have E1L:=qI e1l;clear e1l;go_wp2_with fail
   go_region_law ((refine ZeL (by rfl) (.tmp 11) (.tmp 22) (by rfl) w.heap.size _ l1.length l1 (by rfl) (World.ownsRow.alloc (w:=World.drew wr) ho _) (wr.heap.size+1) _ 2 2 [dig y,dig z] (by rfl) (Rd.two wr.drew _ _ _) (by omega) (by simp;omega) ?_;intro l' A' c' w' q1 q2 q3 q4 q5 q6))
   all_goals
    go_wp2_with fail;refine ⟨⟨k+1,l',A',c',rfl,by go_num,hlt,?_,q2,hbl.trans (((bR _ _).alloc hs1 _).drew.trans q3),q5,q6⟩,by simp [intOf];omega⟩;unfold Hid;rw [q1.out,e1.out,List.take_succ_eq_append_getElem hlt,Z7P,HY.out,HZ.out,HX.out]
  ·have hkk:k=l.length:=by omega
   have HKK:=qI hkk;have E1L:=qI e1l;have hb:decide (k<s.size)=false:=by simp [HSZ.out];omega
   have hb2: ¬((k:Int)<(s.size:Int)):=by rw [HSZ.out];omega
   clear hkk e1l;go_wp2_with (refine Z6x rfl (.tmp 24) rfl wr.heap.size A1 l1.length c1 l1 rfl (Rd.of_own ho) ?_);go_ret;refine ⟨l1,?_,rfl,hbl⟩;unfold Hid;rw [e1.out,HKK.out,List.take_length,HLS.out]
theorem Z6v (x:Nat) (hx:x<256) (w:World):
  Calls Tryz.prog 187 #[.int .u8 x] w fun e w'=>e= .returned (.int .i64 (digV x))∧w=w':=by
 go_in;go_wp2_with fail;go_loop [3] (fun i=> ∃k:Nat,i= .int .i64 k∧k≤16∧Hid (∀j,j<k→(dig j).toNat≠x)) (fun i=>16-(intOf i).toNat)
 case atStart=>exact ⟨0,rfl,by omega,fun j hj=>by omega⟩
 case round=>
  obtain ⟨k,rfl,hk,hno⟩:=hrel
  by_cases hlt:k<16
  ·have hki:(k:Int)<16:=by omega
   have hd:=Z30 k hlt;obtain ⟨y,hy⟩: ∃y,y=(dig k).toNat:=⟨_,rfl⟩;have HY:=qI hy;have hdy: ∀h:k<(⟨#[48,49,50,51,52,53,54,55,56,57,97,98,99,100,101,102]⟩:BA).size,((⟨#[48,49,50,51,52,53,54,55,56,57,97,98,99,100,101,102]⟩:BA)[k]'h).toNat=y:=fun h=>by rw [hd h,HY.out]
   clear hy hd
   by_cases he:y=x
   ·have HE:=qI he
    have heq:((y:Int)==(x:Int))=true:=by simp [he]
    have hde:decide ((y:Int)=(x:Int))=true:=by simp [he]
    have hdn:decide (y=x)=true:=by simp [he]
    clear he;go_wp2_with fail;go_ret;have:=Z7R k hlt;rw [←HY.out,HE.out] at this;exact ⟨by rw [this];rfl,rfl⟩
   ·have HE:=qI he
    have heq:((y:Int)==(x:Int))=false:=by simp;omega
    have hde:decide ((y:Int)=(x:Int))=false:=by simp;omega
    have hdn:decide (y=x)=false:=by simp [he]
    go_wp2_with fail;refine ⟨⟨k+1,by go_num,hlt,?_⟩,by simp [intOf];omega⟩;intro j hj
    by_cases hjk:j=k
    ·rw [hjk,←HY.out]
     exact HE.out
    ·exact hno.out j (by omega)
  ·have hk16:k=16:=by omega
   have hv:digV x= -1:=Zdp x hx (fun j hj=>hno.out j (by omega));have hki: ¬(k:Int)<16:=by omega
   go_wp2_with fail;go_ret;exact ⟨rfl,rfl⟩
end Go.Proofs.YtecpbcmpncgokaaGreat
set_option linter.unusedVariables false
namespace Go.Dol
open Go.RowKit
def Zx:LU→Option (LU)
 | []=>some []
 | [_]=>none
 | a::b::t=>if digV a.toNat<0∨digV b.toNat<0 then none else (Zx t).map (UInt8.ofNat (16*(digV a.toNat).toNat+(digV b.toNat).toNat):: ·)
def Zex (w:World) (r:Option (LU)) (e:Ending) (w':World):Prop:=
 match r with
 | none=>e= .returned (.tuple #[.string ⟨#[]⟩,.int .i64 1])∧Below w.heap.size w w'
 | some q=> ∃q',Hid (q'=q)∧e= .returned (.tuple #[.string ⟨q'.toArray⟩,.int .i64 0])∧Below w.heap.size w w'
theorem Z6W (x:Nat):digV x<16:=by unfold digV;split<;>(try split)<;>omega
theorem Zbg {l:LU} {k:Nat} (h:k+1<l.length):l.drop k=l[k]::l[k+1]::l.drop (k+2):=by
 rw [List.drop_eq_getElem_cons (by omega),List.drop_eq_getElem_cons h]
def Zbh (l:LU) (w1:World) (T:TypeId) (out i:Value) (wr:World):Prop:=
 ∃(k:Nat) (l1:LU) (A:OA) (c:Nat),out= .slice A l1.length c∧i= .int .i64 k∧k≤l.length∧k%2=0∧2*l1.length=k∧Hid (Zx l=(Zx (l.drop k)).map (l1++ ·))∧wr.ownsRow w1.heap.size T 1 (.slice A l1.length c) l1.length (bc l1)∧Below w1.heap.size w1 wr∧l1.length≤c∧c≤maxLen
end Go.Dol
namespace Go.Proofs.YtecpbcmpncgokaaGreat
open Go.RowKit Go.Dol
set_option maxRecDepth 100000 in
set_option maxHeartbeats 400000 in
theorem Z7L (s:BA) (w:World) (hl:s.size≤140737488355200):
  Calls Tryz.prog 118 #[.string s] w (Zex w (Zx s.data.toList)):=by
 obtain ⟨l,hls⟩: ∃l,l=s.data.toList:=⟨_,rfl⟩;have hsz:s.size=l.length:=by rw [hls,Zg]
 rw [←hls];have HSZ:=qI hsz;have HLS:=qI hls;clear hsz hls;go_in;go_wp2_with fail;go_loopw [4,5,6,7] (fun out i _ _ wr=>Zbh l w 5 out i wr) (fun _ i _ _ _=>l.length-(intOf i).toNat)
 case atStart=>exact ⟨0,[],none,0,rfl,rfl,zL _,rfl,rfl,by unfold Hid;simp,⟨by simp [bc],.inl ⟨rfl,rfl⟩⟩,bR _ _,lR _,by unfold maxLen;omega⟩
 case round=>
  obtain ⟨k,l1,A1,c1,rfl,rfl,hk,hk2,hk1,e1,ho,hbl,j1,j2⟩:=hrel;have hs1:=hbl.size;have HK1:=qI hk1;have HK2:=qI hk2;have hl1b:l1.length≤140737488355200:=by have:=HSZ.out;omega
  clear hk1 hk2
  by_cases hlt:k+1<l.length
  ·have hkl:k<s.size:=by rw [HSZ.out];omega
   have hkl1:k+1<s.size:=by rw [HSZ.out];omega
   have hlt0:k<l.length:=by omega
   have hki:(k:Int)<(s.size:Int):=by omega
   have hki1:(k:Int)+1<(s.size:Int):=by omega
   obtain ⟨x,hx⟩: ∃x,x=(l[k]).toNat:=⟨_,rfl⟩;obtain ⟨y,hy⟩: ∃y,y=(l[k+1]).toNat:=⟨_,rfl⟩;have hx256:x<256:=by have:=(l[k]).toNat_lt;omega
   have hy256:y<256:=by have:=(l[k+1]).toNat_lt;omega
   have hsx: ∀h:k<s.size,(s[k]'h).toNat=x:=fun h=>by rw [hx];exact Z7Q HLS.out hlt0 h
   have hsy: ∀h:k+1<s.size,(s[k+1]'h).toNat=y:=fun h=>by rw [hy];exact Z7Q HLS.out hlt h
   have HX:=qI hx;have HY:=qI hy;clear hx hy;go_wp2_with fail;refine (Z6v x hx256 wr).mono ?_;rintro e w2 ⟨rfl,rfl⟩;go_wp2_with fail;refine (Z6v y hy256 wr).mono ?_;rintro e w2 ⟨rfl,rfl⟩;have hdrop:=Zbg hlt;have hstep:Hid (Zx (l.drop k)=if digV x<0∨digV y<0 then none else (Zx (l.drop (k+2))).map (UInt8.ofNat (16*(digV x).toNat+(digV y).toNat):: ·)):=by
    unfold Hid;rw [hdrop,Zx,HX.out,HY.out]
   have hpx:=Z6W x;have hpy:=Z6W y;obtain ⟨p,hp⟩: ∃p,p=digV x:=⟨_,rfl⟩;obtain ⟨q,hq⟩: ∃q,q=digV y:=⟨_,rfl⟩;rw [←hp,←hq] at hstep;rw [←hp] at hpx ⊢;rw [←hq] at hpy ⊢;clear hp hq hdrop hsx hsy
   by_cases hbad:p<0∨q<0
   ·have hnone:Hid (Zx l=none):=by unfold Hid;rw [e1.out,hstep.out,if_pos hbad];rfl
    rcases (by omega:p<0∨(0≤p∧q<0)) with hp | ⟨hp,hq⟩
    ·go_wp2_with fail
     go_ret2;rw [hnone.out];exact ⟨rfl,hbl⟩
    ·go_wp2_with fail
     go_ret2;rw [hnone.out];exact ⟨rfl,hbl⟩
   ·have hp:0≤p:=by omega
    have hq:0≤q:=by omega
    obtain ⟨p',rfl⟩:=Int.eq_ofNat_of_zero_le hp;obtain ⟨q',rfl⟩:=Int.eq_ofNat_of_zero_le hq;have hp16:p'<16:=by omega
    have hq16:q'<16:=by omega
    obtain ⟨m,hm⟩: ∃m,m=16*p'+q':=⟨_,rfl⟩;have hmi:IntKind.u8.wrap (16*(p':Int)+(q':Int))=(m:Int):=by rw [IntKind.wrap_u8];omega
    have hm256:m<256:=by omega
    have HM:=qI hm;rw [if_neg hbad] at hstep;clear hm hbad hpx hpy hp hq;go_wp2_with (at_builtin;refine Z1y rfl (.tmp 30) (.tmp 36) rfl w.heap.size _ l1.length l1 rfl ho rfl (by omega) (by omega) (by omega) hs1 ?_);intro d l2 A2 c2 w2 ed e2 ho2 hb2 _ _ j3 j4;have h2l:l2.length=l1.length+1:=by rw [e2.out];simp
    have H2L:=qI h2l;clear h2l;go_wp2_with fail;refine ⟨⟨k+2,l2,A2,c2,rfl,by go_num,by omega,by have:=HK2.out;omega,by rw [H2L.out];have:=HK1.out;omega,?_,ho2,hbl.trans hb2,j3,j4⟩,by simp [intOf];omega⟩;have hd:d=UInt8.ofNat m:=Z0F ed rfl;unfold Hid;rw [e1.out,hstep.out,Option.map_map,e2.out,hd,HM.out]
    congr 1
    funext z
    simp
  ·have hsmall:l.length≤k+1:=by omega
   have hkb:k≤140737488355200:=by have:=HSZ.out;omega
   have hnk: ¬((k:Int)+1<(s.size:Int)):=by have:=HSZ.out;omega
   by_cases hodd:l.length=k+1
   ·have hd1:Zx (l.drop k)=none:=by
     rw [List.drop_eq_getElem_cons (by omega),List.drop_eq_nil_of_le (by omega)]
     rfl
    have hnone:Hid (Zx l=none):=by unfold Hid;rw [e1.out,hd1];rfl
    have hmod:(s.size:Int)%2=1:=by have:=HSZ.out;have:=HK2.out;omega
    have hmod2:(s.size:Int).tmod 2=1:=by rw [Int.tmod_eq_emod_of_nonneg (by omega)];exact hmod
    have HO:=qI hodd;clear hodd hd1;go_wp2_with fail;go_ret2;rw [hnone.out];exact ⟨rfl,hbl⟩
   ·have hkl:l.length=k:=by omega
    have hd1:Zx (l.drop k)=some []:=by
     rw [List.drop_eq_nil_of_le (by omega)]
     rfl
    have hsome:Hid (Zx l=some l1):=by unfold Hid;rw [e1.out,hd1];simp
    have hmod:(s.size:Int)%2=0:=by have:=HSZ.out;have:=HK2.out;omega
    have hmod2:(s.size:Int).tmod 2=0:=by rw [Int.tmod_eq_emod_of_nonneg (by omega)];exact hmod
    have HO:=qI hkl;clear hodd hd1 hkl;go_wp2_with (refine Z6x rfl (.tmp 42) rfl wr.heap.size A1 l1.length c1 l1 rfl (Rd.of_own ho) ?_);go_ret2;rw [hsome.out];exact ⟨l1,rfl,rfl,hbl⟩
end Go.Proofs.YtecpbcmpncgokaaGreat
