/- Walks and laws. Conditions: as stated. -/
import Derived.Test.YtecpbcmpncgokaaGreatObjC
set_option maxRecDepth 99999
set_option maxHeartbeats 25600000
set_option linter.all false
open Go.Proofs.Tryz renaming prog->an
open Go.RowKit Go.Dol
namespace Go.Dol
theorem Ff (s:BA) {k} (a:k<s.size):s[k]'a=s.data.toList[k]'(by rw [aC];exact a):=rfl
theorem uS {s k} (b:k<s.data.toList.length) (a:s.data.toList[k]=0\/s.data.toList[k]=47):dc s=false:=by
 unfold dc;rcases a with a | a
 ·have:s.data.toList.contains 0=true:=by rw [y9,<-a];exact NF b
  rw [this];rfl
 have:s.data.toList.contains 47=true:=by rw [y9,<-a];exact NF b
 rw [this];simp
theorem Fg {s} (d: ∀(j:Nat) (b:j<s.data.toList.length),s.data.toList[j]≠0/\s.data.toList[j]≠47):dc s=(decide (1<=s.size)&&decide (s.size<=100)&&(!(s.toList==[46])&& !(s.toList==[46,46]))):=by
 have e:s.data.toList.contains 0=false:=by
  rw [J8];intro a;rw [y9] at a;obtain ⟨j,b,c⟩:=I8 a;exact (d j b).1 c
 have a:s.data.toList.contains 47=false:=by
  rw [J8];intro a;rw [y9] at a;obtain ⟨j,b,c⟩:=I8 a;exact (d j b).2 c
 unfold dc;rw [e,a];simp
theorem ej {s:BA} (b: ¬s.size=0): ¬s.toList=[]:=fun a=>b (by
 rw [t8] at a;rw [<-aC,a];rfl)
theorem uT {x:UInt8} {n:Nat} (a:x≠UInt8.ofNat n) (b:n<256): ¬((x.toNat:Int)=(n:Nat)):=fun c=>a (C9.1 (by rw [NG];omega))
end Go.Dol
namespace Go.Proofs.YtecpbcmpncgokaaGreat
def Fh (s:BA) (w:World) (i:Value) (wr:World):Prop:=wr=w/\ ∃b:Nat,i= .int .i64 b/\b<=s.size/\Hid (∀(a:Nat) (c:a<s.data.toList),a<b->s.data.toList[a]≠0/\s.data.toList[a]≠47)
theorem Fi (s w) (u:s.size<=maxLen):Calls an 248 #[.string s] w fun o w'=>o= .returned (.bool (dc s))/\w=w':=by
 have F:s.size<=kal:=by unfold maxLen at u;omega
 go_in;go_wp2_with fail;go_loopw [3] (fun i wr=>Fh s w i wr) (fun i _=>s.size-(intOf i).toNat)
 case atStart=>exact ⟨rfl,0,rfl,zL,qI (fun b _ h=>by omega)⟩
 case round=>
  obtain ⟨rfl,a,rfl,G,p⟩:=hrel;have q:a<s.size->IntKind.i64.wrap (a+1)=(a:Int)+1:=fun h=>qJ qO;by_cases r:a<s.size
  ·have H:=q r;have I:=dtX ((a:Int)<s.size);have v:=ltI a s.size;have J:=zeI a;have t:a<s.data.toList:=by rw [aC];exact r
   obtain ⟨c,l⟩:=gH (s.data.toList[a]);have K: ∀h:a<s.size,(s[a]'h).toNat=c.toNat:=fun h=>by rw [Ff s h,l]
   clear q;by_cases e:c=0
   ·have x:((c.toNat:Int)==0)=true:=by rw [e];rfl
    have d:=qI (uS t (.inl (by rw [<-l,e])));clear e;go_wp2_with fail;go_ret;exact ⟨by rw [d];rfl,rfl⟩
   have y: ¬((c.toNat:Int)=0):=uT (n:=0) e (by decide);have x:=beq_eq_false_iff_ne.2 y;by_cases f:c=47
   ·have z:((c.toNat:Int)==47)=true:=by rw [f];rfl
    have d:=qI (uS t (.inr (by rw [<-l,f])));clear f;go_wp2_with fail;go_ret;exact ⟨by rw [d];rfl,rfl⟩
   have A: ¬((c.toNat:Int)=47):=uT (n:=47) f (by decide);have z:=beq_eq_false_iff_ne.2 A;have B:Hid (∀(b:Nat) (j:b<s.data.toList.length),b<a+1->s.data.toList[b]≠0/\s.data.toList[b]≠47):=fun b j L=>by
    by_cases o:b=a
    ·subst o;rw [<-l];exact ⟨e,f⟩
    exact p.out b j qO
   clear e f;go_wp2_with fail;exact ⟨⟨by first | trivial | rfl,a+1,by go_num,r,B⟩,by simp [intOf];omega⟩
  have v: ¬(a:Int)<s.size:=qO;have d:=qI (Fg fun b j=>p.out b j (by rw [aC] at j;omega));clear q p;by_cases k:1<=s.size
  ·have C:=dtX ((1:Int)<=(s.size:Int));by_cases m:s.size<=100
   ·have D:=dtX ((s.size:Int)<=100);have g:Hid (dc s=(!(s.toList==[46])&& !(s.toList==[46,46]))):=by unfold Hid;rw [d,dT k,dT m];simp
    clear k m;cases E:(s.toList==[46]) with
    | true=>
     have M:s.toList=[46]:=by simpa using E
     go_wp2_with fail;go_ret;exact ⟨by rw [g];simp [*],rfl⟩
    | false=>
    go_wp2_with fail;go_ret;exact ⟨by rw [g];simp [*],rfl⟩
   have D:=dfX ((s.size:Int)<=100);have g:Hid (dc s=false):=by unfold Hid;rw [d,qF m];simp
   clear k m;go_wp2_with fail;go_ret;exact ⟨by rw [g];rfl,rfl⟩
  have C:=dfX ((1:Int)<=(s.size:Int));have g:Hid (dc s=false):=by unfold Hid;rw [d,qF k];simp
  clear k;go_wp2_with fail;go_ret;exact ⟨by rw [g];rfl,rfl⟩
theorem uU (k Ad) (d:LU) (cd Ae) (c:List Ent) (ce tr Ap) (e:List BA) (cp ta na wh st te w):Calls an 191 #[.agg #[.int .i64 k,.slice Ad d cd,.slice Ae c ce,.string tr,.slice Ap e cp,.string ta,.string na,.string wh,.int .i64 st,.string te]] w fun i w'=>i= .returned (.bool (aG wh st te))/\Below w.heap.size w w':=by
 have hb0:=bAl w (.cells #[k,.slice Ad d cd,.slice Ae c ce,tr,.slice Ap e cp,ta,na,wh,st,te] 40);by_cases a:wh.size<=1000
 ·have j:=dtX ((wh.size:Int)<=1000);by_cases b:te.size<=1000
  ·have l:=dtX ((te.size:Int)<=1000);by_cases f:0<=st
   ·have m:=dtX (0<=st);have n:=dtX (st>=0);by_cases g:st<=kaf
    ·have o:=dtX (st<=kaf);have HF:Hid (aG wh st te=true):=by unfold Hid aG;simp [a,b,f,g]
     clear a b;go_in;exact z30
    have o:=dfX (st<=kaf);have HF:Hid (aG wh st te=false):=by unfold Hid aG;simp [g]
    clear a b;go_in;exact z30
   have m:=dfX (0<=st);have n:=dfX (st>=0);have HF:Hid (aG wh st te=false):=by unfold Hid aG;simp [f]
   clear a b;go_in;exact z30
  have l:=dfX ((te.size:Int)<=1000);have HF:Hid (aG wh st te=false):=by unfold Hid aG;simp [b]
  clear a b;go_in;exact z30
 have j:=dfX ((wh.size:Int)<=1000);have HF:Hid (aG wh st te=false):=by unfold Hid aG;simp [a]
 clear a;go_in;exact z30
theorem Fj (k Ad nd cd Ae ne ce tr Ap np cp ta na wh st te w):Calls an 188 #[.agg #[.int .i64 k,.slice Ad nd cd,.slice Ae ne ce,.string tr,.slice Ap np cp,.string ta,.string na,.string wh,.int .i64 st,.string te],false,true,true,true,true] w fun l w'=>l= .returned (.bool (decide (ne=0)&&(decide (tr.size=0)&&decide (np=0))&&(decide (ta.size=0)&&decide (na.size=0))&&(decide (wh.size=0)&&decide (te.size=0)&&decide (st=0))))/\Below w.heap.size w w':=by
 rcases p7 ne with g | g
 case inr=>
  obtain ⟨s,rfl⟩: ∃a,ne=a+1:=⟨ne-1,qO⟩;exact z2
 case inl=>
  subst g;by_cases b:tr.size=0
  case neg=>
   have m:=ej b;have t:tr.toList.isEmpty=false:=by simpa using m
   exact z2
  case pos=>
   obtain rfl:=cV b;clear b;rcases p7 np with i | i
   case inr=>
    obtain ⟨u,rfl⟩: ∃a,np=a+1:=⟨np-1,qO⟩;exact z2
   case inl=>
    subst i;by_cases c:ta.size=0
    case neg=>
     have n:=ej c;have v:ta.toList.isEmpty=false:=by simpa using n
     exact z2
    case pos=>
     obtain rfl:=cV c;clear c;by_cases d:na.size=0
     case neg=>
      have o:=ej d;have x:na.toList.isEmpty=false:=by simpa using o
      exact z2
     case pos=>
      obtain rfl:=cV d;clear d;by_cases e:wh.size=0
      case neg=>
       have q:=ej e;have y:wh.toList.isEmpty=false:=by simpa using q
       exact z2
      case pos=>
       obtain rfl:=cV e;clear e;by_cases f:te.size=0
       case neg=>
        have r:=ej f;have z:te.toList.isEmpty=false:=by simpa using r
        exact z2
       case pos=>
        obtain rfl:=cV f;clear f;by_cases j:st=0
        case neg=>
         have A:=beq_eq_false_iff_ne.2 j;exact z2
        case pos=>
         subst j;exact z2
theorem Fk (k Ad d cd Ae en ce tr Ap pa cp ta na wh st te w):Calls an 188 #[.agg #[.int .i64 k,.slice Ad d.length cd,.slice Ae en.length ce,.string tr,.slice Ap pa.length cp,.string ta,.string na,.string wh,.int .i64 st,.string te],false,true,true,true,true] w fun a w'=> ∃v,Hid ((dr (⟨k,d,en,tr,pa,ta,na,wh,st,te⟩:Go.Dol.Obj)&&dp (⟨k,d,en,tr,pa,ta,na,wh,st,te⟩:Go.Dol.Obj)&&de (⟨k,d,en,tr,pa,ta,na,wh,st,te⟩:Go.Dol.Obj)&&ex (⟨k,d,en,tr,pa,ta,na,wh,st,te⟩:Go.Dol.Obj))=v)/\a= .returned (.bool v)/\Below w.heap.size w w':=
 (Fj k Ad d cd Ae en ce tr Ap pa cp ta na wh st te w).mono fun a w' b=>⟨_,rfl,b⟩
theorem Fl (k Ad nd cd Ae ne ce tr Ap np cp ta na wh st te w):Calls an 188 #[.agg #[.int .i64 k,.slice Ad nd cd,.slice Ae ne ce,.string tr,.slice Ap np cp,.string ta,.string na,.string wh,.int .i64 st,.string te],true,false,true,true,true] w fun l w'=>l= .returned (.bool (decide (nd=0)&&(decide (tr.size=0)&&decide (np=0))&&(decide (ta.size=0)&&decide (na.size=0))&&(decide (wh.size=0)&&decide (te.size=0)&&decide (st=0))))/\Below w.heap.size w w':=by
 rcases p7 nd with g | g
 case inr=>
  obtain ⟨s,rfl⟩: ∃a,nd=a+1:=⟨nd-1,qO⟩;exact z2
 case inl=>
  subst g;by_cases b:tr.size=0
  case neg=>
   have m:=ej b;have t:tr.toList.isEmpty=false:=by simpa using m
   exact z2
  case pos=>
   obtain rfl:=cV b;clear b;rcases p7 np with i | i
   case inr=>
    obtain ⟨u,rfl⟩: ∃a,np=a+1:=⟨np-1,qO⟩;exact z2
   case inl=>
    subst i;by_cases c:ta.size=0
    case neg=>
     have n:=ej c;have v:ta.toList.isEmpty=false:=by simpa using n
     exact z2
    case pos=>
     obtain rfl:=cV c;clear c;by_cases d:na.size=0
     case neg=>
      have o:=ej d;have x:na.toList.isEmpty=false:=by simpa using o
      exact z2
     case pos=>
      obtain rfl:=cV d;clear d;by_cases e:wh.size=0
      case neg=>
       have q:=ej e;have y:wh.toList.isEmpty=false:=by simpa using q
       exact z2
      case pos=>
       obtain rfl:=cV e;clear e;by_cases f:te.size=0
       case neg=>
        have r:=ej f;have z:te.toList.isEmpty=false:=by simpa using r
        exact z2
       case pos=>
        obtain rfl:=cV f;clear f;by_cases j:st=0
        case neg=>
         have A:=beq_eq_false_iff_ne.2 j;exact z2
        case pos=>
         subst j;exact z2
theorem Fm (k Ad d cd Ae en ce tr Ap pa cp ta na wh st te w):Calls an 188 #[.agg #[.int .i64 k,.slice Ad d.length cd,.slice Ae en.length ce,.string tr,.slice Ap pa.length cp,.string ta,.string na,.string wh,.int .i64 st,.string te],true,false,true,true,true] w fun a w'=> ∃v,Hid ((dq (⟨k,d,en,tr,pa,ta,na,wh,st,te⟩:Go.Dol.Obj)&&dp (⟨k,d,en,tr,pa,ta,na,wh,st,te⟩:Go.Dol.Obj)&&de (⟨k,d,en,tr,pa,ta,na,wh,st,te⟩:Go.Dol.Obj)&&ex (⟨k,d,en,tr,pa,ta,na,wh,st,te⟩:Go.Dol.Obj))=v)/\a= .returned (.bool v)/\Below w.heap.size w w':=
 (Fl k Ad d cd Ae en ce tr Ap pa cp ta na wh st te w).mono fun a w' b=>⟨_,rfl,b⟩
theorem Fo (k Ad nd cd Ae ne ce tr Ap np cp ta na wh st te w):Calls an 188 #[.agg #[.int .i64 k,.slice Ad nd cd,.slice Ae ne ce,.string tr,.slice Ap np cp,.string ta,.string na,.string wh,.int .i64 st,.string te],true,true,false,true,false] w fun f w'=>f= .returned (.bool (decide (nd=0)&&decide (ne=0)&&(decide (ta.size=0)&&decide (na.size=0))))/\Below w.heap.size w w':=by
 rcases p7 nd with d | d
 case inr=>
  obtain ⟨j,rfl⟩: ∃a,nd=a+1:=⟨nd-1,qO⟩;exact z2
 case inl=>
  subst d;rcases p7 ne with e | e
  case inr=>
   obtain ⟨l,rfl⟩: ∃a,ne=a+1:=⟨ne-1,qO⟩;exact z2
  case inl=>
   subst e;by_cases b:ta.size=0
   case neg=>
    have g:=ej b;have m:ta.toList.isEmpty=false:=by simpa using g
    exact z2
   case pos=>
    obtain rfl:=cV b;clear b;by_cases c:na.size=0
    case neg=>
     have i:=ej c;have n:na.toList.isEmpty=false:=by simpa using i
     exact z2
    case pos=>
     obtain rfl:=cV c;clear c;exact z2
theorem Fp (k Ad d cd Ae en ce tr Ap pa cp ta na wh st te w):Calls an 188 #[.agg #[.int .i64 k,.slice Ad d.length cd,.slice Ae en.length ce,.string tr,.slice Ap pa.length cp,.string ta,.string na,.string wh,.int .i64 st,.string te],true,true,false,true,false] w fun a w'=> ∃v,Hid ((dq (⟨k,d,en,tr,pa,ta,na,wh,st,te⟩:Go.Dol.Obj)&&dr (⟨k,d,en,tr,pa,ta,na,wh,st,te⟩:Go.Dol.Obj)&&de (⟨k,d,en,tr,pa,ta,na,wh,st,te⟩:Go.Dol.Obj))=v)/\a= .returned (.bool v)/\Below w.heap.size w w':=
 (Fo k Ad d cd Ae en ce tr Ap pa cp ta na wh st te w).mono fun a w' b=>⟨_,rfl,b⟩
theorem Fq (k Ad nd cd Ae ne ce tr Ap np cp ta na wh st te w):Calls an 188 #[.agg #[.int .i64 k,.slice Ad nd cd,.slice Ae ne ce,.string tr,.slice Ap np cp,.string ta,.string na,.string wh,.int .i64 st,.string te],true,true,true,false,false] w fun f w'=>f= .returned (.bool (decide (nd=0)&&decide (ne=0)&&(decide (tr.size=0)&&decide (np=0))))/\Below w.heap.size w w':=by
 rcases p7 nd with c | c
 case inr=>
  obtain ⟨i,rfl⟩: ∃a,nd=a+1:=⟨nd-1,qO⟩;exact z2
 case inl=>
  subst c;rcases p7 ne with d | d
  case inr=>
   obtain ⟨j,rfl⟩: ∃a,ne=a+1:=⟨ne-1,qO⟩;exact z2
  case inl=>
   subst d;by_cases b:tr.size=0
   case neg=>
    have g:=ej b;have l:tr.toList.isEmpty=false:=by simpa using g
    exact z2
   case pos=>
    obtain rfl:=cV b;clear b;rcases p7 np with e | e
    case inr=>
     obtain ⟨m,rfl⟩: ∃a,np=a+1:=⟨np-1,qO⟩;exact z2
    case inl=>
     subst e;exact z2
theorem Fr (k Ad d cd Ae en ce tr Ap pa cp ta na wh st te w):Calls an 188 #[.agg #[.int .i64 k,.slice Ad d.length cd,.slice Ae en.length ce,.string tr,.slice Ap pa.length cp,.string ta,.string na,.string wh,.int .i64 st,.string te],true,true,true,false,false] w fun a w'=> ∃v,Hid ((dq (⟨k,d,en,tr,pa,ta,na,wh,st,te⟩:Go.Dol.Obj)&&dr (⟨k,d,en,tr,pa,ta,na,wh,st,te⟩:Go.Dol.Obj)&&dp (⟨k,d,en,tr,pa,ta,na,wh,st,te⟩:Go.Dol.Obj))=v)/\a= .returned (.bool v)/\Below w.heap.size w w':=
 (Fq k Ad d cd Ae en ce tr Ap pa cp ta na wh st te w).mono fun a w' b=>⟨_,rfl,b⟩
theorem pd (s b) (c:Hid (dc s=b)) (d:s.size<=maxLen) (w):Calls an 248 #[.string s] w fun a w'=>a= .returned (.bool b)/\w'=w:=
 (Fi s w d).mono fun a w' ⟨e,f⟩=>⟨by rw [e,c],f.symm⟩
def Fs (l:List Ent) (w:World) (i:Value) (wr:World):Prop:=∃ k a:Nat,i= .int .i64 k/\k<=l.length/\Hid (eO geS l k)/\wr=w.drewN a
theorem Ft (A l c B w) (M:Rd w B 3 A l.length (ec l)) (Z:l.length<=kaa) (N:Hid (∀r∈l,r.name.size<=maxLen)):
  Calls an 189 #[.slice A l c] w fun r w'=>r= .returned (.bool (cT geS l))/\ ∃n,w'=w.drewN n:=by
 obtain ⟨j,o⟩:=gH (cT geS l);rw [<-o];go_in;go_wp2_with fail;go_loopw [3] (fun i wr=>Fs l w i wr) (fun i _=>l-(intOf i).toNat)
 case atStart=>exact ⟨0,0,rfl,zL,fun i e=>by omega,rfl⟩
 case round=>
  obtain ⟨a,q,rfl,a0,s,t⟩:=hrel;have O:Rd wr B 3 A l (ec l):=by rw [t];exact M.drewN q
  have HW:=qI t;clear t;have b0:=qiJ (a+1);by_cases k:a<l
  ·have P:=dtX ((a:Int)<l);have Q:=ltI a l.length;have c0:=zeI a;obtain ⟨R,S,rfl,d0,f⟩:=O.at_ qO;obtain ⟨D,T,E⟩:=eR k;have F:=f _ _ D;have G:wr.cell? ⟨R,S+a*3+2,none⟩=_:=f _ _ E;have g:=gE k;have hns:=qI (N.out l[a] (NF k));obtain ⟨U,H⟩:=gX (l[a]);rw [<-H] at F G g hns;have m:=qI (ud g);obtain ⟨x0,e0,u⟩:=U;simp only at F G m;clear H D T E g;cases d:dc x0 with
   | false=>
    have HF:Hid (j=false):=by unfold Hid;rw [o,iz k (by rw [m,d];rfl)]
    have HP:=qI d;clear d f;exact z238
   | true=>
   have HP:=qI d;by_cases e:u.size=32
   ·have V:((u.size:Int)!=32)=false:=by rw [e];rfl
    rcases p7 a with v | v
    ·have x:Hid (eO geS l (a+1)):=lz s.out (by rw [m,d,v];simp [e,lr]);have f0:=dfX ((0:Int)<(a:Int));have g0: ¬(0:Int)<(a:Int):=qO;have h0:=dfX (0<a);have i0:=dfX ((a:Int)>0);clear d e v f;go_wp2_with fail;go_quiet ((go_at_call 248;exact A9 (pd x0 _ HP hns.out _)));go_wp2_with fail;exact ⟨⟨a+1,q+nq,by go_num,qO,x,by rw [HW,o8]⟩,by simp [intOf];omega⟩
    obtain ⟨b,rfl⟩: ∃b,a=b+1:=⟨a-1,qO⟩;have I:b<l:=qO;obtain ⟨y,_,_⟩:=eR I;have J:=f _ _ y;have g:=gE I;obtain ⟨W,z⟩:=gX (l[b]);rw [<-z] at J g;have C:=qI (ue (nm:=x0) g);obtain ⟨X,j0,k0⟩:=W;simp only at J C;have l0:IntKind.i64.wrap (((b+1:Nat):Int)-1)=(b:Int):=(qJ qO).trans qO;have m0:IntKind.i64.wrap (b+1-1)=(b:Int):=(qJ qO).trans qO;have n0:=ltI b l.length;have o0:=zeI b;cases K:Op.bytesLess X.toList x0.toList with
    | false=>
     have HF:Hid (j=false):=by
      unfold Hid;rw [o,iz k (by rw [m,C];unfold geS;rw [K];simp)]
     clear d e z g y f;exact z238
    | true=>
    have x:Hid (eO geS l (b+1+1)):=lz s.out (by rw [m,C,d];unfold geS;rw [K];simp [e]);clear d e z g y f;go_wp2_with fail;go_quiet ((go_at_call 248;exact A9 (pd x0 _ HP hns.out _)));go_wp2_with fail;exact ⟨⟨b+1+1,q+nq,by go_num,qO,x,by rw [HW,o8]⟩,by simp [intOf];omega⟩
   have V:((u.size:Int)!=32)=true:=bne_iff_ne.2 qO;have HF:Hid (j=false):=by unfold Hid;rw [o,iz k (by rw [m,qF e];simp)]
   clear d e f;exact z238
  have P:=dfX ((a:Int)<l);have Q: ¬(a:Int)<l:=qO;have hkl:a=l:=qO;have L:Hid (j=decide (l.length<=4096)):=by unfold Hid;rw [o,tU (by rw [<-hkl];exact s.out)]
  by_cases h2:l.length<=4096
  ·have Y:=dtX ((l:Int)<=4096);have HT:Hid (j=true):=by unfold Hid;rw [L,dT h2]
   exact z72
  have Y:=dfX ((l:Int)<=4096);have HT:Hid (j=false):=by unfold Hid;rw [L,qF h2]
  exact z72
def pe (l:List BA) (p:BA) (j:Nat):Prop:=∀ a,a<j-> ∀b,l[a]?=some b-> ¬b=p
theorem Fu {l p k} (c:pe l p k):cK (l.take k) p=false:=by
 unfold cK;rw [List.any_eq_false];intro d e;obtain ⟨a,f,b⟩:=I8 e;have g:a<k:=by rw [b9] at f;omega
 rw [List.getElem_take] at b;have h:=c a g d (by rw [<-b];exact gE _);intro i;exact h (fh (by simpa using i))
theorem Fv {l:List BA} {p k j} (a:j<k) (b:l[j]?=some p):cK (l.take k) p=true:=by
 unfold cK;rw [List.any_eq_true];refine ⟨p,?_,by simp⟩;rw [List.mem_iff_getElem?];exact ⟨j,by rw [w7,if_pos a];exact b⟩
def Fw (l:List BA) (w:World) (i:Value) (wr:World):Prop:=∃ k a:Nat,i= .int .i64 k/\k<=l.length/\Hid (fG l k)/\wr=w.drewN a
def Fx (l:List BA) (k:Nat) (p:BA) (w:World) (i:Value) (wr:World):Prop:=∃ j a:Nat,i= .int .i64 j/\j<=k/\Hid (pe l p j)/\wr=w.drewN a
theorem Fy (A l c B w) (P:Rd w B 1 A l.length (pc l)) (c0:l.length<=kaa):
  Calls an 190 #[.slice A l c] w fun f w'=>f= .returned (.bool (cU l))/\ ∃n,w'=w.drewN n:=by
 obtain ⟨g,m⟩:=gH (cU l);rw [<-m];go_in;go_wp2_with fail;go_loopw [3] (fun i wr=>Fw l w i wr) (fun i _=>l-(intOf i).toNat)
 case atStart=>exact ⟨0,0,rfl,zL,fun i d=>by omega,rfl⟩
 case round=>
  obtain ⟨a,q,rfl,d0,D,r⟩:=hrel;have E:Rd wr B 1 A l (pc l):=by rw [r];exact P.drewN q
  have HW:=qI r;clear r;have e0:=qiJ (a+1);by_cases j:a<l
  ·have Q:=dtX ((a:Int)<l);have R:=ltI a l.length;have f0:=zeI a;obtain ⟨F,G,rfl,g0,s⟩:=E.at_ qO;have t:=s _ _ (eQ j);have u:=gE j;obtain ⟨p,H⟩:=gX (l[a]);rw [<-H] at t u;have v:Hid (eP l a=(decide (p.size=32)&& !cK (l.take a) p)):=by unfold Hid eP;rw [u]
   clear H u;by_cases d:p.size=32
   ·have S:((p.size:Int)!=32)=false:=by rw [d];rfl
    have T:=qI d;clear d;go_wp2_with fail;obtain ⟨U,I⟩:=gX wr;rw [<-I] at HW E s t ⊢;clear I;go_loopw [4] (fun i wr=>Fx l a p U i wr) (fun i _=>a-(intOf i).toNat)
    case atStart=>exact ⟨0,0,rfl,zL,fun i d=>by omega,rfl⟩
    case round=>
     obtain ⟨b,h0,rfl,i0,J,o⟩:=hrel;have x: ∀(b:Nat) (K:Value),(pc l)[b]?=some K->wr.cell? ⟨F,G+b,none⟩=some K:=by rw [o];exact s
     have j0:wr.cell? ⟨F,G+a,none⟩=some (.string p):=by rw [o];exact t
     have y:=qI o;clear o;have k0:=qiJ (b+1);by_cases h2:b<a
     ·have V:=ltI b a;have l0:=zeI b;have L:b<l:=qO;have m0:=ltI b l.length;have W:=x _ _ (eQ L);have z:=qI (gE L);obtain ⟨X,M⟩:=gX (l[b]);rw [<-M] at W z;clear M x;by_cases e:X=p
      ·have Y:=uw e;have C:Hid (g=false):=by unfold Hid;rw [m.out,lw j (by rw [v,Fv h2 (by rw [z,e])];simp)]
       clear e;go_wp2_with fail;go_quiet (fail);go_wp2_with fail;go_ret;rw [C];exact ⟨rfl,_,by rw [y,HW,o8,o8]⟩
      have Y:=Ec e;have Z:Hid (pe l p (b+1)):=fun i d q k=>by
       by_cases f:i=b
       ·rw [f,z] at k;injection k with k;rw [<-k];exact e
       exact J.out i qO q k
      clear e;go_wp2_with fail;go_quiet (fail);go_wp2_with fail;exact ⟨⟨b+1,_,by go_num,h2,Z,by rw [y,o8]⟩,by simp [intOf];omega⟩
     have V: ¬(b:Int)<a:=qO;have N:b=a:=qO;have a0:Hid (fG l (a+1)):=fun i n0=>by
      by_cases f:i=a
      ·rw [f,v,Fu (by rw [<-N];exact J.out),dT T.out];rfl
      exact D.out i qO
     clear N x;go_wp2_with fail;exact ⟨⟨a+1,_,by go_num,j,a0,by rw [y,HW,o8]⟩,by simp [intOf];omega⟩
   have S:((p.size:Int)!=32)=true:=bne_iff_ne.2 qO;have C:Hid (g=false):=by unfold Hid;rw [m,lw j (by rw [v,qF d];rfl)]
   clear d;go_wp2_with fail;go_ret;rw [C];exact ⟨rfl,q,HW.out⟩
  have Q:=dfX ((a:Int)<l);have R: ¬(a:Int)<l:=qO;have hkl:a=l:=qO;have O:Hid (g=decide (l.length<=4)):=by unfold Hid;rw [m,tW (by rw [<-hkl];exact D.out)]
  by_cases h2:l.length<=4
  ·have b0:=dtX ((l:Int)<=4);have HT:Hid (g=true):=by unfold Hid;rw [O,dT h2]
   exact z72
  have b0:=dfX ((l:Int)<=4);have HT:Hid (g=false):=by unfold Hid;rw [O,qF h2]
  exact z72
theorem Nj (d en tr pa ta na wh st te):ay geS (⟨2,d,en,tr,pa,ta,na,wh,st,te⟩:Go.Dol.Obj)=(cT geS en&&(dq (⟨2,d,en,tr,pa,ta,na,wh,st,te⟩:Go.Dol.Obj)&&dp (⟨2,d,en,tr,pa,ta,na,wh,st,te⟩:Go.Dol.Obj)&&de (⟨2,d,en,tr,pa,ta,na,wh,st,te⟩:Go.Dol.Obj)&&ex (⟨2,d,en,tr,pa,ta,na,wh,st,te⟩:Go.Dol.Obj))):=rfl
theorem Nk (d en tr pa ta na wh st te):ay geS (⟨3,d,en,tr,pa,ta,na,wh,st,te⟩:Go.Dol.Obj)=(decide (tr.size=32)&&cU pa&&aG wh st te&&(dq (⟨3,d,en,tr,pa,ta,na,wh,st,te⟩:Go.Dol.Obj)&&dr (⟨3,d,en,tr,pa,ta,na,wh,st,te⟩:Go.Dol.Obj)&&de (⟨3,d,en,tr,pa,ta,na,wh,st,te⟩:Go.Dol.Obj))):=rfl
theorem Fz (k Ad d cd Ae en ce tr Ap pa cp ta na wh st te w) (u:Rd w w.heap.size 3 Ae en.length (ec en)) (x:Rd w w.heap.size 1 Ap pa.length (pc pa)) (y:en.length<=kaa) (z:pa.length<=kaa) (A:Hid (∀e∈en,e.name.size<=maxLen)):
  Calls an 119 #[.agg #[.int .i64 k,.slice Ad d.length cd,.slice Ae en ce,.string tr,.slice Ap pa cp,.string ta,.string na,.string wh,.int .i64 st,.string te]] w fun e w'=>e= .returned (.int .i64 (gU (ay geS (⟨k,d,en,tr,pa,ta,na,wh,st,te⟩:Go.Dol.Obj))))/\Below w w w':=by
 have hb0:=bAl w (.cells #[k,.slice Ad d cd,.slice Ae en ce,tr,.slice Ap pa cp,ta,na,wh,st,te] 40);have f:=o9 w 40 (dP k (.slice Ad d cd) (.slice Ae en ce) tr (.slice Ap pa cp) ta na wh st te);have B:=u.alive hb0;have C:=x.alive hb0;obtain ⟨b,c⟩:=gX (ay geS (⟨k,d,en,tr,pa,ta,na,wh,st,te⟩:Go.Dol.Obj));rw [<-c];go_in;by_cases m:k=1
 ·subst m;have HR:Hid (b=(decide (d.length<=kad)&&(dr (⟨1,d,en,tr,pa,ta,na,wh,st,te⟩:Go.Dol.Obj)&&dp (⟨1,d,en,tr,pa,ta,na,wh,st,te⟩:Go.Dol.Obj)&&de (⟨1,d,en,tr,pa,ta,na,wh,st,te⟩:Go.Dol.Obj)&&ex (⟨1,d,en,tr,pa,ta,na,wh,st,te⟩:Go.Dol.Obj)))):=c;clear c;by_cases a:d.length<=kad
  case neg=>
   have i:=dfX ((d:Int)<=kad);have HF:Hid (b=false):=by unfold Hid;rw [HR,qF a];simp
   clear a;exact z30
  have i:=dtX ((d:Int)<=kad);replace HR:Hid (b=(true&&(dr (⟨1,d,en,tr,pa,ta,na,wh,st,te⟩:Go.Dol.Obj)&&dp (⟨1,d,en,tr,pa,ta,na,wh,st,te⟩:Go.Dol.Obj)&&de (⟨1,d,en,tr,pa,ta,na,wh,st,te⟩:Go.Dol.Obj)&&ex (⟨1,d,en,tr,pa,ta,na,wh,st,te⟩:Go.Dol.Obj)))):=by unfold Hid;rw [HR,dT a]
  clear a;go_wp2_with fail;refine (Fk 1 Ad d cd Ae en ce tr Ap pa cp ta na wh st te _).mono ?_;rintro e s ⟨v,h1,rfl,j⟩;have hb1:=hb0.next j;have hB1:=f.below j f.lt;obtain ⟨a0,a1,a2,a3,a4,a5,a6,a7,a8,a9⟩:=bg hB1;cases v
  all_goals go_wp2_with fail
  all_goals go_ret
  all_goals exact ⟨by rw [HR,h1];rfl,hb1⟩
 by_cases n:k=2
 ·subst n;have HR:Hid (b=(cT geS en&&(dq (⟨2,d,en,tr,pa,ta,na,wh,st,te⟩:Go.Dol.Obj)&&dp (⟨2,d,en,tr,pa,ta,na,wh,st,te⟩:Go.Dol.Obj)&&de (⟨2,d,en,tr,pa,ta,na,wh,st,te⟩:Go.Dol.Obj)&&ex (⟨2,d,en,tr,pa,ta,na,wh,st,te⟩:Go.Dol.Obj)))):=c;clear c;go_wp2_with fail;refine (Ft Ae en ce _ _ B y A).mono ?_;rintro e s ⟨rfl,l,rfl⟩;have hb1:=hb0.drewN' l;have hB1:=f.drewN l;obtain ⟨a0,a1,a2,a3,a4,a5,a6,a7,a8,a9⟩:=bg hB1;cases h1:cT geS en
  case false=>
   exact z105
  replace h1:=qI h1;go_wp2_with fail;clear a0 a1 a2 a3 a4 a5 a6 a7 a8 a9;refine (Fm 2 Ad d cd Ae en ce tr Ap pa cp ta na wh st te _).mono ?_;exact z62
 by_cases o:k=3
 ·subst o;have HR:Hid (b=(decide (tr.size=32)&&cU pa&&aG wh st te&&(dq (⟨3,d,en,tr,pa,ta,na,wh,st,te⟩:Go.Dol.Obj)&&dr (⟨3,d,en,tr,pa,ta,na,wh,st,te⟩:Go.Dol.Obj)&&de (⟨3,d,en,tr,pa,ta,na,wh,st,te⟩:Go.Dol.Obj)))):=c;clear c;by_cases a:tr.size=32
  case neg=>
   have i:((tr.size:Int)==32)=false:=beq_eq_false_iff_ne.2 qO;have HF:Hid (b=false):=by unfold Hid;rw [HR,qF a];simp
   clear a;exact z30
  have i:((tr.size:Int)==32)=true:=beq_iff_eq.2 qO;replace HR:Hid (b=(true&&cU pa&&aG wh st te&&(dq (⟨3,d,en,tr,pa,ta,na,wh,st,te⟩:Go.Dol.Obj)&&dr (⟨3,d,en,tr,pa,ta,na,wh,st,te⟩:Go.Dol.Obj)&&de (⟨3,d,en,tr,pa,ta,na,wh,st,te⟩:Go.Dol.Obj)))):=by unfold Hid;rw [HR,dT a]
  clear a;go_wp2_with fail;refine (Fy Ap pa cp _ _ C z).mono ?_;rintro e s ⟨rfl,l,rfl⟩;have hb1:=hb0.drewN' l;have hB1:=f.drewN l;obtain ⟨a0,a1,a2,a3,a4,a5,a6,a7,a8,a9⟩:=bg hB1;cases h1:cU pa
  case false=>
   exact z105
  replace h1:=qI h1;go_wp2_with fail;clear a0 a1 a2 a3 a4 a5 a6 a7 a8 a9;refine (uU 3 Ad d cd Ae en ce tr Ap pa cp ta na wh st te _).mono ?_;rintro e w2 ⟨rfl,g2⟩;have hb2:=hb1.next g2;have hB2:=hB1.below g2 hB1.lt;obtain ⟨a0,a1,a2,a3,a4,a5,a6,a7,a8,a9⟩:=bg hB2;cases h2:aG wh st te
  case false=>
   replace h2:=qI h2;go_wp2_with fail;go_ret;exact ⟨by rw [HR,h1,h2];rfl,hb2⟩
  replace h2:=qI h2;go_wp2_with fail;clear a0 a1 a2 a3 a4 a5 a6 a7 a8 a9;refine (Fp 3 Ad d cd Ae en ce tr Ap pa cp ta na wh st te _).mono ?_;rintro e I ⟨v,D,rfl,t⟩;have E:=hb2.next t;have F:=hB2.below t hB2.lt;obtain ⟨a0,a1,a2,a3,a4,a5,a6,a7,a8,a9⟩:=bg F;cases v
  all_goals go_wp2_with fail
  all_goals go_ret
  all_goals exact ⟨by rw [HR,h1,h2,D];rfl,E⟩
 by_cases q:k=4
 ·subst q;have HR:Hid (b=(decide (ta.size=32)&&decide (1<=na.size)&&decide (na.size<=200)&&aG wh st te&&(dq (⟨4,d,en,tr,pa,ta,na,wh,st,te⟩:Go.Dol.Obj)&&dr (⟨4,d,en,tr,pa,ta,na,wh,st,te⟩:Go.Dol.Obj)&&dp (⟨4,d,en,tr,pa,ta,na,wh,st,te⟩:Go.Dol.Obj)))):=c;clear c;by_cases a:ta.size=32
  case neg=>
   have i:((ta.size:Int)==32)=false:=beq_eq_false_iff_ne.2 qO;have HF:Hid (b=false):=by unfold Hid;rw [HR,qF a];simp
   clear a;exact z30
  have i:((ta.size:Int)==32)=true:=beq_iff_eq.2 qO;by_cases g:1<=na.size
  case neg=>
   have G:=dfX ((na.size:Int)>=1);have HF:Hid (b=false):=by unfold Hid;rw [HR,dT a,qF g];simp
   clear a g;exact z30
  have G:=dtX ((na.size:Int)>=1);by_cases r:na.size<=200
  case neg=>
   have H:=dfX ((na.size:Int)<=200);have HF:Hid (b=false):=by unfold Hid;rw [HR,dT a,dT g,qF r];simp
   clear a g r;exact z30
  have H:=dtX ((na.size:Int)<=200);replace HR:Hid (b=(true&&true&&true&&aG wh st te&&(dq (⟨4,d,en,tr,pa,ta,na,wh,st,te⟩:Go.Dol.Obj)&&dr (⟨4,d,en,tr,pa,ta,na,wh,st,te⟩:Go.Dol.Obj)&&dp (⟨4,d,en,tr,pa,ta,na,wh,st,te⟩:Go.Dol.Obj)))):=by unfold Hid;rw [HR,dT a,dT g,dT r]
  clear a g r;go_wp2_with fail;refine (uU 4 Ad d cd Ae en ce tr Ap pa cp ta na wh st te _).mono ?_;rintro e s ⟨rfl,j⟩;have hb1:=hb0.next j;have hB1:=f.below j f.lt;obtain ⟨a0,a1,a2,a3,a4,a5,a6,a7,a8,a9⟩:=bg hB1;cases h1:aG wh st te
  case false=>
   exact z105
  replace h1:=qI h1;go_wp2_with fail;clear a0 a1 a2 a3 a4 a5 a6 a7 a8 a9;refine (Fr 4 Ad d cd Ae en ce tr Ap pa cp ta na wh st te _).mono ?_;exact z62
 have HF:Hid (b=false):=by
  rw [c];unfold Hid ay;rw [if_neg m,if_neg n,if_neg o,if_neg q]
 have J:=beq_eq_false_iff_ne.2 m;have K:=beq_eq_false_iff_ne.2 n;have L:=beq_eq_false_iff_ne.2 o;have M:=beq_eq_false_iff_ne.2 q;clear m n o q c;go_wp2_with fail;go_ret;exact ⟨by rw [HF];rfl,hb0⟩
def FA (g:Nat) (T:LU) (ps:List BA) (e:List Value) (w:World) (b i:Value) (wr:World):Prop:=
 ∃(c:Nat) (l:LU) (d:OA) (a:Nat),i= .int .i64 c/\b= .slice d l a/\c<=ps/\Hid (l=T++bG (ps.take c))/\wr.ownsRow w 5 1 (.slice d l a) l (bc l)/\l<=a/\a<=maxLen/\Blk wr g 40 e/\Below w w wr
def FB (g:Nat) (T:LU) (d:List Ent) (f:List Value) (w:World) (b i:Value) (wr:World):Prop:=
 ∃(c:Nat) (l:LU) (e:OA) (a:Nat),i= .int .i64 c/\b= .slice e l a/\c<=d/\Hid (l=T++(d.take c).flatMap aY)/\wr.ownsRow w 5 1 (.slice e l a) l (bc l)/\l<=a/\a<=maxLen/\Blk wr g 40 f/\Below w w wr
theorem uV (k Ad d cd Ae en ce tr Ap pa cp ta na wh st te w) (hd:Rd w w.heap.size 1 Ad d.length (bc d)) (e2:Rd w w.heap.size 3 Ae en.length (ec en)) (f2:Rd w w.heap.size 1 Ap pa.length (pc pa)) (F2:en.length<=kaa) (G2:pa.length<=kaa) (H2:Hid (∀b∈en,b.name.size<=maxLen)):
  Calls an 51 #[.agg #[.int .i64 k,.slice Ad d cd,.slice Ae en ce,.string tr,.slice Ap pa cp,.string ta,.string na,.string wh,.int .i64 st,.string te]] w (RetEnc w (⟨k,d,en,tr,pa,ta,na,wh,st,te⟩:Go.Dol.Obj)):=by
 have L0:=bAl w (.cells #[k,.slice Ad d cd,.slice Ae en ce,tr,.slice Ap pa cp,ta,na,wh,st,te] 40);have g2:=o9 w 40 (dP k (.slice Ad d cd) (.slice Ae en ce) tr (.slice Ap pa cp) ta na wh st te);have I2:=hd.alive L0;have h2:=e2.alive L0;have i2:=f2.alive L0;have j2:=Fz k Ad d cd Ae en ce tr Ap pa cp ta na wh st te _ h2 i2 F2 G2 H2;go_in;go_wp2_with fail;refine j2.mono ?_;rintro b c ⟨rfl,q0⟩;have r:=L0.next q0;have r0:=g2.below q0 g2.lt;have G3:=r0.lt;clear j2;cases M0:ay geS (⟨k,d,en,tr,pa,ta,na,wh,st,te⟩:Go.Dol.Obj) with
 | false=>
  have g:=qI M0;rw [show gU false=1 from rfl];clear M0;go_wp2_with fail;go_ret2;exact ⟨r,.inr ⟨g.out,rfl⟩⟩
 | true=>
 have g:=qI M0;rw [show gU true=0 from rfl];clear M0;obtain ⟨e1,f1,g1,t,s0,j0,N0,t0,U,h1⟩:=bg r0;rcases jK g.out with h | h | h | h
 ·have V:k=1:=h;subst V;clear h;have i1:IntKind.u8.wrap 1=1:=by rfl
  have J2:=I2.alive q0;have u:(c.alloc (.cells #[.int .u8 1] 5)).ownsRow w.heap.size 5 1 (.slice (some ⟨c,0,none⟩) 1 1) 1 (bc [1]):=N6 c #[.int .u8 1] 1 r.size (by decide) rfl;have m:=bAl c (.cells #[.int .u8 1] 5);have i:=r.next m;have K2:=J2.alive m;have H3:d.length<=kad:=lI rfl g.out;go_wp2_with (at_builtin;refine bQ rfl (.tmp 37) (.tmp 39) rfl w.heap.size _ 1 [1] rfl u _ Ad d.length cd d rfl K2 (by omega) i.size ?_);intro L2 M2 N2 D O2 j P2 I3 J3 k2 h6;go_wp2_with fail;go_ret2;exact ⟨i.trans P2,.inl ⟨g.out,L2,M2,N2,by unfold Hid;rw [O2];rfl,rfl,j⟩⟩
 ·have V:k=2:=h;subst V;clear h;have i1:IntKind.u8.wrap 2=2:=by rfl
  have Q2:=h2.alive q0;have u:(c.alloc (.cells #[.int .u8 2] 5)).ownsRow w.heap.size 5 1 (.slice (some ⟨c,0,none⟩) 1 1) 1 (bc [2]):=N6 c #[.int .u8 2] 1 r.size (by decide) rfl;have m:=bAl c (.cells #[.int .u8 2] 5);have i:=r.next m;have E:=r0.alloc (.cells #[.int .u8 2] 5);have K3:=Q2.alive m;have O0:=iD rfl g.out;simp only at O0;have L3:=(gm O0).2;have M3:=oP O0;have j1:Hid (aj (en.length:Int)=en):=by unfold Hid aj;omega
  clear O0;go_wp2_with fail;refine (cj _ [2] 1 _ _ (d8 u) (by decide)).mono ?_;rintro b l2 ⟨u0,k1,l1,v0,rfl,W,v,X,Y⟩;have k0:=E.below v E.lt;have w0:=i.next v;have x0:=W.base i.size;obtain ⟨o,x⟩:=gX ([2]++num en);have hT:Hid (u0=o++(en.take 0).flatMap aY):=by
   unfold Hid;rw [v0,j1,x];simp
  have R2:o.length<=10:=by
   rw [x];simp only [b7,ND];have:=aJ 8 en qO;omega
  have m1:=qI x;obtain ⟨n1,o1,p1,q1,r1,s1,t1,d7,u1,v1⟩:=bg k0;clear e1 f1 g1 t s0 j0 N0 t0 U h1 x v0;go_wp2_with fail;clear n1 o1 p1 q1 r1 s1 t1 d7 u1 v1;go_loopw [4,5] (fun w1 Z wr=>FB w o en (dP 2 (.slice Ad d cd) (.slice Ae en ce) tr (.slice Ap pa cp) ta na wh st te) w w1 Z wr) (fun _ Z _=>en-(intOf Z).toNat)
  case atStart=>exact ⟨0,u0,k1,l1,rfl,rfl,zL,hT,x0,X,Y,k0,w0⟩
  case round=>
   clear hT x0 k0 w0 X Y W v;obtain ⟨a,e,y0,t,rfl,rfl,S2,hT,l0,X,Y,y,q⟩:=hrel;obtain ⟨F,G,H,I,J,K,L,M,N,O⟩:=bg y;have m0:=q.size;have T2:=qiJ (a+1);by_cases j:a<en
   ·have x1:=ltI a en.length;have U2:=zeI a;have y1:=e2.below q;obtain ⟨P,z1,rfl,V2,a0⟩:=y1.at_ qO;obtain ⟨m2,n2,o2⟩:=eR j;have z0:=a0 _ _ m2;have P0:wr.cell? ⟨P,z1+a*3+1,none⟩=_:=a0 _ _ n2;have Q0:wr.cell? ⟨P,z1+a*3+2,none⟩=_:=a0 _ _ o2;have p2:=uk j;have q2:=ul en[a];obtain ⟨R0,A1⟩:=gX (en[a]);have hsucc:Hid ((en.take (a+1)).flatMap aY=(en.take a).flatMap aY++aY R0):=by unfold Hid;rw [oO j,A1]
    rw [<-A1] at z0 P0 Q0 p2 q2;have r2:e+R0.name.size+1+R0.id.size<=o+(en.flatMap aY).length:=by
     exact z71
    obtain ⟨B1,W2,s2⟩:=R0;simp only at z0 P0 Q0 r2;clear A1 a0 m2 n2 o2 p2 q2;go_wp2_with fail;refine (gF y0 e t B1 wr (d8 l0) qO).mono ?_;rintro b N3 ⟨b0,O3,N0,e6,rfl,S0,c0,C1,D1⟩;have P3:b0.length<=e+9+B1.size:=by rw [e6,b7];have:=dX (s:=B1) qO;unfold tx at this;omega
    have A0:=y.below c0 y.lt;have T0:P<wr:=qO;have Q3:=(c0.cell (p:=⟨P,_,none⟩) T0).trans P0;have t2:=(c0.cell (p:=⟨P,_,none⟩) T0).trans Q0;clear F G H I J K L M N O z0 P0 Q0;obtain ⟨F,G,H,I,J,K,L,M,N,O⟩:=bg A0;cases W2 with
    | true=>
     go_wp2_with (at_builtin;refine cY rfl (.tmp 69) (.tmp 71) rfl wr.heap.size _ b0.length b0 rfl S0 rfl (by decide) (by decide) (by omega) c0.size ?_);intro d7 d0 X2 t0 Y2 ed7 e7 B0 C0 E1 _ Z2 a3;have D0:=c0.trans C0;have e0:=A0.grown E1 (fun b=>own_ne S0 A0 (by decide) b.symm);have b3:=(C0.cell (p:=⟨P,_,none⟩) T0).trans t2;have c3:d0.length<=b0+1:=by rw [e7,b7];exact lR _
     clear F G H I J K L M N O;obtain ⟨F,G,H,I,J,K,L,M,N,O⟩:=bg e0;go_wp2_with (at_builtin;refine et rfl (.tmp 73) (.tmp 79) rfl wr.heap.size _ d0.length d0 rfl B0 s2 rfl (by omega) D0.size ?_);intro F1 G1 U d3 e8 H1 I1 J1 K1 L1;go_wp2_with fail;refine ⟨⟨a+1,F1,G1,U,by go_num,rfl,j,?_,H1.base m0,K1,L1,e0.grown J1 (fun b=>own_ne B0 e0 (by decide) b.symm),q.trans ((D0.trans I1).mono m0)⟩,by simp [intOf];omega⟩;exact z104
    | false=>
    go_wp2_with (at_builtin;refine cY rfl (.tmp 69) (.tmp 71) rfl wr.heap.size _ b0.length b0 rfl S0 rfl (by decide) (by decide) (by omega) c0.size ?_);intro d7 d0 X2 t0 Y2 ed7 e7 B0 C0 E1 _ Z2 a3;have D0:=c0.trans C0;have e0:=A0.grown E1 (fun b=>own_ne S0 A0 (by decide) b.symm);have b3:=(C0.cell (p:=⟨P,_,none⟩) T0).trans t2;have c3:d0.length<=b0+1:=by rw [e7,b7];exact lR _
    clear F G H I J K L M N O;obtain ⟨F,G,H,I,J,K,L,M,N,O⟩:=bg e0;go_wp2_with (at_builtin;refine et rfl (.tmp 73) (.tmp 79) rfl wr.heap.size _ d0.length d0 rfl B0 s2 rfl (by omega) D0.size ?_);intro F1 G1 U d3 e8 H1 I1 J1 K1 L1;go_wp2_with fail;refine ⟨⟨a+1,F1,G1,U,by go_num,rfl,j,?_,H1.base m0,K1,L1,e0.grown J1 (fun b=>own_ne B0 e0 (by decide) b.symm),q.trans ((D0.trans I1).mono m0)⟩,by simp [intOf];omega⟩;exact z153
   have x1: ¬(a:Int)<en:=qO;have E0:a=en:=qO;have M1:Hid (e=ct (⟨2,d,en,tr,pa,ta,na,wh,st,te⟩:Go.Dol.Obj)):=by
    unfold Hid;rw [hT,E0,y7,m1];show _=[2]++fg en;unfold fg;rw [g9]
   clear E0;go_wp2_with fail;go_ret2;exact ⟨q,.inl ⟨g.out,e,y0,t,M1,rfl,l0⟩⟩
 ·have V:k=3:=h;subst V;clear h;have i1:IntKind.u8.wrap 3=3:=by rfl
  have e3:=i2.alive q0;have u:(c.alloc (.cells #[.int .u8 3] 5)).ownsRow w.heap.size 5 1 (.slice (some ⟨c,0,none⟩) 1 1) 1 (bc [3]):=N6 c #[.int .u8 3] 1 r.size (by decide) rfl;have m:=bAl c (.cells #[.int .u8 3] 5);have i:=r.next m;have E:=r0.alloc (.cells #[.int .u8 3] 5);have R3:=e3.alive m;obtain ⟨N1,U0,f0⟩:=lJ rfl g.out;obtain ⟨O1,P1,_,_⟩:=iy f0;simp only at N1 U0 f0 O1 P1;have S3:=(iA U0).2;have T3:=lH U0;have j1:Hid (aj (pa.length:Int)=pa):=by unfold Hid aj;omega
  clear f0 U0;go_wp2_with (at_builtin;refine et rfl (.tmp 83) (.tmp 85) rfl w.heap.size _ 1 [3] rfl u tr rfl (by omega) i.size ?_);intro g0 V0 W0 D n0 X0 Y0 Z0 f3 g3;have h3:g0.length<=33:=by rw [n0];simp only [List.length_cons,aC];omega
  have z:=E.grown Z0 (fun b=>own_ne u E (by decide) b.symm);have F0:=i.trans Y0;obtain ⟨n1,o1,p1,q1,r1,s1,t1,d7,u1,v1⟩:=bg z;clear e1 f1 g1 t s0 j0 N0 t0 U h1;go_wp2_with fail;refine (cj V0 g0 W0 _ D (d8 X0) qO).mono ?_;rintro b l2 ⟨u0,k1,l1,v0,rfl,W,v,X,Y⟩;have k0:=z.below v z.lt;have w0:=F0.next v;have x0:=W.base F0.size;obtain ⟨o,x⟩:=gX ([3]++tr.data.toList++num pa);have hT:Hid (u0=o++bG (pa.take 0)):=by
   unfold Hid;rw [v0,n0,j1,x];simp [bG]
  have R2:o.length<=42:=by
   rw [x];simp only [b7,aC,ND];have:=aJ 8 pa qO;omega
  have m1:=qI x;clear n1 o1 p1 q1 r1 s1 t1 d7 u1 v1 x n0 v0;go_wp2_with fail;go_loopw [4,7] (fun w1 Z wr=>FA w o pa (dP 3 (.slice Ad d cd) (.slice Ae en ce) tr (.slice Ap pa cp) ta na wh st te) w w1 Z wr) (fun _ Z _=>pa-(intOf Z).toNat)
  case atStart=>exact ⟨0,u0,k1,l1,rfl,rfl,zL,hT,x0,X,Y,k0,w0⟩
  case round=>
   clear hT x0 k0 w0 X Y z F0 X0 W Y0 v Z0;obtain ⟨a,e,y0,t,rfl,rfl,S2,hT,l0,X,Y,y,q⟩:=hrel;obtain ⟨F,G,H,I,J,K,L,M,N,O⟩:=bg y;have m0:=q.size;have r2:e.length<=o+(bG pa).length:=by rw [hT,b7];have:=lD pa a;omega
   have T2:=qiJ (a+1);by_cases j:a<pa
   ·have x1:=ltI a pa.length;have U2:=zeI a;have y1:=f2.below q;obtain ⟨P,z1,rfl,V2,a0⟩:=y1.at_ qO;have z0:=a0 _ _ (eQ j);obtain ⟨p,Q1⟩:=gX (pa[a]);rw [<-Q1] at z0;have hsucc:Hid (bG (pa.take (a+1))=bG (pa.take a)++p.data.toList):=by unfold Hid;rw [uj j,Q1]
    have i3:e+p.size<=kaa:=by
     have k2:=lD pa (a+1);rw [hsucc,b7,aC] at k2;exact z71
    have j3:some w.heap.size≠(Value.slice y0 e.length t).ownBlock:=fun b=>own_ne l0 y (by decide) b.symm;clear Q1 a0;go_wp2_with (at_builtin;refine et rfl (.tmp 99) (.tmp 104) rfl w.heap.size _ e.length e rfl l0 p rfl i3 m0 ?_);intro k3 l3 s0 l2 m3 W v n3 C1 D1;go_wp2_with fail;refine ⟨⟨a+1,k3,l3,s0,by go_num,rfl,j,?_,W,C1,D1,y.grown n3 j3,q.trans v⟩,by simp [intOf];omega⟩;unfold Hid;rw [m3,hT,hsucc,g9]
   have x1: ¬(a:Int)<pa:=qO;have E0:a=pa:=qO;have M1:Hid (e=o++bG pa):=by unfold Hid;rw [hT,E0,y7]
   clear E0;go_wp2_with fail;refine (gF y0 e t wh wr (d8 l0) qO).mono ?_;rintro b G0 ⟨a1,u2,j0,v2,rfl,o3,w2,C1,D1⟩;have b1:=y.below w2 y.lt;have p3:=d8 o3;have U3:a1.length<=e+(9+1000):=by rw [v2,b7];have:=dX (s:=wh) qO;unfold tx at this;omega
   have x2:=q.next w2;clear F G H I J K L M N O;go_wp2_with fail;have R1:G0.cell? ⟨w,8,none⟩=some (.int .i64 st)/\G0.cell? ⟨w,9,none⟩=some (.string te):=⟨by rw [b1.cell];rfl,by rw [b1.cell];rfl⟩;refine wp_region_held_drew (S:=fun Q=>Q.cell? ⟨w,8,none⟩=some (.int .i64 st)/\Q.cell? ⟨w,9,none⟩=some (.string te)) qkR R1 (fun R=> ?_);refine tl 0 (.slice u2 a1 j0) ?_;refine tl 1 (.pointer (some ⟨w,8,none⟩)) ?_;refine tl 2 (.int .i64 st) ?_;refine tl 4 (.pointer (some ⟨w,9,none⟩)) ?_;refine tl 5 (.string te) ?_;refine rh 3 fun H0 l=> ?_;go_simp;refine (cj u2 a1 j0 st G0.drew p3.drew qO).mono ?_;rintro b h0 ⟨i0,S1,T1,I0,rfl,U1,T,_,_⟩;have A:=b1.drew.below T b1.lt;have V1:=d8 U1;have q3:i0.length<=a1+9:=by rw [I0,b7];have:=aJ 8 (aj st) (by have:=eE st;unfold av at this;omega);omega
   have W1:h0.cell? ⟨w,8,none⟩=some (.int .i64 st)/\h0.cell? ⟨w,9,none⟩=some (.string te):=⟨by rw [A.cell];rfl,by rw [A.cell];rfl⟩;refine hO l W1 (fun R=> ?_);refine rh 6 fun H0 l=> ?_;go_simp;refine (gF S1 i0 T1 te h0 V1 qO).mono ?_;rintro b f ⟨B,o0,p0,J0,rfl,X1,K0,r3,s3⟩;have C:=A.below K0 A.lt;have t3:B.length<=i0+(9+1000):=by rw [J0,b7];have:=dX (s:=te) qO;unfold tx at this;omega
   have Y1:f.cell? ⟨w,8,none⟩=some (.int .i64 st)/\f.cell? ⟨w,9,none⟩=some (.string te):=⟨by rw [C.cell];rfl,by rw [C.cell];rfl⟩;refine hO l Y1 (fun R=> ?_);refine tl 7 (.slice o0 B p0) ?_;refine dn ?_;have Z1:Below G0 G0 f:=((bR _ _).drew).trans (Below.trans T (K0.mono T.size));go_wp2_with fail;go_ret2;refine ⟨x2.next Z1,.inl ⟨g.out,B,o0,p0,?_,rfl,X1.base (lT x2.size T.size)⟩⟩;unfold Hid;rw [J0,I0,v2,M1,m1];show _=[3]++(tr.data.toList++(gj pa++(tx wh++(num (aj st)++tx te))));unfold gj bG tx;simp only [g9]
 have V:k=4:=h;subst V;clear h;have i1:IntKind.u8.wrap 4=4:=by rfl
 have u:(c.alloc (.cells #[.int .u8 4] 5)).ownsRow w.heap.size 5 1 (.slice (some ⟨c,0,none⟩) 1 1) 1 (bc [4]):=N6 c #[.int .u8 4] 1 r.size (by decide) rfl;have m:=bAl c (.cells #[.int .u8 4] 5);have i:=r.next m;have E:=r0.alloc (.cells #[.int .u8 4] 5);obtain ⟨N1,u3,f0⟩:=oQ rfl g.out;obtain ⟨O1,P1,_,_⟩:=iy f0;simp only at N1 u3 f0 O1 P1;clear f0;go_wp2_with (at_builtin;refine et rfl (.tmp 17) (.tmp 19) rfl w.heap.size _ 1 [4] rfl u ta rfl (by omega) i.size ?_);intro g0 V0 W0 D n0 X0 Y0 Z0 f3 g3;have h3:g0.length<=33:=by rw [n0];simp only [List.length_cons,aC];omega
 have z:=E.grown Z0 (fun b=>own_ne u E (by decide) b.symm);have F0:=i.trans Y0;have v3:=d8 X0;clear e1 f1 g1 t s0 j0 N0 t0 U h1;go_wp2_with fail;have R1:D.cell? ⟨w,6,none⟩=some (.string na)/\D.cell? ⟨w,7,none⟩=some (.string wh):=⟨by rw [z.cell];rfl,by rw [z.cell];rfl⟩;refine wp_region_held_drew (S:=fun Q=>Q.cell? ⟨w,6,none⟩=some (.string na)/\Q.cell? ⟨w,7,none⟩=some (.string wh)) qkR R1 (fun R=> ?_);refine tl 0 (.slice V0 g0 W0) ?_;refine tl 1 (.pointer (some ⟨w,6,none⟩)) ?_;refine tl 2 (.string na) ?_;refine tl 4 (.pointer (some ⟨w,7,none⟩)) ?_;refine tl 5 (.string wh) ?_;refine rh 3 fun H0 l=> ?_;go_simp;refine (gF V0 g0 W0 na D.drew v3.drew qO).mono ?_;rintro b h0 ⟨i0,S1,T1,I0,rfl,U1,T,_,_⟩;have A:=z.drew.below T z.lt;have V1:=d8 U1;have q3:i0.length<=g0+(9+200):=by rw [I0,b7];have:=dX (s:=na) qO;unfold tx at this;omega
 have W1:h0.cell? ⟨w,6,none⟩=some (.string na)/\h0.cell? ⟨w,7,none⟩=some (.string wh):=⟨by rw [A.cell];rfl,by rw [A.cell];rfl⟩;refine hO l W1 (fun R=> ?_);refine rh 6 fun H0 l=> ?_;go_simp;refine (gF S1 i0 T1 wh h0 V1 qO).mono ?_;rintro b f ⟨B,o0,p0,J0,rfl,X1,K0,r3,s3⟩;have C:=A.below K0 A.lt;have t3:B.length<=i0+(9+1000):=by rw [J0,b7];have:=dX (s:=wh) qO;unfold tx at this;omega
 have Y1:f.cell? ⟨w,6,none⟩=some (.string na)/\f.cell? ⟨w,7,none⟩=some (.string wh):=⟨by rw [C.cell];rfl,by rw [C.cell];rfl⟩;refine hO l Y1 (fun R=> ?_);refine tl 7 (.slice o0 B p0) ?_;refine dn ?_;have Z1:Below D D f:=((bR _ _).drew).trans (Below.trans T (K0.mono T.size));have w3:=d8 X1;go_wp2_with fail;have x3:f.cell? ⟨w,8,none⟩=some (.int .i64 st)/\f.cell? ⟨w,9,none⟩=some (.string te):=⟨by rw [C.cell];rfl,by rw [C.cell];rfl⟩;refine wp_region_held_drew (S:=fun Q=>Q.cell? ⟨w,8,none⟩=some (.int .i64 st)/\Q.cell? ⟨w,9,none⟩=some (.string te)) qkR x3 (fun R=> ?_);refine tl 0 (.slice o0 B p0) ?_;refine tl 1 (.pointer (some ⟨w,8,none⟩)) ?_;refine tl 2 (.int .i64 st) ?_;refine tl 4 (.pointer (some ⟨w,9,none⟩)) ?_;refine tl 5 (.string te) ?_;refine rh 3 fun H0 l=> ?_;go_simp;refine (cj o0 B p0 st f.drew w3.drew qO).mono ?_;rintro b a2 ⟨b2,y3,z3,y2,rfl,A3,c1,_,_⟩;have d1:=C.drew.below c1 C.lt;have B3:=d8 A3;have V3:b2.length<=B+9:=by rw [y2,b7];have:=aJ 8 (aj st) (by have:=eE st;unfold av at this;omega);omega
 have C3:a2.cell? ⟨w,8,none⟩=some (.int .i64 st)/\a2.cell? ⟨w,9,none⟩=some (.string te):=⟨by rw [d1.cell];rfl,by rw [d1.cell];rfl⟩;refine hO l C3 (fun R=> ?_);refine rh 6 fun H0 l=> ?_;go_simp;refine (gF y3 b2 z3 te a2 B3 qO).mono ?_;rintro b c2 ⟨d2,z2,A2,B2,rfl,D3,C2,W3,X3⟩;have D2:=d1.below C2 d1.lt;have Y3:d2.length<=b2+(9+1000):=by rw [B2,b7];have:=dX (s:=te) qO;unfold tx at this;omega
 have E3:c2.cell? ⟨w,8,none⟩=some (.int .i64 st)/\c2.cell? ⟨w,9,none⟩=some (.string te):=⟨by rw [D2.cell];rfl,by rw [D2.cell];rfl⟩;refine hO l E3 (fun R=> ?_);refine tl 7 (.slice z2 d2 A2) ?_;refine dn ?_;have F3:Below f f c2:=((bR _ _).drew).trans (Below.trans c1 (C2.mono c1.size));go_wp2_with fail;go_ret2;have E2:=F0.next Z1;refine ⟨E2.next F3,.inl ⟨g.out,d2,z2,A2,?_,rfl,D3.base (lT E2.size c1.size)⟩⟩;unfold Hid;rw [B2,y2,J0,I0,n0];show _=[4]++(ta.data.toList++(tx na++(tx wh++(num (aj st)++tx te))));unfold tx;exact z139
def Rr (w:World) (B g:Nat) (l:LU) (b:Bool):Prop:=
 ∃(c:OA) (a:Nat),Blk w g 265 [.slice c l a,b]/\Far w B c l/\l<=a/\a<=maxLen/\l.length<=kaa/\B<=g
theorem Rr.keep {w w' B g l b} (c:Rr w B g l b) {row} (a:w.grownBy w' row) (d:some g≠row) (e:Other w B row):Rr w' B g l b:=by
 obtain ⟨f,h,i,j,k⟩:=c;exact ⟨f,h,i.grown a d,j.keep a e,k⟩
theorem Rr.below {w w' B g l b} (d:Rr w B g l b) (a:Below w.heap.size w w'):Rr w' B g l b:=by
 obtain ⟨e,f,c,h,i⟩:=d;exact ⟨e,f,c.below a c.lt,h.below a,i⟩
theorem Rr.drew {w B g l b} (a:Rr w B g l b):Rr w.drew B g l b:=by
 obtain ⟨c,d,e,f,h⟩:=a;exact ⟨c,d,e.drew,f.drew,h⟩
def pf {a:Type} (mk:a->Value) (P:a->Prop) (B g:Nat) (e:Option (a×LU)) (l:LU) (b:Bool) (w:World) (f:Ending) (w':World):Prop:=
 ∃(v:a) (c:LU) (d:Bool),f= .returned (mk v)/\Rr w' B g c d/\Hid (Took e b v c d)/\w.grownBy w' (some g)/\c.length<=l/\P v
theorem jM (B g n:Nat) (nI:Int) (hnI:nI=(n:Nat)) (l b w) (h:Rr w B g l b):
  Calls an 195 #[.pointer (some g),nI] w (pf mkS (fun v=>v.length<=n) B g (bf n l) l b w):=by
 obtain ⟨a,c,hB,hF,hc,hcm,d,hBg⟩:=h;have hO:=v8 hB (by decide) hBg;have e:=hB.c 0;have f:=hB.c 1;have i:=hB.free 0;have j:=hB.free 1;by_cases hn:l<n
 ·have d1:=dtX ((l:Int)<nI);have HT:Hid (bf n l=none):=by unfold Hid bf;rw [if_pos hn]
  clear hnI;go_in;go_wp2_with fail;go_ret;have hg:w.grownBy (w.setCell ⟨g,1,none⟩ (.bool true)) (some g):=ae (gR w _) 1 _;exact ⟨[],l,true,rfl,⟨a,c,hB.set 1 (.bool true),hF.keep hg hO,hc,hcm,d,hBg⟩,qI (iE b _ _ HT.out),hg,lR _,zL⟩
 exact z232
theorem lS (B g l b w) (z:Rr w B g l b):
  Calls an 193 #[.pointer (some g)] w (pf mkN (fun n=>n<=4611686018427387903) B g (ad l) l b w):=by
 obtain ⟨q,r,h,s,t,A,u,i⟩:=z;have v:=h.c 0;have x:=h.lt;go_in;go_wp2_with fail;refine (ee q l r w s.1 u t).mono ?_;intro K c j;rcases ht:ad l with _ | ⟨n,L⟩
 ·rw [ht] at j;obtain ⟨rfl,d⟩:=j;have a:=h.below d x;have m:=v8 a (by decide) i;have C:=a.c 1;have M:=a.free 1;have D:=a.c 0;have o:=qI ht;clear ht v;go_wp2_with fail;go_ret;have e:c.grownBy (c.setCell ⟨g,1,none⟩ (.bool true)) (some g):=ae (gR c _) 1 _;rw [o];exact ⟨0,l,true,rfl,⟨q,r,a.set 1 (.bool true),(s.below d).keep e m,t,A,u,i⟩,qI (iE _ _ _ rfl),aq (ax d _) e,lR _,by decide⟩
 rw [ht] at j;obtain ⟨f,k,p,y,rfl,E,d,F,G⟩:=j;have a:=h.below d x;have m:=v8 a (by decide) i;have C:=a.c 1;have N:=a.free 0;have D:=a.c 0;have o:=qI ht;have H:=qI (uE ht);have I:=qI ((ch ht).2);have J:Far c B k f:=J7 (s7 E);clear ht v;go_wp2_with fail;go_ret;have e:c.grownBy (c.setCell g (.slice k f p)) (some g):=ae (gR c _) 0 _;have O:f.length<l:=by rw [y];exact H.out
 rw [o];exact ⟨n,f,b,rfl,⟨k,p,a.set 0 (.slice k f p),J.keep e m,F,G,qO,i⟩,qI (gV _ (by rw [y])),aq (ax d _) e,qO,I.out⟩
theorem iG (B g l b w) (C:Rr w B g l b):
  Calls an 194 #[.pointer (some g)] w (pf mkS (fun v=>v.length<=1048576) B g (bM l) l b w):=by
 obtain ⟨q,r,i,s,t,D,u,j⟩:=C;have x:=i.c 0;have y:=i.lt;go_in;go_wp2_with fail;refine (rx q l r 1048576 w s.1 u t).mono ?_;intro E c e;change kF w (bM l) E c at e;rcases ht:bM l with _ | ⟨F,L⟩
 ·rw [ht] at e;obtain ⟨rfl,d⟩:=e;have a:=i.below d y;have n:=v8 a (by decide) j;have G:=a.c 1;have M:=a.free 1;have H:=a.c 0;have o:=qI ht;clear ht x;go_wp2_with fail;go_ret;have f:c.grownBy (c.setCell ⟨g,1,none⟩ (.bool true)) (some g):=ae (gR c _) 1 _;rw [o];exact ⟨[],l,true,rfl,⟨q,r,a.set 1 (.bool true),(s.below d).keep f n,t,D,u,j⟩,qI (iE _ _ _ rfl),aq (ax d _) f,lR _,by decide⟩
 rw [ht] at e;obtain ⟨h,k,p,z,rfl,m,d⟩:=e;have a:=i.below d y;have n:=v8 a (by decide) j;have G:=a.c 1;have N:=a.free 0;have H:=a.c 0;have o:=qI ht;have A:=qI (pb ht);have I:Far c B k h:=J7 m;have J:=m.2.1;have K:=m.2.2.1;clear ht x m;go_wp2_with fail;go_ret;have f:c.grownBy (c.setCell g (.slice k h p)) (some g):=ae (gR c _) 0 _;have O:h.length<=l:=by rw [z];exact A.1
 rw [o];exact ⟨F,h,b,rfl,⟨k,p,a.set 0 (.slice k h p),I.keep f n,J,K,qO,j⟩,qI (gV _ (by rw [z])),aq (ax d _) f,qO,A.2⟩
