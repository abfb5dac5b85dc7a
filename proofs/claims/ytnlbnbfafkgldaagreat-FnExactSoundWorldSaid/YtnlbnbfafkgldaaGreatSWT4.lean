/- What walks of Go code need. No condition. -/
import Derived.Test.YtnlbnbfafkgldaaGreatSWT3
import Derived.Laws.Strings
import Derived.Laws.BitsLemmas
set_option linter.unusedVariables false
namespace Go.TI
open Go
theorem TE {n:Int} (h1: -9223372036854775808<=n) (h2:n<=9223372036854775807):IntKind.i64.wrap n=n:=by rw[IntKind.wrap_i64];omega
theorem DZ {a b:Int} (h1: -9223372036854775808<=a+b) (h2:a+b<=9223372036854775807):ad a b=a+b:=TE h1 h2
theorem CB {a b:Int} (h1: -9223372036854775808<=a-b) (h2:a-b<=9223372036854775807):sb a b=a-b:=TE h1 h2
theorem W7 {a b:Int} (h1: -9223372036854775808<=a*b) (h2:a*b<=9223372036854775807):ml a b=a*b:=TE h1 h2
variable {γ α β S σ S' β':Type} {i by_ n r:Nat} {f g:Option Bool} {p q:Prop} {l:List α} {b:List γ} {body':S'->Option (S'⊕β)} {a:List γ} {s:σ} {x:γ} {z:α->Nat} {c:List γ} {lt:γ->γ->Bool} {X:List γ}
theorem ad1 (h:i<9223372036854775807):ad (i:Int) 1=((i+1:Nat):Int):=by rw[DZ]<;>omega
theorem NK (a b:ByteArray):seq a b=decide (a=b):=by
 unfold seq;rw[Ck,DF,A4];constructor
 ·intro h;rw[ByteArray.toList_eq,ByteArray.toList_eq]at h;cases a;cases b;simp only[ByteArray.mk.injEq];exact Pw h
 intro h;rw[h]
theorem AA:gi l (i:Int)=l[i]? :=by
 unfold gi;rw[Ar (by omega)];simp
theorem EO {x:α}:si l (i:Int) x=l.set i x:=by simp[si]
theorem AD:decide ((i:Int)<ln l)=decide (i<l.length):=by
 rw[Ck,A4,A4];simp[ln]
def Ix (step:σ->Nat->α->σ⊕β) (fin:σ->β):List α->Nat->σ->β
 |[],_,s=>fin s
 |x::l,i,s=>match step s i x with
  | .inl s'=>Ix step fin l (i+1) s'
  | .inr b=>b
theorem WA {body:S->Option (S⊕β)} (a:σ->Int->S) (l:List α) (step:σ->Nat->α->σ⊕β) (fin:σ->β) (c:Nat->σ->Prop) (h1:∀s i x,l[i]?=some x->c i s->body (a s (i:Nat))=some (match step s i x with| .inl s'=> .inl (a s' ((i+1:Nat):Int))| .inr b=> .inr b)/\∀s',step s i x= .inl s'->c (i+1) s') (h2:∀s,c l.length s->body (a s (l.length:Nat))=some (.inr (fin s))):∀(n i:Nat) (s:σ),i+n=l.length->c i s->Aq body (a s (i:Nat))=some (Ix step fin (l.drop i) i s)
 |0,i,s,hi,hs=>by
  have:i=l.length:=by omega
  subst this;rw[A9,h2 s hs,Cx (A5 _)];rfl
 |n+1,i,s,hi,hs=>by
  have d:i<l.length:=by omega
  obtain⟨h3,h4⟩:=h1 s i l[i] (Ad d) hs;rw[A9,h3,BP d,Ix]
  cases e:step s i l[i]with
  |inl s'=>simp only[];exact WA a l step fin c h1 h2 n (i+1) s' (by omega) (h4 s' e)
  |inr b=>rfl
theorem ID {body:S->Option (S⊕β)} (a:σ->Int->S) (l:List α) (step:σ->Nat->α->σ⊕β) (fin:σ->β) (c:Nat->σ->Prop) (h1:∀s i x,l[i]?=some x->c i s->body (a s (i:Nat))=some (match step s i x with| .inl s'=> .inl (a s' ((i+1:Nat):Int))| .inr b=> .inr b)/\∀s',step s i x= .inl s'->c (i+1) s') (h2:∀s,c l.length s->body (a s (l.length:Nat))=some (.inr (fin s))) (hs:c 0 s):Aq body (a s 0)=some (Ix step fin l 0 s):=
 WA a l step fin c h1 h2 l.length 0 s (by omega) hs
def zl (z:α->Nat) (l:List α):Nat:=l.length+(l.map z).sum
theorem JD {x:α} (h:x∈l):z x+1<=zl z l:=by
 unfold zl
 induction l with
 |nil=>cases h
 |cons y l ih=>
  simp only[BO,JN,AH]
  rcases B6.1 h with rfl|h
  ·omega
  have:=ih h;omega
theorem D9:l.length<=zl z l:=by unfold zl;omega
def Cs (z:α->Nat) (f:α->Int->Option Int) (x:α):Prop:=∀left:Int,0<=left->left<=1048576->∃v,f x left=some v/\(if(z x:Int)<=left then v=left-z x else v<0)
theorem fO (z:α->Nat):∀(l:List α) (i:Nat) (left:Int),0<=left->Ix (λ(left:Int) _ x=>if(z x:Int)<=left then .inl (left-z x)else .inr (.inr (-1))) (λleft=>(.inl left:Int⊕Int)) l i left=if((l.map z).sum:Int)<=left then .inl (left-(l.map z).sum)else .inr (-1)
 |[],i,left,h=>by simp[Ix,h]
 |x::l,i,left,h=>by
  have ih:=fO z l (i+1);simp only[Ix,BO,JN];by_cases hx:(z x:Int)<=left
  ·rw[Ar hx];simp only;rw[ih _ (by omega)];by_cases h2:((l.map z).sum:Int)<=left-z x
   ·rw[Ar h2,Ar (by omega)];congr 1;omega
   rw[Au h2,Au (by omega)]
  rw[Au hx,Au (by omega)]
theorem LK {g:Int->Option Int} (z:α->Nat) (f:α->Int->Option Int) (l:List α) (hM:l.length<=9223372036854775807) (hf:∀x∈l,Cs z f x) {body:Int×Int->Option ((Int×Int)⊕Int⊕Int)} (hb:∀left i,body (left,i)=bif decide (i<ln l)then((gi l i).bind λx=>(f x left).bind λv=>bif decide (v<0)then some (.inr (.inr (-1)))else some (.inl (v,ad i 1)))else some (.inr (.inl left))) (hg:∀left,g left=bif decide (sb left (ln l)<0)then some (-1)else(Aq body (sb left (ln l),0)).bind (Sum.elim (λv=>some v) some)) (left:Int) (h0:0<=left) (h1:left<=1048576):
  g left=some (if(zl z l:Int)<=left then left-zl z l else-1):=by
 have a:ln l=(l.length:Int):=rfl;rw[hg,CB (by rw[a];omega) (by rw[a];omega),a];by_cases hs:left-(l.length:Int)<0
 ·rw[Ab hs,Af,Au (by unfold zl;omega)]
 rw[Ae hs,Ac];have:=ID (body:=body) (λs i=>(s,i)) l (λ(left:Int) _ x=>if(z x:Int)<=left then .inl (left-z x)else .inr (.inr (-1))) (λleft=>(.inl left:Int⊕Int)) (λi left=>0<=left/\left<=1048576)
  (λs i x hx hi=>by
   obtain⟨v,h2,h3⟩:=hf x (A6 hx) s hi.1 hi.2;have b:=(Ag.1 hx).1;refine⟨?_,?_⟩
   ·rw[hb,AD,Ab b,Af,AA,hx,Aa,h2,Aa,ad1 (by omega)];by_cases hc:(z x:Int)<=s
    ·rw[Ar hc]at h3⊢;rw[Ae (by omega),Ac,h3]
    rw[Au hc]at h3⊢;rw[Ab h3,Af]
   intro s' hs';by_cases hc:(z x:Int)<=s
   ·rw[Ar hc]at hs'
    injection hs' with hs'
    omega
   rw[Au hc]at hs'
   cases hs')
  (λs hi=>by rw[hb,AD,Ae (by omega),Ac]) (s:=left-l.length) ⟨by omega,by omega⟩
 rw[this,fO _ _ _ _ (by omega)];by_cases hc:((l.map z).sum:Int)<=left-l.length
 ·rw[Ar hc,Ar (by unfold zl;omega)];simp only[Aa,B3,zl];congr 1;omega
 rw[Au hc,Au (by unfold zl;omega)];rfl
theorem HQ {g:List α->Int->Option Int} (h:∀left:Int,0<=left->left<=1048576->g l left=some (if(zl z l:Int)<=left then left-zl z l else-1)):Cs (zl z) g l:=by
 intro left h0 h1;refine⟨_,h left h0 h1,?_⟩;by_cases hc:(zl z l:Int)<=left
 ·rw[Ar hc,Ar hc]
 rw[Au hc,Au hc];omega
theorem Ji {z0:α} {g:Option (List α)} (f:α->Option α) (l:List α) (hM:l.length<=9223372036854775807) (hB:by_*l.length<=281474976710656) (hf:∀x∈l,f x=some x) {body:List α×Int->Option ((List α×Int)⊕List α)} (hb:∀a i,body (a,i)=bif decide (i<ln l)then((gi l i).bind λx=>(f x).bind λv=>(gi a i).bind λ_=>some (.inl (si a i v,ad i 1)))else some (.inr a)) (hg:g=(mk by_ z0 (ln l)).bind λc=>(Aq body (c,0)).bind λv=>some v):g=some l:=by
 have h:ln l=(l.length:Int):=rfl;have j:mk by_ z0 (ln l)=some (List.replicate l.length z0):=by
  unfold mk;have hB':((by_*l.length:Nat):Int)<=281474976710656:=by omega
  rw[Int.natCast_mul]at hB';rw[h,Ar ⟨by omega,hB',by omega⟩,AZ]
 rw[hg,j,Aa];have d:∀(m:List α) (i:Nat) (a:List α),Ix (λ(a:List α) i x=>(.inl (a.set i x):List α⊕List α)) (λa=>a) m i a=(m.zipIdx i).foldl (λa p=>a.set p.2 p.1) a:=by
  intro m
  induction m with
  |nil=>intro i a;rfl
  |cons x m ih=>intro i a;simp only[Ix,Sx,Nv];exact ih _ _
 have e:∀(m b a:List α),a.length=b.length+m.length->a.take b.length=b->(m.zipIdx b.length).foldl (λa p=>a.set p.2 p.1) a=b++m:=by
  intro m
  induction m with
  |nil=>
   intro b a h1 h2;simp only[List.zipIdx_nil,List.foldl_nil,Aw];rw[<-h2,AT (by simp at h1;omega)]
  |cons x m ih=>
   intro b a h1 h2;simp only[Sx,Nv]
   have:=ih (b++ [x]) (a.set b.length x) (by simp at h1⊢;omega) (by
    simp only[AH]at h1
    rw[Ah,Aj,Az (by simp;omega),List.take_set_of_le (A5 _),h2,List.getElem_set_self])
   rw[Ah,Aj]at this;rw[this];simp
 have:=ID (body:=body) (λs i=>(s,i)) l (λ(a:List α) i x=>(.inl (a.set i x):List α⊕List α)) (λa=>a) (λi a=>a.length=l.length)
  (λs i x hx hi=>by
   have k:=(Ag.1 hx).1;refine⟨?_,?_⟩
   ·rw[hb,AD,Ab k,Af,AA,hx,Aa,hf x (A6 hx),Aa,AA,Ad (by omega),Aa,ad1 (by omega),EO]
   intro s' hs'
   injection hs' with hs'
   rw[<-hs',EL,hi])
  (λs hi=>by rw[hb,AD,Ae (by omega),Ac]) (s:=List.replicate l.length z0) (by simp)
 rw[this,d,Aa];exact Cq some (e l [] _ (by simp) (by simp))
theorem Yq {body:Int->Option (Int⊕Unit⊕Bool)} (a:List α) (b:List β) (p:α->β->Bool) (hl:a.length=b.length) (hM:a.length<=9223372036854775807) (h1:∀(i:Nat) x y,a[i]?=some x->b[i]?=some y->body (i:Nat)=some (bif p x y then .inl (((i+1:Nat)):Int)else .inr (.inr false))) (h2:body (a.length:Nat)=some (.inr (.inl ()))):
  Aq body 0=some (bif(a.zip b).all (λz=>p z.1 z.2)then .inl ()else .inr false):=by
 have hz:(a.zip b).length=a.length:=by simp[hl]
 have:=ID (body:=body) (λ(_:Unit) i=>i) (a.zip b) (λ_ _ z=>bif p z.1 z.2 then .inl ()else .inr (.inr false)) (λ_=> .inl ()) (λ_ _=>True)
  (λs i x hx _=>by
   refine⟨?_,λ_ _=>trivial⟩;obtain⟨x1,x2⟩:=x;have hx':=Ag.1 hx;obtain⟨d,hx'⟩:=hx';rw[List.getElem_zip]at hx'
   injection hx' with e1 e2
   rw[h1 i x1 x2 (by rw[<-e1];exact Ad _) (by rw[<-e2];exact Ad _)];simp only
   cases p x1 x2<;>rfl)
  (λs _=>by rw[hz];exact h2) (s:=()) trivial
 rw[this];have c:∀(m:List (α×β)) (i:Nat),Ix (λ(_:Unit) _ z=>bif p z.1 z.2 then .inl ()else .inr (.inr false)) (λ_=>(.inl ():Unit⊕Bool)) m i ()=bif m.all (λz=>p z.1 z.2)then .inl ()else .inr false:=by
  intro m
  induction m with
  |nil=>intro i;rfl
  |cons z m ih=>
   intro i;simp only[Ix,DE]
   cases p z.1 z.2 with
   |false=>rfl
   |true=>simp only[Af,BI];exact ih _
 rw[c]
theorem O6 {p:α->α->Bool}:∀{a b:List α},(∀x∈a,∀y∈b,p x y=true↔x=y)->a.length=b.length->((a.zip b).all (λz=>p z.1 z.2)=true↔a=b)
 |[],[],_,_=>by simp
 |x::a,y::b,hp,h=>by
  have ih:=O6 (p:=p) (a:=a) (b:=b) (λx' hx y' hy=>hp x' (CJ _ hx) y' (CJ _ hy)) (by simpa using h);simp only[List.zip_cons_cons,DE,Ai,ih,hp x Cl y Cl,TC]
 |[],_::_,_,h=>by simp at h
 |_::_,[],_,h=>by simp at h
def Ds (f:Option Bool) (x y:γ):Prop:=∃v,f=some v/\(v=true↔x=y)
theorem Hu (f:α->α->Option Bool) (a b:List α) (hM:a.length<=9223372036854775807) (hf:∀x∈a,∀y∈b,Ds (f x y) x y) {body:Int->Option (Int⊕Unit⊕Bool)} (hb:∀i,body i=bif decide (i<ln a)then((gi a i).bind λx=>(gi b i).bind λy=>(f x y).bind λv=>bif !v then some (.inr (.inr false))else some (.inl (ad i 1)))else some (.inr (.inl ()))) (hg:g=bif(ln a !=ln b)then some false else(Aq body 0).bind (Sum.elim (λ_=>some true) some)):Ds g a b:=by
 by_cases hl:a.length=b.length
 ·have c:(ln a !=ln b)=false:=by simp[ln,hl]
  have:=Yq (body:=body) a b (λx y=>(f x y).getD false) hl hM
   (λi x y hx hy=>by
    have d:=(Ag.1 hx).1;obtain⟨v,hv,_⟩:=hf x (A6 hx) y (A6 hy);rw[hb,AD,Ab d,Af,AA,hx,Aa,AA,hy,Aa,hv,Aa,ad1 (by omega),Bu]
    cases v<;>rfl)
   (by rw[hb,AD,Ae (by omega),Ac])
  rw[this,c,Ac]at hg;refine⟨(a.zip b).all (λz=>(f z.1 z.2).getD false),?_,O6 (p:=λx y=>(f x y).getD false) (λx hx y hy=>?_) hl⟩
  ·rw[hg];cases(a.zip b).all (λz=>(f z.1 z.2).getD false)<;>rfl
  obtain⟨v,hv,h⟩:=hf x hx y hy;rw[hv];exact h
 have c:(ln a !=ln b)=true:=by simp[ln];omega
 rw[c,Af]at hg;exact⟨false,hg,by simp;intro e;exact hl (by rw[e])⟩
theorem Wi (a b:ByteArray):Ds (some (seq a b)) a b:=⟨_,rfl,by rw[NK,A4]⟩
theorem cE {y:γ} (h:Ds f x y) (k:Ds g x y):∃v,f=some v/\g=some v:=by
 obtain⟨v,h1,h2⟩:=h;obtain⟨u,k1,k2⟩:=k;refine⟨v,h1,?_⟩;rw[k1];congr 1;rw[Ck,h2,k2]
theorem cD (h:Ds f x x):f=some true:=by
 obtain⟨v,h1,h2⟩:=h;rw[h1,h2.2 rfl]
def JB (f:Option Bool) (p:Prop):Prop:=∃v,f=some v/\(v=true↔p)
theorem FY:JB (some true) True:=⟨true,rfl,by simp⟩
theorem DP {b:Bool} (h:b=true↔¬p) (k:JB f q):JB (bif b then some false else f) (p/\q):=by
 cases b with
 |true=>exact⟨false,rfl,by simpa using λe=>absurd e (h.1 rfl)⟩
 |false=>
  obtain⟨v,h1,h2⟩:=k;have:p:=by
   refine Classical.byContradiction λe=>?_
   exact absurd (h.2 e) (by simp)
  exact⟨v,h1,by simp[this,h2]⟩
theorem Ec (h:JB g p) (k:JB f q):JB (g.bind λv=>bif !v then some false else f) (p/\q):=by
 obtain⟨v,rfl,h⟩:=h;rw[Aa];exact DP (by cases v<;>simp_all) k
theorem lF {a b:ByteArray}:(!seq a b)=true↔¬a=b:=by rw[NK];simp
theorem UE {body:S->Option (S⊕β)} (a:σ->Int->S) (n:Nat) (c:Nat->σ->Prop) (Q:β->Prop) (h1:∀s i,i<n->c i s->(∃s',body (a s (i:Nat))=some (.inl (a s' ((i+1:Nat):Int)))/\c (i+1) s')\/∃b,body (a s (i:Nat))=some (.inr b)/\Q b) (h2:∀s,c n s->∃b,body (a s (n:Nat))=some (.inr b)/\Q b):∀(k i:Nat) (s:σ),i+k=n->c i s->∃b,Aq body (a s (i:Nat))=some b/\Q b
 |0,i,s,hi,hs=>by
  have:i=n:=by omega
  subst this;obtain⟨b,h3,h4⟩:=h2 s hs;exact⟨b,by rw[A9,h3],h4⟩
 |k+1,i,s,hi,hs=>by
  rcases h1 s i (by omega) hs with⟨s',h3,h4⟩|⟨b,h3,h4⟩
  ·obtain⟨b,h5,h6⟩:=UE a n c Q h1 h2 k (i+1) s' (by omega) h4;exact⟨b,by rw[A9,h3];exact h5,h6⟩
  exact⟨b,by rw[A9,h3],h4⟩
theorem Bx {body:S->Option (S⊕β)} (a:σ->Int->S) (n:Nat) (c:Nat->σ->Prop) (Q:β->Prop) (h1:∀s i,i<n->c i s->(∃s',body (a s (i:Nat))=some (.inl (a s' ((i+1:Nat):Int)))/\c (i+1) s')\/∃b,body (a s (i:Nat))=some (.inr b)/\Q b) (h2:∀s,c n s->∃b,body (a s (n:Nat))=some (.inr b)/\Q b) (hs:c 0 s):∃b,Aq body (a s 0)=some b/\Q b:=
 UE a n c Q h1 h2 n 0 s (by omega) hs
theorem WB {body body':S->Option (S⊕β)} (a:σ->Int->S) (n:Nat) (c:Nat->σ->Prop) (Q:β->Prop) (h1:∀s i,i<n->c i s->body' (a s (i:Nat))=body (a s (i:Nat))/\((∃s',body (a s (i:Nat))=some (.inl (a s' ((i+1:Nat):Int)))/\c (i+1) s')\/∃b,body (a s (i:Nat))=some (.inr b)/\Q b)) (h2:∀s,c n s->body' (a s (n:Nat))=body (a s (n:Nat))/\∃b,body (a s (n:Nat))=some (.inr b)/\Q b):∀(k i:Nat) (s:σ),i+k=n->c i s->∃b,Aq body (a s (i:Nat))=some b/\Aq body' (a s (i:Nat))=some b/\Q b
 |0,i,s,hi,hs=>by
  have:i=n:=by omega
  subst this;obtain⟨e,b,h3,h4⟩:=h2 s hs;exact⟨b,by rw[A9,h3],by rw[A9,e,h3],h4⟩
 |k+1,i,s,hi,hs=>by
  obtain⟨e,h⟩:=h1 s i (by omega) hs
  rcases h with⟨s',h3,h4⟩|⟨b,h3,h4⟩
  ·obtain⟨b,h5,h6,h7⟩:=WB a n c Q h1 h2 k (i+1) s' (by omega) h4;exact⟨b,by rw[A9,h3];exact h5,by rw[A9,e,h3];exact h6,h7⟩
  exact⟨b,by rw[A9,h3],by rw[A9,e,h3],h4⟩
theorem LX {body body':S->Option (S⊕β)} (a:σ->Int->S) (n:Nat) (c:Nat->σ->Prop) (Q:β->Prop) (h1:∀s i,i<n->c i s->body' (a s (i:Nat))=body (a s (i:Nat))/\((∃s',body (a s (i:Nat))=some (.inl (a s' ((i+1:Nat):Int)))/\c (i+1) s')\/∃b,body (a s (i:Nat))=some (.inr b)/\Q b)) (h2:∀s,c n s->body' (a s (n:Nat))=body (a s (n:Nat))/\∃b,body (a s (n:Nat))=some (.inr b)/\Q b) (hs:c 0 s):∃b,Aq body (a s 0)=some b/\Aq body' (a s 0)=some b/\Q b:=
 WB a n c Q h1 h2 n 0 s (by omega) hs
theorem KH {body:Int->Option (Int⊕β)} (l:List α) (p:Nat->α->Bool) (no yes:β) (hM:l.length<=9223372036854775807) (h1:∀(i:Nat) x,l[i]?=some x->body (i:Nat)=some (bif p i x then .inl (((i+1:Nat)):Int)else .inr no)) (h2:body (l.length:Nat)=some (.inr yes)):
  Aq body 0=some (bif l.zipIdx.all (λz=>p z.2 z.1)then yes else no):=by
 have:=ID (body:=body) (λ(_:Unit) i=>i) l (λ_ i x=>bif p i x then .inl ()else .inr no) (λ_=>yes) (λ_ _=>True)
  (λs i x hx _=>by
   refine⟨?_,λ_ _=>trivial⟩;rw[h1 i x hx]
   cases p i x<;>rfl)
  (λs _=>h2) (s:=()) trivial
 rw[this];have a:∀(m:List α) (i:Nat),Ix (λ(_:Unit) i x=>bif p i x then .inl ()else .inr no) (λ_=>yes) m i ()=bif(m.zipIdx i).all (λz=>p z.2 z.1)then yes else no:=by
  intro m
  induction m with
  |nil=>intro i;rfl
  |cons z m ih=>
   intro i;simp only[Ix,Sx,DE]
   cases p i z with
   |false=>rfl
   |true=>simp only[Af,BI];exact ih _
 rw[a]
theorem UD {body:Int×List γ->Option ((Int×List γ)⊕List γ)} (l:List α) (f:α->γ) (h1:∀(i:Nat) x (a:List γ),l[i]?=some x->a.length=i->body ((i:Nat),a)=some (.inl (((i+1:Nat):Int),a++ [f x]))) (h2:∀a,body ((l.length:Nat),a)=some (.inr a)):
  Aq body (0,[])=some (l.map f):=by
 have:=ID (body:=body) (λ(s:List γ) i=>(i,s)) l (λa _ x=>(.inl (a++ [f x]):List γ⊕List γ)) (λa=>a) (λi a=>a.length=i)
  (λs i x hx hi=>by
   refine⟨h1 i x s hx hi,λs' hs=>?_⟩
   injection hs with hs
   rw[<-hs,Ah,Aj,hi])
  (λs _=>h2 s) (s:=[]) rfl
 rw[this];have b:∀(m:List α) (i:Nat) (a:List γ),Ix (λa _ x=>(.inl (a++ [f x]):List γ⊕List γ)) (λa=>a) m i a=a++m.map f:=by
  intro m
  induction m with
  |nil=>intro i a;simp[Ix]
  |cons z m ih=>
   intro i a;simp only[Ix,ih,BO,Av,FB]
 rw[b,AC]
theorem U8 {z:α} (h:by_*n<=281474976710656) (h2:n<=9223372036854775807):mk by_ z (n:Int)=some (List.replicate n z):=by
 unfold mk;have:((by_*n:Nat):Int)<=281474976710656:=by omega
 rw[Int.natCast_mul]at this;rw[Ar ⟨by omega,this,by omega⟩,AZ]
theorem C4 {m:List α} (h:(l.length+m.length)*by_<=140737488355328):ap by_ l m=some (l++m):=Ar h
theorem SM {i:Int} (h1:0<=i) (h2:i<l.length):gi l i=some (l[i.toNat]'(by omega)):=by
 unfold gi;rw[Ar h1];exact Ad _
theorem BT:ln l=(l.length:Int):=rfl
def L (s:ByteArray):List UInt8:=s.data.toList
theorem R9 {a b:ByteArray} (h:L a=L b):a=b:=by
 cases a;cases b;simp only[L]at h;simp only[ByteArray.mk.injEq];exact Pw h
theorem Sy (s:ByteArray):(L s).length=s.size:=by cases s;rfl
theorem Fu (a b:ByteArray):L (a++b)=L a++L b:=by simp[L]
theorem Mi (l:List UInt8):L (bs l)=l:=by simp[L,bs]
theorem LC (l:List Int):L (H3 l)=l.map λn=>UInt8.ofNat n.toNat:=strOfNums_data l
theorem KS (s:ByteArray) (i j:Nat):L (s.extract i j)=((L s).drop i).take (j-i):=by
 have:s=ByteArray.mk (L s).toArray:=by cases s;simp[L]
 rw[this,ByteArray.extract_mk];simp[L]
theorem CX (s:ByteArray):EU s=((L s).length:Int):=by rw[Sy];rfl
theorem I1 (s:ByteArray) (h:i<(L s).length):sx s (i:Int)=some (((L s)[i]).toNat:Int):=by
 have h':i<s.size:=by rw[<-Sy];exact h
 unfold sx;rw[Ar ⟨by omega,by omega⟩];unfold AU.bt;rw[dif_pos (by simpa using h')];rfl
theorem IQ {j:Nat} (s:ByteArray) (h1:i<=j) (h2:j<=(L s).length):sub s (i:Int) (j:Int)=some (s.extract i j):=by
 rw[Sy]at h2;unfold sub;rw[Ar ⟨by omega,by omega,by omega⟩,AZ,AZ]
theorem JK (a b:ByteArray) (h:(L a).length+(L b).length<=9223372036854775807):T9 a b=some (a++b):=by
 rw[Sy,Sy]at h;unfold T9;rw[Au (by omega)]
theorem QU (a b:ByteArray):seq a b=decide (L a=L b):=by
 rw[NK,Ck,A4,A4];exact⟨λh=>by rw[h],R9⟩
def KV (n:Nat):List UInt8:=if h:n<=127 then [UInt8.ofNat n]else UInt8.ofNat (n %128+128)::KV (n/128)
termination_by n
decreasing_by omega
def Gt:List UInt8->Nat
 |[]=>0
 |d::ds=>d.toNat %128+128*Gt ds
theorem S4:∀(ds es:List UInt8),Gt (ds++es)=Gt ds+128^ds.length*Gt es
 |[],es=>by simp[Gt]
 |d::ds,es=>by
  simp only[Ci,Gt,S4 ds es,AH,Nat.pow_succ];rw[Nat.mul_add,Gr];congr 2;rw[<-Nat.mul_assoc,Nat.mul_comm 128]
theorem fM (d:UInt8):d.toNat<256:=d.toNat_lt
theorem Qk (h:n<=127):KV n=[UInt8.ofNat n]:=by rw[KV,dif_pos h]
theorem aO (h:¬n<=127):KV n=UInt8.ofNat (n %128+128)::KV (n/128):=by rw[KV,dif_neg h]
theorem Wd:∀{ds:List UInt8} {x:UInt8},Gt (ds++ [x])=0->x.toNat<128->x.toNat=0
 |[],x,h,hx=>by simp[Gt]at h;omega
 |d::ds,x,h,hx=>by
  simp only[Ci,Gt]at h;exact Wd (ds:=ds) (by omega) hx
theorem WM:∀(ds:List UInt8) (x:UInt8),(∀d∈ds,128<=d.toNat)->x.toNat<128->(KV (Gt (ds++ [x]))=ds++ [x]↔¬(x.toNat=0/\ds≠ []))
 |[],x,_,hx=>by
  have:Gt ([]++ [x])=x.toNat:=by simp[Gt];omega
  rw[this,Qk (by omega)];simp
 |d::ds,x,hd,hx=>by
  have ih:=WM ds x (λe he=>hd e (CJ _ he)) hx;have h1:=hd d Cl;have h2:=fM d;have hv:Gt (d::ds++ [x])=d.toNat-128+128*Gt (ds++ [x]):=by
   simp only[Ci,Gt];omega
  rw[hv];by_cases h0:Gt (ds++ [x])=0
  ·have a:=Wd h0 hx;rw[h0,Qk (by omega)];refine iff_of_false ?_ (by simp[a]);intro e;have:=Cq List.length e;simp at this
  rw[aO (by omega)];have e1:UInt8.ofNat ((d.toNat-128+128*Gt (ds++ [x])) %128+128)=d:=by
   have:(d.toNat-128+128*Gt (ds++ [x])) %128+128=d.toNat:=by omega
   rw[this,UInt8.ofNat_toNat]
  have e2:(d.toNat-128+128*Gt (ds++ [x]))/128=Gt (ds++ [x]):=by omega
  rw[e1,e2,Ci,TC];rw[ih];constructor
  ·rintro⟨_,h⟩ ⟨h3,_⟩;refine h ⟨h3,?_⟩;rintro rfl;apply h0;simp[Gt,h3]
  intro h;exact⟨rfl,λh3=>h ⟨h3.1,by simp⟩⟩
theorem WN {body:Int×List Int->Option ((Int×List Int)⊕(Int×List Int))} (hb:∀n a,body (n,a)=bif decide (n>127)then((ap 1 a [IntKind.u8.wrap (ad (Int.tmod n 128) 128)]).bind λc=>some (.inl (qu n 128,c)))else some (.inr (n,a))):
  ∀(n:Nat) (a:List Int),a.length+n<=1099511627776->∃(m:Nat) (o:List Int),Aq body ((n:Int),a)=some ((m:Int),o)/\m<=127/\o.length<=a.length+n/\(o++ [(m:Int)]).map (λn=>UInt8.ofNat n.toNat)=a.map (λn=>UInt8.ofNat n.toNat)++KV n
 |n,a,h=>by
  rw[A9,hb];by_cases hn:n<=127
  ·rw[Ae (by omega),Ac];exact⟨n,a,rfl,hn,by omega,by rw[Qk hn];simp⟩
  rw[Ab (by omega),Af,C4 (by simp only[Aj];omega),Aa];have e1:Int.tmod (n:Int) 128=((n %128:Nat):Int):=rfl;have e2:qu (n:Int) 128=((n/128:Nat):Int):=by
   unfold qu;rw[show Int.tdiv (n:Int) 128=((n/128:Nat):Int)from Int.ofNat_tdiv n 128|>.symm,TE (by omega) (by omega)]
  have e3:IntKind.u8.wrap (ad (Int.tmod (n:Int) 128) 128)=((n %128+128:Nat):Int):=by
   rw[e1,DZ (by omega) (by omega),IntKind.wrap_u8];omega
  obtain⟨m,o,h1,h2,h3,h4⟩:=WN hb (n/128) (a++ [((n %128+128:Nat):Int)]) (by simp only[Ah,Aj];omega);rw[e2,e3];refine⟨m,o,h1,h2,by simp only[Ah,Aj]at h3;omega,?_⟩;rw[h4,aO hn,Dt,Av];rfl
termination_by n=>n
decreasing_by omega
theorem tR {s:Int} (h0:0<=s) (h1:s<4294967296):IntKind.u32.wrap (Int.tdiv s 2)=Int.fdiv s (2^(min (1:Int).toNat IntKind.u32.bits)):=by
 have e:(2:Int)^(min (1:Int).toNat IntKind.u32.bits)=2:=by decide
 rw[e,IntKind.wrap_u32,Int.tdiv_eq_ediv_of_nonneg h0,Int.fdiv_eq_ediv_of_nonneg _ (by omega)];omega
theorem w6 {s:Int} (h0:0<=s) (h1:s<4294967296):an s 1=Int.tmod s 2:=by
 unfold an;obtain⟨n,rfl⟩:=Co h0;have:(BitVec.ofInt 32 (n:Int)&&&BitVec.ofInt 32 1).toNat=n %2:=by
  rw[BitVec.toNat_and,BitVec.ofInt_natCast,BitVec.toNat_ofNat];have e1:(BitVec.ofInt 32 1).toNat=1:=by decide
  rw[e1,Nat.and_one_is_mod];omega
 rw[this,IntKind.wrap_u32,Int.tmod_eq_emod_of_nonneg (by omega)];omega
theorem qL (a b:Int):0<=xr a b/\xr a b<4294967296:=by
 unfold xr;rw[IntKind.wrap_u32];omega
theorem W9 {body:S->Option (S⊕β)} (a:σ->Int->S) (mkS':σ->Int->S') (n:Nat) (c:Nat->σ->Prop) (Q:β->Prop) (h1:∀s i,i<n->c i s->(∃s',body (a s (i:Nat))=some (.inl (a s' ((i+1:Nat):Int)))/\body' (mkS' s (i:Nat))=some (.inl (mkS' s' ((i+1:Nat):Int)))/\c (i+1) s')\/∃b,body (a s (i:Nat))=some (.inr b)/\body' (mkS' s (i:Nat))=some (.inr b)/\Q b) (h2:∀s,c n s->∃b,body (a s (n:Nat))=some (.inr b)/\body' (mkS' s (n:Nat))=some (.inr b)/\Q b):∀(k i:Nat) (s:σ),i+k=n->c i s->∃b,Aq body (a s (i:Nat))=some b/\Aq body' (mkS' s (i:Nat))=some b/\Q b
 |0,i,s,hi,hs=>by
  have:i=n:=by omega
  subst this;obtain⟨b,h3,h4,h5⟩:=h2 s hs;exact⟨b,by rw[A9,h3],by rw[A9,h4],h5⟩
 |k+1,i,s,hi,hs=>by
  rcases h1 s i (by omega) hs with⟨s',h3,h4,h5⟩|⟨b,h3,h4,h5⟩
  ·obtain⟨b,h6,h7,h8⟩:=W9 a mkS' n c Q h1 h2 k (i+1) s' (by omega) h5;exact⟨b,by rw[A9,h3];exact h6,by rw[A9,h4];exact h7,h8⟩
  exact⟨b,by rw[A9,h3],by rw[A9,h4],h5⟩
theorem LW {body:S->Option (S⊕β)} (a:σ->Int->S) (mkS':σ->Int->S') (n:Nat) (c:Nat->σ->Prop) (Q:β->Prop) (h1:∀s i,i<n->c i s->(∃s',body (a s (i:Nat))=some (.inl (a s' ((i+1:Nat):Int)))/\body' (mkS' s (i:Nat))=some (.inl (mkS' s' ((i+1:Nat):Int)))/\c (i+1) s')\/∃b,body (a s (i:Nat))=some (.inr b)/\body' (mkS' s (i:Nat))=some (.inr b)/\Q b) (h2:∀s,c n s->∃b,body (a s (n:Nat))=some (.inr b)/\body' (mkS' s (n:Nat))=some (.inr b)/\Q b) (hs:c 0 s):∃b,Aq body (a s 0)=some b/\Aq body' (mkS' s 0)=some b/\Q b:=
 W9 a mkS' n c Q h1 h2 n 0 s (by omega) hs
theorem Sb {body:S->Option (S⊕β)} (φ:S->S') (h:∀s,body' (φ s)=(body s).map (Sum.map φ id)):∀(n:Nat) (s:S),M4 body' n (φ s)=M4 body n s
 |0,_=>rfl
 |n+1,s=>by
  simp only[M4,h]
  cases body s with
  |none=>rfl
  |some o=>
   cases o with
   |inl s'=>exact Sb φ h n s'
   |inr b=>rfl
theorem dS {body:S->Option (S⊕β)} (φ:S->S') (h:∀s,body' (φ s)=(body s).map (Sum.map φ id)) (s:S):Aq body' (φ s)=Aq body s:=by
 have b:∀a,Aq body' (φ s)=some a↔Aq body s=some a:=λa=>by
  rw[Gd,Gd];exact⟨λ⟨n,hn⟩=>⟨n,by rw[<-Sb φ h];exact hn⟩,λ⟨n,hn⟩=>⟨n,by rw[Sb φ h];exact hn⟩⟩
 cases hx:Aq body s with
 |some a=>exact(b a).2 hx
 |none=>
  cases hy:Aq body' (φ s)with
  |none=>rfl
  |some a=>rw[(b a).1 hy]at hx;cases hx
theorem PW {body:S->Option (S⊕β)} (φ:S->S') (I:S->Prop) (h:∀s,I s->body' (φ s)=(body s).map (Sum.map φ id)) (hI:∀s s',I s->body s=some (.inl s')->I s'):∀(n:Nat) (s:S),I s->M4 body' n (φ s)=M4 body n s
 |0,_,_=>rfl
 |n+1,s,hs=>by
  simp only[M4,h s hs]
  cases hb:body s with
  |none=>rfl
  |some o=>
   cases o with
   |inl s'=>exact PW φ I h hI n s' (hI s s' hs hb)
   |inr b=>rfl
theorem ZO {body:S->Option (S⊕β)} (φ:S->S') (I:S->Prop) (h:∀s,I s->body' (φ s)=(body s).map (Sum.map φ id)) (hI:∀s s',I s->body s=some (.inl s')->I s') (s:S) (hs:I s):Aq body' (φ s)=Aq body s:=by
 have b:∀a,Aq body' (φ s)=some a↔Aq body s=some a:=λa=>by
  rw[Gd,Gd];exact⟨λ⟨n,hn⟩=>⟨n,by rw[<-PW φ I h hI n s hs];exact hn⟩,λ⟨n,hn⟩=>⟨n,by rw[PW φ I h hI n s hs];exact hn⟩⟩
 cases hx:Aq body s with
 |some a=>exact(b a).2 hx
 |none=>
  cases hy:Aq body' (φ s)with
  |none=>rfl
  |some a=>rw[(b a).1 hy]at hx;cases hx
theorem jG {s:S} {b:β} {body:S->Option (S⊕β)} (I:S->Prop) (Q:β->Prop) (hI:∀s s',I s->body s=some (.inl s')->I s') (hQ:∀s b,I s->body s=some (.inr b)->Q b) (hs:I s) (h:Aq body s=some b):Q b:=by
 obtain⟨n,hn⟩:=Gd.1 h;clear h
 induction n generalizing s with
 |zero=>cases hn
 |succ n ih=>
  simp only[M4]at hn;split at hn
  ·cases hn
  ·rename_i s' hb;exact ih (hI s s' hs hb) hn
  rename_i b' hb
  injection hn with hn
  subst hn;exact hQ s b' hs hb
theorem UC {body':S'->Option (S'⊕β')} {body:S->Option (S⊕β)} (a:σ->Int->S) (mkS':σ->Int->S') (n:Nat) (c:Nat->σ->Prop) (Q:β->β'->Prop) (h1:∀s i,i<n->c i s->(∃s',body (a s (i:Nat))=some (.inl (a s' ((i+1:Nat):Int)))/\body' (mkS' s (i:Nat))=some (.inl (mkS' s' ((i+1:Nat):Int)))/\c (i+1) s')\/∃b b',body (a s (i:Nat))=some (.inr b)/\body' (mkS' s (i:Nat))=some (.inr b')/\Q b b') (h2:∀s,c n s->∃b b',body (a s (n:Nat))=some (.inr b)/\body' (mkS' s (n:Nat))=some (.inr b')/\Q b b'):∀(k i:Nat) (s:σ),i+k=n->c i s->∃b b',Aq body (a s (i:Nat))=some b/\Aq body' (mkS' s (i:Nat))=some b'/\Q b b'
 |0,i,s,hi,hs=>by
  have:i=n:=by omega
  subst this;obtain⟨b,b',h3,h4,h5⟩:=h2 s hs;exact⟨b,b',by rw[A9,h3],by rw[A9,h4],h5⟩
 |k+1,i,s,hi,hs=>by
  rcases h1 s i (by omega) hs with⟨s',h3,h4,h5⟩|⟨b,b',h3,h4,h5⟩
  ·obtain⟨b,b',h6,h7,h8⟩:=UC a mkS' n c Q h1 h2 k (i+1) s' (by omega) h5;exact⟨b,b',by rw[A9,h3];exact h6,by rw[A9,h4];exact h7,h8⟩
  exact⟨b,b',by rw[A9,h3],by rw[A9,h4],h5⟩
theorem jF {body':S'->Option (S'⊕β')} {body:S->Option (S⊕β)} (a:σ->Int->S) (mkS':σ->Int->S') (n:Nat) (c:Nat->σ->Prop) (Q:β->β'->Prop) (h1:∀s i,i<n->c i s->(∃s',body (a s (i:Nat))=some (.inl (a s' ((i+1:Nat):Int)))/\body' (mkS' s (i:Nat))=some (.inl (mkS' s' ((i+1:Nat):Int)))/\c (i+1) s')\/∃b b',body (a s (i:Nat))=some (.inr b)/\body' (mkS' s (i:Nat))=some (.inr b')/\Q b b') (h2:∀s,c n s->∃b b',body (a s (n:Nat))=some (.inr b)/\body' (mkS' s (n:Nat))=some (.inr b')/\Q b b') (hs:c 0 s):∃b b',Aq body (a s 0)=some b/\Aq body' (mkS' s 0)=some b'/\Q b b':=
 UC a mkS' n c Q h1 h2 n 0 s (by omega) hs
theorem OU {body body':S->Option (S⊕β)} (m:S->Nat) (a:S->Prop) (Q:β->Prop) (h:∀s,a s->(∃s',body s=some (.inl s')/\body' s=some (.inl s')/\a s'/\m s'<m s)\/∃b,body s=some (.inr b)/\body' s=some (.inr b)/\Q b):∀(n:Nat) (s:S),m s<=n->a s->∃b,Aq body s=some b/\Aq body' s=some b/\Q b
 |n,s,hn,hs=>by
  rcases h s hs with⟨s',h1,h2,h3,h4⟩|⟨b,h1,h2,h3⟩
  ·cases n with
   |zero=>omega
   |succ n=>
    obtain⟨b,h5,h6,h7⟩:=OU m a Q h n s' (by omega) h3;exact⟨b,by rw[A9,h1];exact h5,by rw[A9,h2];exact h6,h7⟩
  exact⟨b,by rw[A9,h1],by rw[A9,h2],h3⟩
theorem Zn (z:α->Nat):∀(l:List α) (i:Nat) (h:i<l.length),((l.take (i+1)).map z).sum=((l.take i).map z).sum+z l[i]
 |[],i,h=>by simp at h
 |x::l,0,h=>by simp
 |x::l,i+1,h=>by
  simp only[Nx,BO,JN,List.getElem_cons_succ];rw[Zn z l i (by simpa using h)];omega
theorem Zm (z:α->Nat) (l:List α) (i:Nat):((l.take i).map z).sum<=(l.map z).sum:=by
 have:(l.map z).sum=((l.take i).map z).sum+((l.drop i).map z).sum:=by
  rw[<-List.sum_append,<-Dt,Bj]
 omega
noncomputable section
def Dm (lt:γ->γ->Bool) (xA:Int) (xB:Int) (xN:Int) (a:Int) (b:List γ):Option ((Int×List γ)⊕(List γ)):=cond (decide (a<xN)) ((cP b (ad xA a) (ad xB a)).bind λv1=>some (.inl (ad a 1,v1))) (some (.inr b))
def C9 (lt:γ->γ->Bool) (xL:List γ) (xA:Int) (xB:Int) (xN:Int):Option (List γ):=(Aq (λs:Int×List γ=>Dm lt xA xB xN s.1 s.2) (0,xL)).bind λv2=>some v2
def DO (lt:γ->γ->Bool) (xM:Int) (a:Int) (b:Int) (c:List γ):Option ((Int×Int×List γ)⊕(Int×List γ)):=cond (a !=b) (cond (decide (a>b)) ((C9 lt c (sb xM a) xM b).bind λv1=>some (.inl (sb a b,b,v1))) ((C9 lt c (sb xM a) (sb (ad xM b) a) a).bind λv2=>some (.inl (a,sb b a,v2)))) (some (.inr (a,c)))
def Eb (lt:γ->γ->Bool) (xL:List γ) (xA:Int) (xM:Int) (xB:Int):Option (List γ):=(Aq (λs:Int×Int×List γ=>DO lt xM s.1 s.2.1 s.2.2) (sb xM xA,sb xB xM,xL)).bind λv3=>(C9 lt v3.2 (sb xM v3.1) xM v3.1).bind λv4=>some v4
def Ba (lt:γ->γ->Bool) (xA:Int) (a:Int) (b:List γ):Option ((Int×List γ)⊕(List γ)):=(cond (decide (a>xA)) ((kI b a (sb a 1)).bind λv1=>some (lt v1.1 v1.2)) (some false):Option Bool).bind λj1=>cond j1 ((cP b a (sb a 1)).bind λv2=>some (.inl (sb a 1,v2))) (some (.inr b))
def Bh (lt:γ->γ->Bool) (xA:Int) (xB:Int) (a:Int) (b:List γ):Option ((Int×List γ)⊕(List γ)):=cond (decide (a<xB)) ((Aq (λs:Int×List γ=>Ba lt xA s.1 s.2) (a,b)).bind λv3=>some (.inl (ad a 1,v3))) (some (.inr b))
def B5 (lt:γ->γ->Bool) (xL:List γ) (xA:Int) (xB:Int):Option (List γ):=(Aq (λs:Int×List γ=>Bh lt xA xB s.1 s.2) (ad xA 1,xL)).bind λv4=>some v4
def Dw (lt:γ->γ->Bool) (xL:List γ) (xA:Int) (a:Int) (b:Int):Option ((Int×Int)⊕Int):=cond (decide (a<b)) ((kI xL (IntKind.i64.wrap (Int.fdiv (IntKind.u64.wrap (ad a b)) (2^(min (1:Int).toNat IntKind.u64.bits)))) xA).bind λv1=>cond (lt v1.1 v1.2) (some (.inl (ad (IntKind.i64.wrap (Int.fdiv (IntKind.u64.wrap (ad a b)) (2^(min (1:Int).toNat IntKind.u64.bits)))) 1,b))) (some (.inl (a,IntKind.i64.wrap (Int.fdiv (IntKind.u64.wrap (ad a b)) (2^(min (1:Int).toNat IntKind.u64.bits))))))) (some (.inr a))
def CZ (lt:γ->γ->Bool) (v2:Int) (a:Int) (b:List γ):Option ((Int×List γ)⊕(List γ)):=cond (decide (a<(sb v2 1))) ((cP b a (ad a 1)).bind λv3=>some (.inl (ad a 1,v3))) (some (.inr b))
def Dv (lt:γ->γ->Bool) (xL:List γ) (xM:Int) (a:Int) (b:Int):Option ((Int×Int)⊕Int):=cond (decide (a<b)) ((kI xL xM (IntKind.i64.wrap (Int.fdiv (IntKind.u64.wrap (ad a b)) (2^(min (1:Int).toNat IntKind.u64.bits))))).bind λv5=>cond (!(lt v5.1 v5.2)) (some (.inl (ad (IntKind.i64.wrap (Int.fdiv (IntKind.u64.wrap (ad a b)) (2^(min (1:Int).toNat IntKind.u64.bits)))) 1,b))) (some (.inl (a,IntKind.i64.wrap (Int.fdiv (IntKind.u64.wrap (ad a b)) (2^(min (1:Int).toNat IntKind.u64.bits))))))) (some (.inr a))
def CY (lt:γ->γ->Bool) (v6:Int) (a:Int) (b:List γ):Option ((Int×List γ)⊕(List γ)):=cond (decide (a>v6)) ((cP b a (sb a 1)).bind λv7=>some (.inl (sb a 1,v7))) (some (.inr b))
def Du (lt:γ->γ->Bool) (xL:List γ) (xA:Int) (xM:Int) (xB:Int) (a:Int) (b:Int):Option ((Int×Int)⊕Int):=cond (decide (a<b)) ((kI xL (sb (sb (ad (IntKind.i64.wrap (Int.fdiv (IntKind.u64.wrap (ad xA xB)) (2^(min (1:Int).toNat IntKind.u64.bits)))) xM) 1) (IntKind.i64.wrap (Int.fdiv (IntKind.u64.wrap (ad a b)) (2^(min (1:Int).toNat IntKind.u64.bits))))) (IntKind.i64.wrap (Int.fdiv (IntKind.u64.wrap (ad a b)) (2^(min (1:Int).toNat IntKind.u64.bits))))).bind λv9=>cond (!(lt v9.1 v9.2)) (some (.inl (ad (IntKind.i64.wrap (Int.fdiv (IntKind.u64.wrap (ad a b)) (2^(min (1:Int).toNat IntKind.u64.bits)))) 1,b))) (some (.inl (a,IntKind.i64.wrap (Int.fdiv (IntKind.u64.wrap (ad a b)) (2^(min (1:Int).toNat IntKind.u64.bits))))))) (some (.inr a))
def Cm (lt:γ->γ->Bool):Nat->(List γ)->Int->Int->Int->Option (List γ)
 |0,_,_,_,_=>none
 |n+1,xL,xA,xM,xB=>cond ((sb xM xA)==1) ((Aq (λs:Int×Int=>Dw lt xL xA s.1 s.2) (xM,xB)).bind λv2=>(Aq (λs:Int×List γ=>CZ lt v2 s.1 s.2) (xA,xL)).bind λv4=>some v4) (cond ((sb xB xM)==1) ((Aq (λs:Int×Int=>Dv lt xL xM s.1 s.2) (xA,xM)).bind λv6=>(Aq (λs:Int×List γ=>CY lt v6 s.1 s.2) (xM,xL)).bind λv8=>some v8) ((cond (decide (xM>(IntKind.i64.wrap (Int.fdiv (IntKind.u64.wrap (ad xA xB)) (2^(min (1:Int).toNat IntKind.u64.bits)))))) (some (sb (ad (IntKind.i64.wrap (Int.fdiv (IntKind.u64.wrap (ad xA xB)) (2^(min (1:Int).toNat IntKind.u64.bits)))) xM) xB,IntKind.i64.wrap (Int.fdiv (IntKind.u64.wrap (ad xA xB)) (2^(min (1:Int).toNat IntKind.u64.bits))))) (some (xA,xM)):Option (Int×Int)).bind λj1=>(Aq (λs:Int×Int=>Du lt xL xA xM xB s.1 s.2) (j1.1,j1.2)).bind λv10=>(cond (decide (v10<xM)) (some (decide (xM<(sb (ad (IntKind.i64.wrap (Int.fdiv (IntKind.u64.wrap (ad xA xB)) (2^(min (1:Int).toNat IntKind.u64.bits)))) xM) v10)))) (some false):Option Bool).bind λj2=>(cond j2 ((Eb lt xL v10 xM (sb (ad (IntKind.i64.wrap (Int.fdiv (IntKind.u64.wrap (ad xA xB)) (2^(min (1:Int).toNat IntKind.u64.bits)))) xM) v10)).bind λv11=>some v11) (some xL):Option (List γ)).bind λj3=>(cond (decide (xA<v10)) (some (decide (v10<(IntKind.i64.wrap (Int.fdiv (IntKind.u64.wrap (ad xA xB)) (2^(min (1:Int).toNat IntKind.u64.bits))))))) (some false):Option Bool).bind λj4=>(cond j4 ((Cm lt n j3 xA v10 (IntKind.i64.wrap (Int.fdiv (IntKind.u64.wrap (ad xA xB)) (2^(min (1:Int).toNat IntKind.u64.bits))))).bind λv12=>some v12) (some j3):Option (List γ)).bind λj5=>cond (decide ((IntKind.i64.wrap (Int.fdiv (IntKind.u64.wrap (ad xA xB)) (2^(min (1:Int).toNat IntKind.u64.bits))))<(sb (ad (IntKind.i64.wrap (Int.fdiv (IntKind.u64.wrap (ad xA xB)) (2^(min (1:Int).toNat IntKind.u64.bits)))) xM) v10))) (cond (decide ((sb (ad (IntKind.i64.wrap (Int.fdiv (IntKind.u64.wrap (ad xA xB)) (2^(min (1:Int).toNat IntKind.u64.bits)))) xM) v10)<xB)) ((Cm lt n j5 (IntKind.i64.wrap (Int.fdiv (IntKind.u64.wrap (ad xA xB)) (2^(min (1:Int).toNat IntKind.u64.bits)))) (sb (ad (IntKind.i64.wrap (Int.fdiv (IntKind.u64.wrap (ad xA xB)) (2^(min (1:Int).toNat IntKind.u64.bits)))) xM) v10) xB).bind λv13=>some v13) (some j5)) (some j5)))
def CA (lt:γ->γ->Bool) (xN:Int) (b:Int) (a:Int) (c:List γ):Option ((Int×Int×List γ)⊕(Int×List γ)):=cond (decide (a<=xN)) ((B5 lt c b a).bind λv1=>some (.inl (a,ad a 20,v1))) (some (.inr (b,c)))
def CV (lt:γ->γ->Bool) (xN:Int) (a:Int) (c:Int) (b:Int) (d:List γ):Option ((Int×Int×List γ)⊕(Int×List γ)):=cond (decide (b<=xN)) ((Cm lt (List.length d+1) d c (ad c a) b).bind λv4=>some (.inl (b,ad b (ml 2 a),v4))) (some (.inr (c,d)))
def CW (lt:γ->γ->Bool) (xN:Int) (a:Int) (b:List γ):Option ((Int×List γ)⊕(List γ)):=cond (decide (a<xN)) ((Aq (λs:Int×Int×List γ=>CV lt xN a s.1 s.2.1 s.2.2) (0,ml 2 a,b)).bind λv5=>cond (decide ((ad v5.1 a)<xN)) ((Cm lt (List.length v5.2+1) v5.2 v5.1 (ad v5.1 a) xN).bind λv6=>some (.inl (ml a 2,v6))) (some (.inl (ml a 2,v5.2)))) (some (.inr b))
def CT (lt:γ->γ->Bool) (xL:List γ) (xN:Int):Option (List γ):=(Aq (λs:Int×Int×List γ=>CA lt xN s.1 s.2.1 s.2.2) (0,20,xL)).bind λv2=>(B5 lt v2.2 v2.1 xN).bind λv3=>(Aq (λs:Int×List γ=>CW lt xN s.1 s.2) (20,v3)).bind λv7=>some v7
def UB (xX:Int):Option Int:=(cond (decide (xX>=4294967296)) (some (Int.fdiv xX (2^(min (32:Int).toNat IntKind.u64.bits)),32)) (some (xX,0)):Option (Int×Int)).bind λj1=>(cond (decide (j1.1>=65536)) (some (Int.fdiv j1.1 (2^(min (16:Int).toNat IntKind.u64.bits)),ad j1.2 16)) (some (j1.1,j1.2)):Option (Int×Int)).bind λj2=>(cond (decide (j2.1>=256)) (some (Int.fdiv j2.1 (2^(min (8:Int).toNat IntKind.u64.bits)),ad j2.2 8)) (some (j2.1,j2.2)):Option (Int×Int)).bind λj3=>(sx (bs [0,1,2,2,3,3,3,3,4,4,4,4,4,4,4,4,5,5,5,5,5,5,5,5,5,5,5,5,5,5,5,5,6,6,6,6,6,6,6,6,6,6,6,6,6,6,6,6,6,6,6,6,6,6,6,6,6,6,6,6,6,6,6,6,7,7,7,7,7,7,7,7,7,7,7,7,7,7,7,7,7,7,7,7,7,7,7,7,7,7,7,7,7,7,7,7,7,7,7,7,7,7,7,7,7,7,7,7,7,7,7,7,7,7,7,7,7,7,7,7,7,7,7,7,7,7,7,7,8,8,8,8,8,8,8,8,8,8,8,8,8,8,8,8,8,8,8,8,8,8,8,8,8,8,8,8,8,8,8,8,8,8,8,8,8,8,8,8,8,8,8,8,8,8,8,8,8,8,8,8,8,8,8,8,8,8,8,8,8,8,8,8,8,8,8,8,8,8,8,8,8,8,8,8,8,8,8,8,8,8,8,8,8,8,8,8,8,8,8,8,8,8,8,8,8,8,8,8,8,8,8,8,8,8,8,8,8,8,8,8,8,8,8,8,8,8,8,8,8,8,8,8,8,8,8,8]) (IntKind.u8.wrap j3.1)).bind λx1=>some (ad j3.2 (IntKind.i64.wrap x1))
def Sf (xX:Int):Option Int:=(UB xX).bind λv1=>some v1
def E9 (lt:γ->γ->Bool) (xL:List γ) (xA:Int) (xB:Int):Option (Unit⊕Unit⊕(List γ)):=cond (decide ((sb xB xA)<=12)) ((B5 lt xL xA xB).bind λv1=>some (.inr (.inr v1))) none
def DH (lt:γ->γ->Bool) (xL:List γ) (xA:Int) (xB:Int) (a:Int):Option (List γ):=(Aq (λ_:Unit=>E9 lt xL xA xB) ()).bind (Sum.elim (λv2=>some xL) some)
def Mu (lt:γ->γ->Bool) (l:List γ):Option (List γ):=(Sf (IntKind.u64.wrap (ln l))).bind λv=>DH lt l 0 (ln l) v
end
def srt (a:γ->Int) (l:List γ):Prop:=l.Pairwise λx y=>a x<=a y
section
variable (key:γ->Int)
def BK (l r:List γ):Prop:=∀k,r.filter (λx=>key x==k)=l.filter (λx=>key x==k)
end
theorem BK.refl (a:γ->Int) (l:List γ):BK a l l:=λ_=>rfl
theorem BK.trans (d:γ->Int) (h:BK d a b) (k:BK d b c):BK d a c:=λx=>(k x).trans (h x)
theorem EZ (e:γ->Int) {d:List γ} (h:BK e a b) (k:BK e c d):BK e (a++c) (b++d):=λx=>by rw[AO,AO,h,k]
section
variable (key:γ->Int)
theorem BK.mem (h:BK key a b):x∈b↔x∈a:=by
 have:=h (key x);have e:x∈b.filter (λy=>key y==key x)↔x∈a.filter (λy=>key y==key x):=by rw[this]
 simpa using e
end
section
variable (key:γ->Int)
theorem BK.nil (h:BK key [] b):b=[]:=by
 cases b with
 |nil=>rfl
 |cons x b=>exact absurd ((h.mem (x:=x)).1 Cl) (by simp)
end
section
variable (key:γ->Int)
theorem BK.swap (h:∀x∈a,∀y∈b,key y<key x):BK key (a++b) (b++a):=by
 intro k;rw[AO,AO];by_cases ha:a.filter (λx=>key x==k)=[]
 ·rw[ha];simp
 have hb:b.filter (λx=>key x==k)=[]:=by
  rw[Cw];intro y hy e;obtain⟨x,hx⟩:=List.exists_mem_of_ne_nil _ ha;obtain⟨c,d⟩:=Ct.1 hx;have:=h x c y hy;simp at e d;omega
 rw[hb];simp
end
theorem Qg (p:γ->Bool):∀l:List γ,l.length=(l.filter p).length+(l.filter λx=>!p x).length
 |[]=>rfl
 |x::l=>by
  have:=Qg p l;cases h:p x<;>simp[h]<;>omega
section
variable (key:γ->Int)
theorem BK.len:BK key a b->a.length=b.length:=by
 intro h;have:∀(n:Nat) (a b:List γ),a.length<=n->BK key a b->a.length=b.length:=by
  intro n
  induction n with
  |zero=>
   intro a b ha h;have:a=[]:=Ay (by omega);subst this;rw[h.nil]
  |succ n ih=>
   intro a b ha h
   cases a with
   |nil=>rw[h.nil]
   |cons x a=>
    have hp:(x::a).length=((x::a).filter (λy=>key y==key x)).length+((x::a).filter (λy=>!(key y==key x))).length:=by
     exact Qg _ _
    have c:b.length=(b.filter (λy=>key y==key x)).length+(b.filter (λy=>!(key y==key x))).length:=by
     exact Qg _ _
    have h1:BK key ((x::a).filter (λy=>!(key y==key x))) (b.filter (λy=>!(key y==key x))):=by
     intro k;rw[Kl,Kl];by_cases hk:k=key x
     ·subst hk
      have z:∀l:List γ,l.filter (λy=>(key y==key x)&&!(key y==key x))=[]:=λl=>by
       rw[Cw];intro y _;cases key y==key x<;>simp
      rw[z,z]
     have z:∀l:List γ,l.filter (λy=>(key y==k)&&!(key y==key x))=l.filter (λy=>key y==k):=λl=>by
      apply List.filter_congr;intro y _;by_cases e:key y=k
      ·have:(key y==key x)=false:=by simp[e,hk]
       simp[this]
      have:(key y==k)=false:=by simpa using e
      simp[this]
     rw[z,z];exact h k
    have h2:=ih _ _ (by
     have:0<((x::a).filter (λy=>key y==key x)).length:=by simp
     omega) h1
    rw[hp,c,h2,h (key x)]
 exact this a.length a b (A5 _) h
end
section
variable (key:γ->Int)
theorem PS:∀{a b:List γ},srt key a->srt key b->BK key a b->a=b
 |[],b,_,_,h=>(h.nil key).symm
 |x::a,[],_,_,h=>by
  have:=h.len key;simp at this
 |x::a,y::b,ha,hb,h=>by
  have c:key x=key y:=by
   have h1:x∈y::b:=(h.mem key).2 Cl;have h2:y∈x::a:=(h.mem key).1 Cl;have k1:key y<=key x:=by
    rcases B6.1 h1 with rfl|h1
    ·exact VV _
    exact(CM.1 hb).1 x h1
   have k2:key x<=key y:=by
    rcases B6.1 h2 with rfl|h2
    ·exact VV _
    exact(CM.1 ha).1 y h2
   omega
  have e:=h (key x);rw[Cn (by simp[c]),Cn (by simp)]at e
  injection e with e1 e2
  subst e1;have h':BK key a b:=by
   intro k;have:=h k;by_cases hk:key y=k
   ·subst hk;exact e2
   rw[BZ (by simpa using hk),BZ (by simpa using hk)]at this;exact this
  rw[PS (CM.1 ha).2 (CM.1 hb).2 h']
end
theorem Ou (P S:List γ) (x:γ):gi (P++x::S) (P.length:Nat)=some x:=by
 rw[AA,AW (A5 _)];simp
theorem Xo (P S:List γ) (x y:γ):si (P++x::S) (P.length:Nat) y=P++y::S:=by
 rw[EO];simp
theorem fP (P M S:List γ) (x y:γ):cP (P++x::(M++y::S)) (P.length:Nat) ((P.length+1+M.length:Nat):Int)=some (P++y::(M++x::S)):=by
 unfold cP;have e:P++x::(M++y::S)=(P++x::M)++y::S:=by simp
 have e2:P++y::(M++y::S)=(P++y::M)++y::S:=by simp
 have hl:(P.length+1+M.length)=(P++x::M).length:=by simp;omega
 have a:(P.length+1+M.length)=(P++y::M).length:=by simp;omega
 rw[Ou,Aa];have h2:gi (P++x::(M++y::S)) ((P.length+1+M.length:Nat):Int)=some y:=by rw[e,hl,Ou]
 rw[h2,Aa,Xo,e2,a,Xo];simp
theorem fQ (P S:List γ) (x y:γ):cP (P++x::y::S) ((P.length+1:Nat):Int) (P.length:Nat)=some (P++y::x::S):=by
 unfold cP;have e:P++x::y::S=(P++ [x])++y::S:=by simp
 have e2:P++x::x::S=P++x::(x::S):=rfl;have hl:(P.length+1)=(P++ [x]).length:=by simp
 have h1:gi (P++x::y::S) ((P.length+1:Nat):Int)=some y:=by rw[e,hl,Ou]
 rw[h1,Aa,Ou,Aa];have h3:si (P++x::y::S) ((P.length+1:Nat):Int) x=P++x::x::S:=by rw[e,hl,Xo];simp
 rw[h3,Xo]
theorem kT (P S:List γ) (x y:γ):cP (P++x::y::S) (P.length:Nat) ((P.length+1:Nat):Int)=some (P++y::x::S):=by
 have:=fP P [] S x y;simpa using this
theorem Ms:∀(X Y P M S:List γ),X.length=Y.length->P.length+X.length+M.length+Y.length+S.length<=1152921504606846976->
  C9 lt (P++X++M++Y++S) (P.length:Nat) ((P.length+X.length+M.length:Nat):Int) (X.length:Nat)=some (P++Y++M++X++S):=by
 have d:∀(n:Nat) (X Y P M S:List γ) (a b c i:Nat),X.length=n->Y.length=n->a+i=P.length->b+i=P.length+n+M.length->c=i+n->P.length+n+M.length+n+S.length<=1152921504606846976->
   Aq (λs:Int×List γ=>Dm lt (a:Int) (b:Int) (c:Int) s.1 s.2) ((i:Int),P++X++M++Y++S)=some (P++Y++M++X++S):=by
  intro n
  induction n with
  |zero=>
   intro X Y P M S a b c i hX hY h1 h2 h3 hN;have:=Ay hX;subst this;have:=Ay hY;subst this;rw[A9];simp only[Dm];rw[Ae (by omega:¬(i:Int)<c),Ac]
  |succ n ih=>
   intro X Y P M S a b c i hX hY h1 h2 h3 hN
   cases X with
   |nil=>simp at hX
   |cons x X=>
   cases Y with
   |nil=>simp at hY
   |cons y Y=>
   simp only[AH]at hX hY;have hs:cP (P++(x::X)++M++(y::Y)++S) (ad (a:Int) (i:Int)) (ad (b:Int) (i:Int))=some (P++(y::X)++M++(x::Y)++S):=by
    have e1:ad (a:Int) (i:Int)=(P.length:Nat):=by rw[DZ (by omega) (by omega)];omega
    have e2:ad (b:Int) (i:Int)=((P.length+1+(X++M).length:Nat):Int):=by rw[DZ (by omega) (by omega)];simp only[Ah];omega
    have:=fP P (X++M) (Y++S) x y;rw[e1,e2];simpa using this
   rw[A9];simp only[Dm];rw[Ab (by omega:(i:Int)<c),Af,hs,Aa,ad1 (by omega)];have:=ih X Y (P++ [y]) (M++ [x]) S a b c (i+1) (by omega) (by omega) (by simp;omega) (by simp;omega) (by omega) (by simp;omega);simp only[Av,Ci,AC,FB]at this⊢;exact this
 intro X Y P M S e hN;unfold C9;have:=d X.length X Y P M S P.length (P.length+X.length+M.length) X.length 0 rfl e.symm (by omega) (by omega) (by omega) (by omega);rw[show((0:Nat):Int)=0 from rfl]at this;rw[this];rfl
theorem iW (P A B S:List γ) (hA:A≠ []) (hB:B≠ []) (hN:P.length+A.length+B.length+S.length<=1152921504606846976):
  Eb lt (P++A++B++S) (P.length:Nat) ((P.length+A.length:Nat):Int) ((P.length+A.length+B.length:Nat):Int)=some (P++B++A++S):=by
 have g:∀(m:Nat) (Bd:Int×Int×List γ->Option ((Int×Int×List γ)⊕(Int×List γ))) (d:∀i j l,Bd (i,j,l)=DO lt (m:Int) i j l) (k:Nat) (P U V S:List γ),U.length+V.length<=k->U≠ []->V≠ []->P.length+U.length=m->P.length+U.length+V.length+S.length<=1152921504606846976->
   ((
    Aq Bd ((U.length:Int),(V.length:Int),P++U++V++S)).bind λv3=>
    (C9 lt v3.2 (sb (m:Int) v3.1) (m:Int) v3.1).bind λv4=>some v4)=some (P++V++U++S):=by
  intro m Bd d k
  induction k with
  |zero=>
   intro P U V S hk hU;exact absurd (Ay (by omega)) hU
  |succ k ih=>
   intro P U V S hk hU hV hm hN;have lU:=JC.2 hU;have lV:=JC.2 hV;rw[A9];simp only[d,DO];have c:sb (m:Int) (U.length:Int)=(P.length:Nat):=by rw[CB (by omega) (by omega)];omega
   by_cases f:U.length=V.length
   ·have e:((U.length:Int) !=(V.length:Int))=false:=by simp[f]
    rw[e,Ac];simp only[Aa];rw[c];have:=Ms (lt:=lt) U V P [] S f (by simp;omega);simp only[Aw,Bf,Tm]at this;rw[hm]at this;rw[this];rfl
   have e:((U.length:Int) !=(V.length:Int))=true:=by simp;omega
   rw[e,Af];by_cases n:U.length>V.length
   ·rw[Ab (by omega:(U.length:Int)>V.length),Af,c];have h:U=U.take V.length++U.drop V.length:=(Bj _ _).symm;have a:(U.take V.length).length=V.length:=by simp;omega
    have b:(U.drop V.length).length=U.length-V.length:=by simp
    have:=Ms (lt:=lt) (U.take V.length) V P (U.drop V.length) S a (by rw[a,b];omega);rw[a,b,show P.length+V.length+(U.length-V.length)=m by omega]at this;have e3:P++U++V++S=P++U.take V.length++U.drop V.length++V++S:=by
     have:P++U++V++S=P++(U.take V.length++U.drop V.length)++V++S:=by rw[Bj]
     rw[this];simp only[Av]
    rw[e3,this,Aa];have e4:sb (U.length:Int) (V.length:Int)=((U.drop V.length).length:Int):=by rw[CB (by omega) (by omega),b];omega
    have:=ih (P++V) (U.drop V.length) (U.take V.length) S (by rw[a,b];omega) (by intro e;rw[e]at b;simp at b;omega) (by intro e;rw[e]at a;simp at a;omega) (by simp only[Ah];omega) (by simp only[Ah,a,b];omega);rw[a]at this;rw[e4];simp only[Av]at this⊢;rw[this];rw[show U.take V.length++(U.drop V.length++S)=U++S by rw[<-Av,Bj]]
   rw[Ae (by omega:¬(U.length:Int)>V.length),Ac,c];have a:(V.take (V.length-U.length)).length=V.length-U.length:=by simp
   have b:(V.drop (V.length-U.length)).length=U.length:=by simp;omega
   have:=Ms (lt:=lt) U (V.drop (V.length-U.length)) P (V.take (V.length-U.length)) S b.symm (by rw[a,b];omega);rw[a]at this;have e2:sb (ad (m:Int) (V.length:Int)) (U.length:Int)=((P.length+U.length+(V.length-U.length):Nat):Int):=by rw[DZ (by omega) (by omega),CB (by omega) (by omega)];omega
   have e3:P++U++V++S=P++U++V.take (V.length-U.length)++V.drop (V.length-U.length)++S:=by
    have:P++U++V++S=P++U++(V.take (V.length-U.length)++V.drop (V.length-U.length))++S:=by rw[Bj]
    rw[this];simp only[Av]
   rw[e2,e3,this,Aa];have e4:sb (V.length:Int) (U.length:Int)=((V.take (V.length-U.length)).length:Int):=by rw[CB (by omega) (by omega),a];omega
   have:=ih P (V.drop (V.length-U.length)) (V.take (V.length-U.length)) (U++S) (by rw[a,b];omega) (by intro e;rw[e]at b;simp at b;omega) (by intro e;rw[e]at a;simp at a;omega) (by rw[b];omega) (by simp only[Ah,a,b];omega);rw[b]at this;rw[e4];simp only[Av]at this⊢;rw[this];rw[show V.take (V.length-U.length)++(V.drop (V.length-U.length)++(U++S))=V++(U++S) by rw[<-Av,Bj]]
 have h1:sb ((P.length+A.length:Nat):Int) (P.length:Nat)=(A.length:Int):=by rw[CB (by omega) (by omega)];omega
 have h2:sb ((P.length+A.length+B.length:Nat):Int) ((P.length+A.length:Nat):Int)=(B.length:Int):=by rw[CB (by omega) (by omega)];omega
 unfold Eb;rw[h1,h2];exact g (P.length+A.length) (λs=>DO lt ((P.length+A.length:Nat):Int) s.1 s.2.1 s.2.2) (λ_ _ _=>rfl) _ P A B S (A5 _) hA hB rfl hN
def KU (a:γ->Int) (x y:γ):Bool:=decide (a x<a y)
theorem jO (a:γ->Int) (P S:List γ) (y:γ) (B:Int×List γ->Option ((Int×List γ)⊕(List γ))) (hB:∀j l,B (j,l)=Ba (KU a) (P.length:Nat) j l):∀(n:Nat) (U V:List γ),U.length=n->srt a U->P.length+U.length+V.length+S.length<=1152921504606846976->
  ∃U1 U2,U=U1++U2/\Aq B (((P.length+U.length:Nat):Int),P++U++y::(V++S))=some (P++U1++y::(U2++V++S))/\(∀v∈U2,a y<a v)/\∀u∈U1,a u<=a y:=by
 intro n
 induction n with
 |zero=>
  intro U V hU _ hN;have:=Ay hU;subst this;refine⟨[],[],rfl,?_,by simp,by simp⟩;rw[A9,hB];simp only[Ba];rw[Ae (by simp only[Bf];omega:¬((P.length+([]:List γ).length:Nat):Int)>(P.length:Nat))];simp
 |succ n ih=>
  intro U V hU hs hN
  rcases List.eq_nil_or_concat U with rfl|⟨U0,z,rfl⟩
  ·simp at hU
  rw[List.concat_eq_append]at hU hs hN⊢;simp only[Ah,Aj]at hU hN;have hl:P.length+(U0++ [z]).length=(P++U0).length+1:=by simp;omega
  have e0:P++(U0++ [z])++y::(V++S)=(P++U0)++z::y::(V++S):=by simp
  have ej:sb (((P++U0).length+1:Nat):Int) 1=((P++U0).length:Nat):=by rw[CB (by simp only[Ah];omega) (by simp only[Ah];omega)];omega
  have g1:gi ((P++U0)++z::y::(V++S)) (((P++U0).length+1:Nat):Int)=some y:=by
   have e:(P++U0)++z::y::(V++S)=((P++U0)++ [z])++y::(V++S):=by simp
   have hl':(P++U0).length+1=((P++U0)++ [z]).length:=by simp only[Ah,Aj]
   rw[e,hl',Ou]
  have g2:kI ((P++U0)++z::y::(V++S)) (((P++U0).length+1:Nat):Int) ((P++U0).length:Nat)=some (y,z):=by
   unfold kI;rw[g1,Aa,Ou];rfl
  by_cases b:a y<a z
  ·obtain⟨U1,U2,h1,h2,h3,h4⟩:=ih U0 (z::V) (by omega) (Bs.1 hs).1 (by simp only[AH];omega);refine⟨U1,U2++ [z],by rw[h1];simp,?_,?_,h4⟩
   ·rw[A9,hB];simp only[Ba];rw[hl,e0,Ab (by simp only[Ah];omega:(((P++U0).length+1:Nat):Int)>(P.length:Nat)),Af,ej,g2];simp only[Aa,KU];rw[Ab b,Af,fQ,Aa];simp only;have:P++U0++y::z::(V++S)=P++U0++y::(z::V++S):=by simp
    rw[this,show(P++U0).length=P.length+U0.length from Ah,h2];simp
   intro v hv
   rcases Al.1 hv with hv|hv
   ·exact h3 v hv
   rw[A7]at hv;rw[hv];exact b
  refine⟨U0++ [z],[],by simp,?_,by simp,?_⟩
  ·rw[A9,hB];simp only[Ba];rw[hl,e0,Ab (by simp only[Ah];omega:(((P++U0).length+1:Nat):Int)>(P.length:Nat)),Af,ej,g2];simp only[Aa,KU];rw[Ae b,Ac];simp
  intro u hu
  rcases Al.1 hu with hu|hu
  ·have:=(Bs.1 hs).2.2 u hu z (by simp);omega
  simp at hu;subst hu;omega
section
variable (key:γ->Int)
theorem GR (P X S:List γ) (hN:P.length+X.length+S.length<=1152921504606846976):
  ∃X',B5 (KU key) (P++X++S) (P.length:Nat) ((P.length+X.length:Nat):Int)=some (P++X'++S)/\srt key X'/\BK key X X':=by
 have main:∀(b:Nat) (B:Int×List γ->Option ((Int×List γ)⊕(List γ))),(∀i l,B (i,l)=Bh (KU key) (P.length:Nat) (b:Int) i l)->∀(n:Nat) (U V:List γ),V.length=n->P.length+U.length+V.length=b->srt key U->b+S.length<=1152921504606846976->
   ∃X',Aq B (((P.length+U.length:Nat):Int),P++U++V++S)=some (P++X'++S)/\srt key X'/\BK key (U++V) X':=by
  intro b B hB n
  induction n with
  |zero=>
   intro U V hV hb hs hN;have:=Ay hV;subst this;refine⟨U,?_,hs,by rw[Aw];exact BK.refl key U⟩;rw[A9,hB];simp only[Bh];simp only[Bf,Tm]at hb;rw[Ae (by omega:¬((P.length+U.length:Nat):Int)<(b:Int)),Ac,Aw]
  |succ n ih=>
   intro U V hV hb hs hN
   cases V with
   |nil=>simp at hV
   |cons y V=>
    simp only[AH]at hV hb;obtain⟨U1,U2,h1,h2,h3,h4⟩:=jO key P (V++S) y (λs=>Ba (KU key) (P.length:Nat) s.1 s.2) (λ_ _=>rfl) U.length U [] rfl hs (by simp only[Ah,Bf];omega);have hs':srt key (U1++y::U2):=by
     rw[h1]at hs;obtain⟨q1,q2,q3⟩:=Bs.1 hs;refine Bs.2 ⟨q1,CM.2 ⟨λv hv=>fF (h3 v hv),q2⟩,λu hu v hv=>?_⟩
     rcases B6.1 hv with rfl|hv
     ·exact h4 u hu
     exact q3 u hu v hv
    have hk:BK key (U++ [y]) (U1++y::U2):=by
     rw[h1,Av];have:=BK.swap key (a:=U2) (b:=[y]) (λx hx z hz=>by simp at hz;subst hz;exact h3 x hx);exact EZ key (BK.refl key U1) this
    have c:(U1++y::U2).length=U.length+1:=by rw[h1];simp;omega
    obtain⟨X',r1,r2,r3⟩:=ih (U1++y::U2) V (by omega) (by rw[c];omega) hs' hN;refine⟨X',?_,r2,?_⟩
    ·rw[A9,hB];simp only[Bh];rw[Ab (by omega:((P.length+U.length:Nat):Int)<(b:Int)),Af];have e:P++U++y::V++S=P++U++y::([]++(V++S)):=by simp
     rw[e,h2,Aa,ad1 (by omega)];simp only;rw[show P.length+U.length+1=P.length+(U1++y::U2).length by rw[c];omega];have e2:P++U1++y::(U2++ []++(V++S))=P++(U1++y::U2)++V++S:=by simp
     rw[e2,r1]
    refine BK.trans key ?_ r3;have e3:U++y::V=(U++ [y])++V:=by simp
    rw[e3];exact EZ key hk (BK.refl key V)
 unfold B5;rw[ad1 (by omega)]
 cases X with
 |nil=>
  refine⟨[],?_,List.Pairwise.nil,BK.refl key _⟩;rw[A9];simp only[Bh];rw[Ae (by simp only[Bf];omega:¬((P.length+1:Nat):Int)<((P.length+([]:List γ).length:Nat):Int))];rfl
 |cons x X=>
  obtain⟨X',h1,h2,h3⟩:=main (P.length+(x::X).length) (λs=>Bh (KU key) (P.length:Nat) ((P.length+(x::X).length:Nat):Int) s.1 s.2) (λ_ _=>rfl) X.length [x] X rfl (by simp;omega) (Kv _ _) (by simp only[AH]at hN⊢;omega);refine⟨X',?_,h2,h3⟩;have e:P++x::X++S=P++ [x]++X++S:=by simp
  rw[e];simp only[Aj]at h1;rw[h1];rfl
end
def VF (i j:Int):Int:=IntKind.i64.wrap (Int.fdiv (IntKind.u64.wrap (ad i j)) (2^(min (1:Int).toNat IntKind.u64.bits)))
theorem XM (i j:Nat) (h:i+j<=4611686018427387904):VF (i:Int) (j:Int)=(((i+j)/2:Nat):Int):=by
 unfold VF;rw[DZ (by omega) (by omega)];have e1:IntKind.u64.wrap ((i:Int)+(j:Int))=((i+j:Nat):Int):=by
  have:IntKind.u64.wrap ((i:Int)+(j:Int))=((i:Int)+(j:Int)) %18446744073709551616:=by simp[IntKind.wrap,IntKind.bits,IntKind.signed]
  rw[this];omega
 have e2:(2:Int)^(min (1:Int).toNat IntKind.u64.bits)=2:=by decide
 rw[e1,e2,Int.fdiv_eq_ediv_of_nonneg _ (by omega),TE (by omega) (by omega)];omega
theorem Yx {B:Int×Int->Option ((Int×Int)⊕Int)} (p:Nat->Bool) (lo hi:Nat) (h1:∀i j:Nat,lo<=i->i<j->j<=hi->B ((i:Int),(j:Int))=some (.inl (cond (p ((i+j)/2)) ((((i+j)/2+1:Nat):Int),(j:Int)) ((i:Int),(((i+j)/2:Nat):Int))))) (h2:∀i:Nat,B ((i:Int),(i:Int))=some (.inr (i:Int))):
  ∀(n i j:Nat),j-i<=n->lo<=i->i<=j->j<=hi->(lo<i->p (i-1)=true)->(j<hi->p j=false)->∃r:Nat,Aq B ((i:Int),(j:Int))=some (r:Int)/\lo<=r/\r<=hi/\(lo<r->p (r-1)=true)/\(r<hi->p r=false):=by
 intro n
 induction n with
 |zero=>
  intro i j hn hl a hh k1 k2;have:i=j:=by omega
  subst this;exact⟨i,by rw[A9,h2],hl,hh,k1,k2⟩
 |succ n ih=>
  intro i j hn hl a hh k1 k2;by_cases he:i=j
  ·subst he;exact⟨i,by rw[A9,h2],hl,hh,k1,k2⟩
  rw[A9,h1 i j hl (by omega) hh]
  cases hp:p ((i+j)/2)with
  |true=>
   exact ih ((i+j)/2+1) j (by omega) (by omega) (by omega) hh (λ_=>by rw[Nat.add_sub_cancel];exact hp) k2
  |false=>
   exact ih i ((i+j)/2) (by omega) hl (by omega) (by omega) k1 (λ_=>hp)
theorem Ym (P X T:List γ) (k:Nat) (hk:k<X.length):gi (P++X++T) ((P.length+k:Nat):Int)=some X[k]:=by
 rw[AA,Av,AW (by omega),Nat.add_sub_cancel_left,AS hk,Ad hk]
theorem QP (a:γ->Int) (h:srt a X) (h0:0<r) (hr:r<=X.length):∀u∈X.take r,a u<=a (X[r-1]'(by omega)):=by
 intro u hu;obtain⟨i,hi,e⟩:=AI hu;rw[HX]at e;simp only[AK]at hi;rw[<-e];by_cases b:i=r-1
 ·subst b;exact VV _
 exact CL.1 h i (r-1) (by omega) (by omega) (by omega)
theorem QQ (a:γ->Int) (h:srt a X) (hr:r<X.length):∀v∈X.drop r,a X[r]<=a v:=by
 intro v hv;obtain⟨i,hi,e⟩:=AI hv;rw[List.getElem_drop]at e;simp only[C7]at hi;rw[<-e];by_cases b:i=0
 ·subst b;simp
 exact CL.1 h r (r+i) (by omega) (by omega) (by omega)
theorem lL (a:γ->Int) (S:List γ) (x:γ) (v2:Nat) (B:Int×List γ->Option ((Int×List γ)⊕(List γ))) (hB:∀k l,B (k,l)=CZ (KU a) (v2:Int) k l):∀(Y P:List γ),P.length+Y.length+1=v2->v2<=1152921504606846976->
  Aq B ((P.length:Int),P++x::(Y++S))=some (P++Y++x::S):=by
 intro Y
 induction Y with
 |nil=>
  intro P h hN;rw[A9,hB];simp only[CZ];simp only[Bf]at h;rw[CB (by omega) (by omega),Ae (by omega:¬(P.length:Int)<(v2:Int)-1)];simp
 |cons y Y ih=>
  intro P h hN;simp only[AH]at h;rw[A9,hB];simp only[CZ];rw[CB (by omega) (by omega),Ab (by omega:(P.length:Int)<(v2:Int)-1),Af,ad1 (by omega),Ci,kT,Aa];simp only;have:=ih (P++ [y]) (by simp;omega) hN;simp only[Ah,Aj,Av,FB]at this;rw[this];simp
theorem pH (a:γ->Int) (P S:List γ) (y:γ) (B:Int×List γ->Option ((Int×List γ)⊕(List γ))) (hB:∀k l,B (k,l)=CY (KU a) (P.length:Int) k l):∀(n:Nat) (X S:List γ),X.length=n->P.length+X.length<=1152921504606846976->
  Aq B (((P.length+X.length:Nat):Int),P++X++y::S)=some (P++y::(X++S)):=by
 intro n
 induction n with
 |zero=>
  intro X S hX hN;have:=Ay hX;subst this;rw[A9,hB];simp only[CY];rw[Ae (by simp only[Bf];omega:¬((P.length+([]:List γ).length:Nat):Int)>(P.length:Int))];simp
 |succ n ih=>
  intro X S hX hN
  rcases List.eq_nil_or_concat X with rfl|⟨X0,z,rfl⟩
  ·simp at hX
  rw[List.concat_eq_append]at hX hN⊢;simp only[Ah,Aj]at hX hN;have hl:P.length+(X0++ [z]).length=(P++X0).length+1:=by simp;omega
  have e0:P++(X0++ [z])++y::S=(P++X0)++z::y::S:=by simp
  have ej:sb (((P++X0).length+1:Nat):Int) 1=((P++X0).length:Nat):=by rw[CB (by simp only[Ah];omega) (by simp only[Ah];omega)];omega
  rw[A9,hB];simp only[CY];rw[hl,e0,Ab (by simp only[Ah];omega:(((P++X0).length+1:Nat):Int)>(P.length:Int)),Af,ej,fQ,Aa];simp only;rw[show(P++X0).length=P.length+X0.length from Ah,ih X0 (z::S) (by omega) (by omega)];simp
section
variable (key:γ->Int)
set_option maxHeartbeats 1000000 in
theorem S5:∀(n:Nat) (P X Y S:List γ),X≠ []->Y≠ []->srt key X->srt key Y->X.length+Y.length<=n->P.length+X.length+Y.length+S.length<=1152921504606846976->
  ∃Z,Cm (KU key) n (P++X++Y++S) (P.length:Nat) ((P.length+X.length:Nat):Int) ((P.length+X.length+Y.length:Nat):Int)=some (P++Z++S)/\srt key Z/\BK key (X++Y) Z:=by
 intro n
 induction n with
 |zero=>
  intro P X Y S hX hY _ _ hn _;exact absurd (Ay (by omega)) hX
 |succ n ih=>
  intro P X Y S hX hY sX sY hn hN;have lX:=JC.2 hX;have lY:=JC.2 hY;have eXA:sb ((P.length+X.length:Nat):Int) (P.length:Nat)=(X.length:Int):=by rw[CB (by omega) (by omega)];omega
  have eYB:sb ((P.length+X.length+Y.length:Nat):Int) ((P.length+X.length:Nat):Int)=(Y.length:Int):=by rw[CB (by omega) (by omega)];omega
  rw[Cm,eXA,eYB];by_cases a1:X.length=1
  ·obtain⟨x,rfl⟩:=List.length_eq_one_iff.1 a1;have:(((([x]:List γ).length:Nat):Int)==1)=true:=rfl;rw[this,Af];simp only[Aj]at hn hN⊢;obtain⟨r,r1,r2,r3,r4,r5⟩:=Yx (B:=λs:Int×Int=>Dw (KU key) (P++ [x]++Y++S) (P.length:Nat) s.1 s.2) (λc=>match Y[c-(P.length+1)]? with|some y=>decide (key y<key x)|none=>false) (P.length+1) (P.length+1+Y.length)
    (λi j hi w hj=>by
     simp only[Dw];rw[Ab (by omega:(i:Int)<j),Af];have hm:VF (i:Int) (j:Int)=(((i+j)/2:Nat):Int):=XM i j (by omega);unfold VF at hm;rw[hm];have hk:(i+j)/2-(P.length+1)<Y.length:=by omega
     have g1:gi (P++ [x]++Y++S) (((i+j)/2:Nat):Int)=some Y[(i+j)/2-(P.length+1)]:=by
      have:=Ym (P++ [x]) Y S ((i+j)/2-(P.length+1)) hk;rw[show(P++ [x]).length+((i+j)/2-(P.length+1))=(i+j)/2 by simp;omega]at this;exact this
     have g2:gi (P++ [x]++Y++S) (P.length:Nat)=some x:=by
      have:=Ou P (Y++S) x;simpa using this
     unfold kI;rw[g1,Aa,g2,Aa,Aa,Ad hk];simp only[KU];cases decide (key Y[(i+j)/2-(P.length+1)]<key x)
     ·rfl
     simp only[Af];rw[ad1 (by omega)])
    (λi=>by
     simp only[Dw]
     rw[Ae (by omega:¬(i:Int)<i),Ac])
    (Y.length) (P.length+1) (P.length+1+Y.length) (by omega) (A5 _) (by omega) (A5 _) (λh=>absurd h (by omega)) (λh=>absurd h (by omega))
   rw[r1,Aa];have f:Y.take (r-(P.length+1))++Y.drop (r-(P.length+1))=Y:=Bj _ _;have z:(Y.take (r-(P.length+1))).length=r-(P.length+1):=by simp;omega
   have h1:∀y∈Y.take (r-(P.length+1)),key y<key x:=by
    intro y hy;have h0:0<r-(P.length+1):=by
     rcases Fy (r-(P.length+1))with e|e
     ·rw[e]at hy;simp at hy
     exact e
    have:=QP key sY h0 (by omega) y hy;have hp:=r4 (by omega);rw[show r-1-(P.length+1)=r-(P.length+1)-1 by omega,Ad (by omega)]at hp;simp only[A4]at hp;omega
   have a2:∀y∈Y.drop (r-(P.length+1)),key x<=key y:=by
    intro y hy;have h0:r-(P.length+1)<Y.length:=by
     rcases Cv (r-(P.length+1)) Y.length with e|e
     ·exact e
     rw[Cx e]at hy;simp at hy
    have:=QQ key sY h0 y hy;have hp:=r5 (by omega);rw[Ad h0]at hp;simp only[AX]at hp;omega
   have hm:=lL key (Y.drop (r-(P.length+1))++S) x r (λs=>CZ (KU key) (r:Int) s.1 s.2) (λ_ _=>rfl) (Y.take (r-(P.length+1))) P (by omega) (by omega);have e:P++ [x]++Y++S=P++x::(Y.take (r-(P.length+1))++(Y.drop (r-(P.length+1))++S)):=by
    rw[<-Av (Y.take _),f];simp
   rw[e,hm,Aa];refine⟨Y.take (r-(P.length+1))++x::Y.drop (r-(P.length+1)),by simp,?_,?_⟩
   ·have sY':=sY;rw[<-f]at sY';obtain⟨q1,q2,q3⟩:=Bs.1 sY';refine Bs.2 ⟨q1,CM.2 ⟨a2,q2⟩,λu hu v hv=>?_⟩
    rcases B6.1 hv with rfl|hv
    ·exact fF (h1 u hu)
    exact q3 u hu v hv
   have:=BK.swap key (a:=[x]) (b:=Y.take (r-(P.length+1))) (λu hu y hy=>by simp at hu;subst hu;exact h1 y hy);have:=EZ key this (BK.refl key (Y.drop (r-(P.length+1))));rw[Av,f,Av]at this;exact this
  have:((X.length:Int)==1)=false:=by simpa using(by omega:¬(X.length:Int)=1)
  rw[this,Ac];by_cases f:Y.length=1
  ·obtain⟨y,rfl⟩:=List.length_eq_one_iff.1 f;have:(((([y]:List γ).length:Nat):Int)==1)=true:=rfl;rw[this,Af];simp only[Aj]at hn hN⊢;have gY:gi (P++X++ [y]++S) ((P.length+X.length:Nat):Int)=some y:=by
    have:=Ou (P++X) S y;rw[Ah]at this;simpa using this
   obtain⟨r,r1,r2,r3,r4,r5⟩:=Yx (B:=λs:Int×Int=>Dv (KU key) (P++X++ [y]++S) ((P.length+X.length:Nat):Int) s.1 s.2) (λc=>match X[c-P.length]? with|some x=>!decide (key y<key x)|none=>false) P.length (P.length+X.length)
    (λi j hi w hj=>by
     simp only[Dv];rw[Ab (by omega:(i:Int)<j),Af];have hm:VF (i:Int) (j:Int)=(((i+j)/2:Nat):Int):=XM i j (by omega);unfold VF at hm;rw[hm];have hk:(i+j)/2-P.length<X.length:=by omega
     have g1:gi (P++X++ [y]++S) (((i+j)/2:Nat):Int)=some X[(i+j)/2-P.length]:=by
      have:=Ym P X ([y]++S) ((i+j)/2-P.length) hk;rw[show P.length+((i+j)/2-P.length)=(i+j)/2 by omega]at this;rw[Av];exact this
     unfold kI;rw[gY,Aa,g1,Aa,Aa,Ad hk];simp only[KU];cases decide (key y<key X[(i+j)/2-P.length])
     ·simp only[AM,Af];rw[ad1 (by omega)]
     rfl)
    (λi=>by
     simp only[Dv]
     rw[Ae (by omega:¬(i:Int)<i),Ac])
    (X.length) P.length (P.length+X.length) (by omega) (A5 _) (by omega) (A5 _) (λh=>absurd h (by omega)) (λh=>absurd h (by omega))
   rw[r1,Aa];have hX1':X.take (r-P.length)++X.drop (r-P.length)=X:=Bj _ _;have z:(X.take (r-P.length)).length=r-P.length:=by simp;omega
   have h2:(X.drop (r-P.length)).length=X.length-(r-P.length):=by simp
   have a3:∀x∈X.take (r-P.length),key x<=key y:=by
    intro x hx;have h0:0<r-P.length:=by
     rcases Fy (r-P.length)with e|e
     ·rw[e]at hx;simp at hx
     exact e
    have:=QP key sX h0 (by omega) x hx;have hp:=r4 (by omega);rw[show r-1-P.length=r-P.length-1 by omega,Ad (by omega)]at hp;simp only[CH,AX]at hp;omega
   have l:∀x∈X.drop (r-P.length),key y<key x:=by
    intro x hx;have h0:r-P.length<X.length:=by
     rcases Cv (r-P.length) X.length with e|e
     ·exact e
     rw[Cx e]at hx;simp at hx
    have:=QQ key sX h0 x hx;have hp:=r5 (by omega);rw[Ad h0]at hp;simp only[Bool.not_eq_false',A4]at hp;omega
   have m:(P++X.take (r-P.length)).length=r:=by rw[Ah,z];omega
   have hm:=pH key (P++X.take (r-P.length)) S y (λs=>CY (KU key) (r:Int) s.1 s.2) (λ_ _=>by rw[m]) (X.drop (r-P.length)).length (X.drop (r-P.length)) S rfl (by rw[m,h2];omega);have e:P++X++ [y]++S=P++X.take (r-P.length)++X.drop (r-P.length)++y::S:=by
    have:P++X++ [y]++S=P++(X.take (r-P.length)++X.drop (r-P.length))++ [y]++S:=by rw[hX1']
    rw[this];simp
   rw[m,h2,show r+(X.length-(r-P.length))=P.length+X.length by omega]at hm;rw[e,hm,Aa];refine⟨X.take (r-P.length)++y::X.drop (r-P.length),by simp,?_,?_⟩
   ·have sX':=sX;rw[<-hX1']at sX';obtain⟨q1,q2,q3⟩:=Bs.1 sX';refine Bs.2 ⟨q1,CM.2 ⟨λv hv=>fF (l v hv),q2⟩,λu hu v hv=>?_⟩
    rcases B6.1 hv with rfl|hv
    ·exact a3 u hu
    exact q3 u hu v hv
   have:=BK.swap key (a:=X.drop (r-P.length)) (b:=[y]) (λu hu v hv=>by simp at hv;subst hv;exact l u hu);have:=EZ key (BK.refl key (X.take (r-P.length))) this;rw[<-Av,hX1']at this;exact this
  have:((Y.length:Int)==1)=false:=by simpa using(by omega:¬(Y.length:Int)=1)
  rw[this,Ac];have g:VF (P.length:Nat) ((P.length+X.length+Y.length:Nat):Int)=(((P.length+(P.length+X.length+Y.length))/2:Nat):Int):=XM _ _ (by omega);unfold VF at g;rw[g];obtain⟨mid,h3⟩:∃mid,mid=(P.length+(P.length+X.length+Y.length))/2:=⟨_,rfl⟩;rw[<-h3];have en:ad (mid:Int) ((P.length+X.length:Nat):Int)=((mid+(P.length+X.length):Nat):Int):=by rw[DZ (by omega) (by omega)];omega
  rw[en];obtain⟨lo,hi,a4,b2,b3,o,a0⟩:∃lo hi:Nat,((cond (decide (((P.length+X.length:Nat):Int)>(mid:Int))) (some (sb ((mid+(P.length+X.length):Nat):Int) ((P.length+X.length+Y.length:Nat):Int),(mid:Int))) (some (((P.length:Nat):Int),((P.length+X.length:Nat):Int))):Option (Int×Int))=some ((lo:Int),(hi:Int)))/\
    P.length<=lo/\hi<=P.length+X.length/\lo<=hi/\(P.length+X.length>mid/\lo=mid+(P.length+X.length)-(P.length+X.length+Y.length)/\hi=mid\/P.length+X.length<=mid/\lo=P.length/\hi=P.length+X.length):=by
   by_cases l:P.length+X.length>mid
   ·refine⟨mid+(P.length+X.length)-(P.length+X.length+Y.length),mid,?_,by omega,by omega,by omega,.inl ⟨l,rfl,rfl⟩⟩;rw[Ab (by omega),Af,CB (by omega) (by omega)];congr 2;omega
   exact⟨P.length,P.length+X.length,by rw[Ae (by omega),Ac],by omega,by omega,by omega,.inr ⟨by omega,rfl,rfl⟩⟩
  rw[a4,Aa];simp only;have a5:sb ((mid+(P.length+X.length):Nat):Int) 1=((mid+(P.length+X.length)-1:Nat):Int):=by rw[CB (by omega) (by omega)];omega
  obtain⟨r,r1,r2,r3,r4,r5⟩:=Yx (B:=λs:Int×Int=>Du (KU key) (P++X++Y++S) (P.length:Nat) ((P.length+X.length:Nat):Int) ((P.length+X.length+Y.length:Nat):Int) s.1 s.2)
   (λc=>match Y[mid+(P.length+X.length)-1-c-(P.length+X.length)]?,X[c-P.length]? with|some y,some x=>!decide (key y<key x)|_,_=>false) lo hi
   (λi j hi' w hj=>by
    simp only[Du];rw[Ab (by omega:(i:Int)<j),Af,g,<-h3,en,a5];have hm:VF (i:Int) (j:Int)=(((i+j)/2:Nat):Int):=XM i j (by omega);unfold VF at hm;rw[hm];have hk:(i+j)/2-P.length<X.length:=by omega
    have d:mid+(P.length+X.length)-1-(i+j)/2-(P.length+X.length)<Y.length:=by omega
    have g1:gi (P++X++Y++S) (((i+j)/2:Nat):Int)=some X[(i+j)/2-P.length]:=by
     have:=Ym P X (Y++S) ((i+j)/2-P.length) hk;rw[show P.length+((i+j)/2-P.length)=(i+j)/2 by omega]at this;rw[Av];exact this
    have es:sb ((mid+(P.length+X.length)-1:Nat):Int) (((i+j)/2:Nat):Int)=(((P++X).length+(mid+(P.length+X.length)-1-(i+j)/2-(P.length+X.length)):Nat):Int):=by
     rw[CB (by omega) (by omega),Ah];omega
    have g2:gi (P++X++Y++S) (((P++X).length+(mid+(P.length+X.length)-1-(i+j)/2-(P.length+X.length)):Nat):Int)=some Y[mid+(P.length+X.length)-1-(i+j)/2-(P.length+X.length)]:=Ym (P++X) Y S _ d;unfold kI;rw[es,g2,Aa,g1,Aa,Aa,Ad hk,Ad d];simp only[KU];cases decide (key Y[mid+(P.length+X.length)-1-(i+j)/2-(P.length+X.length)]<key X[(i+j)/2-P.length])
    ·simp only[AM,Af];rw[ad1 (by omega)]
    rfl)
   (λi=>by
    simp only[Du]
    rw[Ae (by omega:¬(i:Int)<i),Ac])
   (hi-lo) lo hi (A5 _) (A5 _) o (A5 _) (λh=>absurd h (by omega)) (λh=>absurd h (by omega))
  rw[r1,Aa];obtain⟨fin,b1⟩:∃fin,fin=mid+(P.length+X.length)-r:=⟨_,rfl⟩;have h4:sb ((mid+(P.length+X.length):Nat):Int) (r:Int)=(fin:Int):=by rw[CB (by omega) (by omega)];omega
  simp only[h4];have b4:P.length+X.length<=fin/\fin<=P.length+X.length+Y.length:=by omega
  obtain⟨A1,A2,hA⟩:∃A1 A2,A1=X.take (r-P.length)/\A2=X.drop (r-P.length):=⟨_,_,rfl,rfl⟩;obtain⟨B1,B2,hB⟩:∃B1 B2,B1=Y.take (fin-(P.length+X.length))/\B2=Y.drop (fin-(P.length+X.length)):=⟨_,_,rfl,rfl⟩;have p:A1++A2=X:=by rw[hA.1,hA.2];exact Bj _ _
  have q:B1++B2=Y:=by rw[hB.1,hB.2];exact Bj _ _
  have lA1:A1.length=r-P.length:=by rw[hA.1];simp;omega
  have lA2:A2.length=P.length+X.length-r:=by rw[hA.2];simp;omega
  have lB1:B1.length=fin-(P.length+X.length):=by rw[hB.1];simp;omega
  have lB2:B2.length=P.length+X.length+Y.length-fin:=by rw[hB.2];simp;omega
  have sX':=sX;rw[<-p]at sX';obtain⟨sA1,sA2,sA⟩:=Bs.1 sX';have sY':=sY;rw[<-q]at sY';obtain⟨sB1,sB2,sB⟩:=Bs.1 sY';have a6:∀u∈A1,∀v∈B2,key u<=key v:=by
   intro u hu v hv;have l1:=La hu;have l2:=La hv;have hp:=r4 (by omega);have d:mid+(P.length+X.length)-1-(r-1)-(P.length+X.length)<Y.length:=by omega
   have k:r-1-P.length<X.length:=by omega
   rw[Ad d,Ad k]at hp;simp only[CH,AX]at hp;rw[hA.1]at hu;have k1:=QP key sX (r:=r-P.length) (by omega) (by omega) u hu;rw[hB.2]at hv;have k2:=QQ key sY (r:=fin-(P.length+X.length)) (by omega) v hv;have i1:X[r-P.length-1]'(by omega)=X[r-1-P.length]'k:=by congr 1;omega
   have i2:Y[fin-(P.length+X.length)]'(by omega)=Y[mid+(P.length+X.length)-1-(r-1)-(P.length+X.length)]'d:=by congr 1;omega
   rw[i1]at k1;rw[i2]at k2;omega
  have h5:∀x∈A2,∀y∈B1,key y<key x:=by
   intro x hx y hy;have l1:=La hx;have l2:=La hy;have hp:=r5 (by omega);have d:mid+(P.length+X.length)-1-r-(P.length+X.length)<Y.length:=by omega
   have k:r-P.length<X.length:=by omega
   rw[Ad d,Ad k]at hp;simp only[Bool.not_eq_false',A4]at hp;rw[hA.2]at hx;have k1:=QQ key sX k x hx;rw[hB.1]at hy;have k2:=QP key sY (r:=fin-(P.length+X.length)) (by omega) (by omega) y hy;have i2:Y[fin-(P.length+X.length)-1]'(by omega)=Y[mid+(P.length+X.length)-1-r-(P.length+X.length)]'d:=by congr 1;omega
   rw[i2]at k2;omega
  have h6:(((bif decide ((r:Int)<((P.length+X.length:Nat):Int))then some (decide (((P.length+X.length:Nat):Int)<(fin:Int)))else some false:Option Bool).bind λj2=>
    (bif j2 then((Eb (KU key) (P++X++Y++S) (r:Int) ((P.length+X.length:Nat):Int) (fin:Int)).bind λv11=>some v11)else some (P++X++Y++S):Option (List γ))))=some (P++A1++B1++A2++B2++S):=by
   have e:P++X++Y++S=(P++A1)++A2++B1++(B2++S):=by rw[<-p,<-q];simp
   by_cases c1:r<P.length+X.length
   ·rw[Ab (by omega:(r:Int)<((P.length+X.length:Nat):Int)),Af,Aa];by_cases c2:P.length+X.length<fin
    ·rw[Ab (by omega:((P.length+X.length:Nat):Int)<(fin:Int)),Af];have hr:=iW (lt:=KU key) (P++A1) A2 B1 (B2++S) (by intro e;rw[e]at lA2;simp at lA2;omega) (by intro e;rw[e]at lB1;simp at lB1;omega) (by simp only[Ah];omega);rw[show(P++A1).length=r by rw[Ah];omega]at hr;rw[show r+A2.length=P.length+X.length by omega,show P.length+X.length+B1.length=fin by omega]at hr;rw[e,hr,Aa];simp
    rw[Ae (by omega:¬((P.length+X.length:Nat):Int)<(fin:Int)),Ac,e];have:B1=[]:=Ay (by omega);rw[this];simp
   rw[Ae (by omega:¬(r:Int)<((P.length+X.length:Nat):Int)),Ac,Aa,Ac,e];have:A2=[]:=Ay (by omega);rw[this];simp
  rw[<-Option.bind_assoc,h6,Aa]
  have h7:∃Z1,(((bif decide (((P.length:Nat):Int)<(r:Int))then some (decide ((r:Int)<(mid:Int)))else some false:Option Bool).bind λj4=>
    (bif j4 then((Cm (KU key) n (P++A1++B1++A2++B2++S) (P.length:Nat) (r:Int) (mid:Int)).bind λv12=>some v12)else some (P++A1++B1++A2++B2++S):Option (List γ))))=some (P++Z1++A2++B2++S)/\srt key Z1/\BK key (A1++B1) Z1:=by
   by_cases c1:P.length<r/\r<mid
   ·rw[Ab (by omega:((P.length:Nat):Int)<(r:Int)),Af,Aa,Ab (by omega:(r:Int)<(mid:Int)),Af];obtain⟨Z,z1,z2,z3⟩:=ih P A1 B1 (A2++B2++S) (by intro e;rw[e]at lA1;simp at lA1;omega) (by intro e;rw[e]at lB1;simp at lB1;omega) sA1 sB1 (by omega) (by simp only[Ah];omega);rw[show P.length+A1.length=r by omega,show r+B1.length=mid by omega]at z1;refine⟨Z,?_,z2,z3⟩;simp only[Av]at z1⊢;rw[z1];rfl
   refine⟨A1++B1,?_,?_,BK.refl key _⟩
   ·have:((bif decide (((P.length:Nat):Int)<(r:Int))then some (decide ((r:Int)<(mid:Int)))else some false:Option Bool))=some false:=by
     by_cases c:P.length<r
     ·rw[Ab (by omega),Af,Ae (by omega)]
     rw[Ae (by omega),Ac]
    rw[this,Aa,Ac];simp
   by_cases c:P.length<r
   ·have:B1=[]:=Ay (by omega);rw[this,Aw];exact sA1
   have:A1=[]:=Ay (by omega);rw[this,AC];exact sB1
  obtain⟨Z1,a7,a8,t⟩:=h7;rw[<-Option.bind_assoc,a7,Aa];have lZ1:Z1.length=A1.length+B1.length:=by have:=t.len key;rw[Ah]at this;omega
  have h8:∃Z2,(bif decide ((mid:Int)<(fin:Int))then(bif decide ((fin:Int)<((P.length+X.length+Y.length:Nat):Int))then((Cm (KU key) n (P++Z1++A2++B2++S) (mid:Int) (fin:Int) ((P.length+X.length+Y.length:Nat):Int)).bind λv13=>some v13)else some (P++Z1++A2++B2++S))else some (P++Z1++A2++B2++S):Option (List γ))=some (P++Z1++Z2++S)/\srt key Z2/\BK key (A2++B2) Z2:=by
   by_cases c1:mid<fin
   ·rw[Ab (by omega:(mid:Int)<(fin:Int)),Af];by_cases c2:fin<P.length+X.length+Y.length
    ·rw[Ab (by omega:(fin:Int)<((P.length+X.length+Y.length:Nat):Int)),Af];obtain⟨Z,z1,z2,z3⟩:=ih (P++Z1) A2 B2 S (by intro e;rw[e]at lA2;simp at lA2;omega) (by intro e;rw[e]at lB2;simp at lB2;omega) sA2 sB2 (by omega) (by simp only[Ah];omega);rw[show(P++Z1).length=mid by rw[Ah];omega,show mid+A2.length=fin by omega,show fin+B2.length=P.length+X.length+Y.length by omega]at z1;exact⟨Z,by rw[z1];rfl,z2,z3⟩
    rw[Ae (by omega:¬(fin:Int)<((P.length+X.length+Y.length:Nat):Int)),Ac];have:B2=[]:=Ay (by omega);refine⟨A2++B2,by simp,?_,BK.refl key _⟩;rw[this,Aw];exact sA2
   rw[Ae (by omega:¬(mid:Int)<(fin:Int)),Ac];have:A2=[]:=Ay (by omega);refine⟨A2++B2,by simp,?_,BK.refl key _⟩;rw[this,AC];exact sB2
  obtain⟨Z2,a9,b0,h9⟩:=h8;rw[a9];refine⟨Z1++Z2,by simp,Bs.2 ⟨a8,b0,λu hu v hv=>?_⟩,?_⟩
  ·have hu':=(t.mem key).1 hu;have hv':=(h9.mem key).1 hv
   rcases Al.1 hu' with hu'|hu'<;>rcases Al.1 hv' with hv'|hv'
   ·exact sA u hu' v hv'
   ·exact a6 u hu' v hv'
   ·exact fF (h5 v hv' u hu')
   exact sB u hu' v hv'
  have e1:=EZ key (BK.refl key A1) (EZ key (BK.swap key h5) (BK.refl key B2));have e2:=EZ key t h9;have e3:=BK.trans key (by simpa using e1) (by simpa using e2);have:X++Y=A1++(A2++(B1++B2)):=by rw[<-p,<-q];simp
  rw[this];simpa using e3
end
section
variable {γ:Type} (key:γ->Int)
inductive Blocks (bs:Nat):List γ->Prop
 |last {l:List γ} (h:l.length<=bs) (hs:srt key l):Blocks bs l
 |cons {X l:List γ} (h:X.length=bs) (hs:srt key X) (hl:Blocks bs l):Blocks bs (X++l)
end
theorem Yz (c:γ->Int) (N:Nat) (hN:N<=1073741824) (B:Int×Int×List γ->Option ((Int×Int×List γ)⊕(Int×List γ))) (hB:∀a b l,B (a,b,l)=CA (KU c) (N:Int) a b l):
  ∀(k:Nat) (P T:List γ),T.length<=k->P.length+T.length=N->
   ∃Q R,Aq B ((P.length:Int),((P.length+20:Nat):Int),P++T)=some (((P.length+Q.length:Nat):Int),P++Q++R)/\BK c T (Q++R)/\R.length<20/\(∀R',srt c R'->R'.length=R.length->Blocks c 20 (Q++R')):=by
 intro k
 induction k with
 |zero=>
  intro P T hT hP;have:=Ay (Nat.le_zero.1 hT);subst this;refine⟨[],[],?_,BK.refl c _,by simp,λR' h h2=>?_⟩
  ·rw[A9,hB];simp only[CA];simp only[Bf]at hP;rw[Ae (by omega:¬((P.length+20:Nat):Int)<=(N:Int))];simp
  rw[AC];exact .last (by simp only[Bf]at h2;omega) h
 |succ k ih=>
  intro P T hT hP;by_cases h20:T.length<20
  ·refine⟨[],T,?_,by rw[AC];exact BK.refl c _,h20,λR' h h2=>by rw[AC];exact .last (by omega) h⟩;rw[A9,hB];simp only[CA];rw[Ae (by omega:¬((P.length+20:Nat):Int)<=(N:Int))];simp
  have d:T=T.take 20++T.drop 20:=(Bj _ _).symm;have l1:(T.take 20).length=20:=by simp;omega
  have l2:(T.drop 20).length=T.length-20:=by simp
  obtain⟨X',x1,x2,x3⟩:=GR c P (T.take 20) (T.drop 20) (by omega);have lX:X'.length=20:=by have:=x3.len c;omega
  rw[l1]at x1;obtain⟨Q,R,q1,q2,q3,q4⟩:=ih (P++X') (T.drop 20) (by omega) (by rw[Ah];omega);refine⟨X'++Q,R,?_,?_,q3,λR' h h2=>?_⟩
  ·rw[A9,hB];simp only[CA];rw[Ab (by omega:((P.length+20:Nat):Int)<=(N:Int)),Af];have e:P++T=P++T.take 20++T.drop 20:=by rw[Av,Bj]
   rw[e,x1,Aa];simp only;have e2:ad ((P.length+20:Nat):Int) 20=(((P++X').length+20:Nat):Int):=by rw[DZ (by omega) (by omega),Ah];omega
   rw[e2,show P.length+20=(P++X').length by rw[Ah];omega,q1];simp only[Ah,Av,Gr]
  ·rw[Av];have:=EZ c x3 q2;rw[Bj]at this;exact this
  rw[Av];exact .cons lX x2 (q4 R' h h2)
theorem Yy (c:γ->Int) (N bs:Nat) (hN:N<=1073741824) (f:0<bs) (g:bs<N) (B:Int×Int×List γ->Option ((Int×Int×List γ)⊕(Int×List γ))) (hB:∀a b l,B (a,b,l)=CV (KU c) (N:Int) (bs:Int) a b l):
  ∀(k:Nat) (P T:List γ),T.length<=k->P.length+T.length=N->Blocks c bs T->
   ∃Q R,Aq B ((P.length:Int),((P.length+2*bs:Nat):Int),P++T)=some (((P.length+Q.length:Nat):Int),P++Q++R)/\BK c T (Q++R)/\R.length<2*bs/\Blocks c bs R/\(∀R',srt c R'->R'.length=R.length->Blocks c (2*bs) (Q++R')):=by
 intro k
 induction k with
 |zero=>
  intro P T hT hP hb;have:=Ay (Nat.le_zero.1 hT);subst this;refine⟨[],[],?_,BK.refl c _,by simp;omega,hb,λR' h h2=>?_⟩
  ·rw[A9,hB];simp only[CV];simp only[Bf]at hP;rw[Ae (by omega:¬((P.length+2*bs:Nat):Int)<=(N:Int))];simp
  rw[AC];exact .last (by simp only[Bf]at h2;omega) h
 |succ k ih=>
  intro P T hT hP hb;by_cases h2:T.length<2*bs
  ·refine⟨[],T,?_,by rw[AC];exact BK.refl c _,h2,hb,λR' h h3=>by rw[AC];exact .last (by omega) h⟩;rw[A9,hB];simp only[CV];rw[Ae (by omega:¬((P.length+2*bs:Nat):Int)<=(N:Int))];simp
  
  obtain⟨X,Y,T2,rfl,lX,lY,sX,sY,d⟩:∃X Y T2,T=X++Y++T2/\X.length=bs/\Y.length=bs/\srt c X/\srt c Y/\Blocks c bs T2:=by
   cases hb with
   |last h hs=>omega
   | @cons X l h hs hl=>
    cases hl with
    |last h' hs'=>
     simp only[Ah]at h2;exact⟨X,l,[],by simp,h,by omega,hs,hs',.last (by simp) List.Pairwise.nil⟩
    | @cons Y l' h' hs' hl'=>exact⟨X,Y,l',by simp,h,h',hs,hs',hl'⟩
  simp only[Ah]at hP hT h2;obtain⟨Z,z1,z2,z3⟩:=S5 c ((P++(X++Y++T2)).length+1) P X Y T2 (by intro e;rw[e]at lX;simp at lX;omega) (by intro e;rw[e]at lY;simp at lY;omega) sX sY (by simp only[Ah];omega) (by omega);have lZ:Z.length=2*bs:=by have:=z3.len c;rw[Ah]at this;omega
  obtain⟨Q,R,q1,q2,q3,q4,q5⟩:=ih (P++Z) T2 (by omega) (by rw[Ah];omega) d;refine⟨Z++Q,R,?_,?_,q3,q4,λR' h h3=>?_⟩
  ·rw[A9,hB];simp only[CV];rw[Ab (by omega:((P.length+2*bs:Nat):Int)<=(N:Int)),Af];have e1:ad (P.length:Int) (bs:Int)=((P.length+X.length:Nat):Int):=by rw[DZ (by omega) (by omega)];omega
   have e2:((P.length+2*bs:Nat):Int)=((P.length+X.length+Y.length:Nat):Int):=by omega
   have e3:ad ((P.length+2*bs:Nat):Int) (ml 2 (bs:Int))=(((P++Z).length+2*bs:Nat):Int):=by
    rw[W7 (by omega) (by omega),DZ (by omega) (by omega),Ah];omega
   have e4:P++(X++Y++T2)=P++X++Y++T2:=by simp
   rw[e3,e1,e2,e4];rw[e4]at z1;rw[z1,Aa];simp only;rw[show P.length+X.length+Y.length=(P++Z).length by rw[Ah];omega,q1];simp only[Ah,Av,Gr]
  ·have:=EZ c z3 q2;simpa only[Av]using this
  rw[Av];exact .cons lZ z2 (q5 R' h h3)
section
variable (key:γ->Int)
theorem Wo (l:List γ) (hN:l.length<=1073741824):∃r,CT (KU key) l (ln l)=some r/\srt key r/\BK key l r:=by
 have rounds:∀(B:Int×List γ->Option ((Int×List γ)⊕(List γ))),(∀b l',B (b,l')=CW (KU key) (l.length:Int) b l')->∀(k bs:Nat) (T:List γ),l.length<=bs+k->0<bs->bs<=2147483648->T.length=l.length->Blocks key bs T->∃r,Aq B ((bs:Int),T)=some r/\srt key r/\BK key T r:=by
  intro B hB k
  induction k with
  |zero=>
   intro bs T hk c d hT hb;rw[A9,hB];simp only[CW];rw[Ae (by omega:¬(bs:Int)<(l.length:Int)),Ac];refine⟨T,rfl,?_,BK.refl key _⟩
   cases hb with
   |last h hs=>exact hs
   | @cons X l' h hs hl=>
    simp only[Ah]at hT;have:l'=[]:=Ay (by omega);rw[this,Aw];exact hs
  |succ k ih=>
   intro bs T hk c d hT hb;by_cases f:bs<l.length
   ·rw[A9,hB];simp only[CW];rw[Ab (by omega:(bs:Int)<(l.length:Int)),Af];obtain⟨Q,R,q1,q2,q3,q4,q5⟩:=Yy key l.length bs hN c f (λs=>CV (KU key) (l.length:Int) (bs:Int) s.1 s.2.1 s.2.2) (λ_ _ _=>rfl) T.length [] T (A5 _) (by simp[hT]) hb;simp only[Bf,AC,Gk]at q1;have a:Q.length+R.length=l.length:=by have:=q2.len key;rw[Ah]at this;omega
    have e2:ml 2 (bs:Int)=((2*bs:Nat):Int):=by rw[W7 (by omega) (by omega)];omega
    have e2':ml (bs:Int) 2=((2*bs:Nat):Int):=by rw[W7 (by omega) (by omega)];omega
    rw[e2,e2'];rw[show((0:Nat):Int)=0 from rfl]at q1;rw[q1,Aa];simp only;have em:ad (Q.length:Int) (bs:Int)=((Q.length+bs:Nat):Int):=by rw[DZ (by omega) (by omega)];omega
    rw[em];by_cases hm:Q.length+bs<l.length
    ·rw[Ab (by omega:((Q.length+bs:Nat):Int)<(l.length:Int)),Af];obtain⟨X,Y,rfl,lX,sX,sY⟩:∃X Y,R=X++Y/\X.length=bs/\srt key X/\srt key Y:=by
      cases q4 with
      |last h hs=>omega
      | @cons X l' h hs hl=>
       refine⟨X,l',rfl,h,hs,?_⟩
       cases hl with
       |last h' hs'=>exact hs'
       | @cons Y l'' h' hs' hl'=>
        simp only[Ah]at q3;have:l''=[]:=Ay (by omega);rw[this,Aw];exact hs'
     simp only[Ah]at a q3;obtain⟨Z,z1,z2,z3⟩:=S5 key ((Q++(X++Y)).length+1) Q X Y [] (by intro e;rw[e]at lX;simp at lX;omega) (by intro e;rw[e]at a;simp at a;omega) sX sY (by simp only[Ah];omega) (by simp only[Bf];omega);have e5:Q++X++Y++ []=Q++(X++Y):=by simp
     rw[e5,Aw,lX,show Q.length+bs+Y.length=l.length by omega]at z1;rw[z1,Aa];have lZ:Z.length=(X++Y).length:=(z3.len key).symm;obtain⟨r,r1,r2,r3⟩:=ih (2*bs) (Q++Z) (by omega) (by omega) (by omega) (by rw[Ah,lZ,Ah];omega) (q5 Z z2 lZ);exact⟨r,r1,r2,BK.trans key q2 (BK.trans key (EZ key (BK.refl key Q) z3) r3)⟩
    rw[Ae (by omega:¬((Q.length+bs:Nat):Int)<(l.length:Int)),Ac];have sR:srt key R:=by
     cases q4 with
     |last h hs=>exact hs
     | @cons X l' h hs hl=>
      simp only[Ah]at a;have:l'=[]:=Ay (by omega);rw[this,Aw];exact hs
    obtain⟨r,r1,r2,r3⟩:=ih (2*bs) (Q++R) (by omega) (by omega) (by omega) (by rw[Ah];omega) (q5 R sR rfl);exact⟨r,r1,r2,BK.trans key q2 r3⟩
   exact ih bs T (by omega) c d hT hb
 unfold CT;rw[BT];obtain⟨Q,R,q1,q2,q3,q4⟩:=Yz key l.length hN (λs=>CA (KU key) (l.length:Int) s.1 s.2.1 s.2.2) (λ_ _ _=>rfl) l.length [] l (A5 _) (by simp);simp only[Bf,AC,Gk]at q1;rw[show((0:Nat):Int)=0 from rfl,show((20:Nat):Int)=20 from rfl]at q1;rw[q1,Aa];have a:Q.length+R.length=l.length:=by have:=q2.len key;rw[Ah]at this;omega
 obtain⟨R',r1,r2,r3⟩:=GR key Q R [] (by simp only[Bf];omega);rw[Aw,Aw,a]at r1;simp only;rw[r1,Aa];have lR:R'.length=R.length:=(r3.len key).symm;obtain⟨r,w1,w2,w3⟩:=rounds (λs=>CW (KU key) (l.length:Int) s.1 s.2) (λ_ _=>rfl) l.length 20 (Q++R') (by omega) (by omega) (by omega) (by rw[Ah,lR];exact a) (q4 R' r2 lR);rw[show((20:Nat):Int)=20 from rfl]at w1;rw[w1];exact⟨r,rfl,w2,BK.trans key q2 (BK.trans key (EZ key (BK.refl key Q) r3) w3)⟩
end
end Go.TI
