/- What walks of Go code need. No condition. -/
import Derived.Test.YtiaanofedbfeeabGreatBBT3
import Derived.Laws.Strings
import Derived.Laws.BitsLemmas
set_option linter.unusedSimpArgs false
set_option linter.unusedVariables false
namespace Go.TI
open Go
theorem Pw {n:Int} (h1: -9223372036854775808<=n) (h2:n<=9223372036854775807):IntKind.i64.wrap n=n:=by rw[IntKind.wrap_i64];omega
theorem C6 {a b:Int} (h1: -9223372036854775808<=a+b:=by omega) (h2:a+b<=9223372036854775807:=by omega):ad a b=a+b:=Pw h1 h2
theorem Cj {a b:Int} (h1: -9223372036854775808<=a-b:=by omega) (h2:a-b<=9223372036854775807:=by omega):sb a b=a-b:=Pw h1 h2
theorem PE {a b:Int} (h1: -9223372036854775808<=a*b) (h2:a*b<=9223372036854775807):ml a b=a*b:=Pw h1 h2
variable {γ α β S σ S' β':Type} {i n by_ r:Nat} {p:Prop} {l:List α} {b:List γ} {body':S'->Option (S'⊕β)} {a:List γ} {s:σ} {x:α} {z:α->Nat} {c:List γ} {lt:γ->γ->Bool} {X:List γ}
theorem ad1 (h:i<9223372036854775807:=by omega):ad (i:Int) 1=((i+1:Nat):Int):=by rw[C6]<;>omega
theorem Lu (a b:ByteArray):seq a b=decide (a=b):=by
 unfold seq;rw[DU,Cd,A5];constructor
 ·intro h;rw[ByteArray.toList_eq,ByteArray.toList_eq]at h;cases a;cases b;simp only[ByteArray.mk.injEq];exact ACs h
 intro h;rw[h]
theorem Aw:gi l (i:Int)=l[i]? :=by
 unfold gi;rw[Ay<|by omega];simp
theorem E8:si l (i:Int) x=l.set i x:=by simp[si]
theorem KH:decide ((i:Int)<ln l)=decide (i<l.length):=by
 rw[DU,A5,A5];simp[ln]
theorem cF {a b:α} [Decidable p] (h:¬p:=by omega):cond (decide p) a b=b:=by rw[Af h,Ac]
theorem cT {a b:α} [Decidable p] (h:p:=by omega):cond (decide p) a b=a:=by rw[Ad h,Ae]
theorem Ec {a b:β}:cond (decide (((l.length:Nat):Int)<ln l)) a b=b:=cF (by rw[ln];omega)
theorem Ez {a b:β} (h:i<l.length):cond (decide ((i:Int)<ln l)) a b=a:=cT (by rw[ln];omega)
def PN (step:σ->Nat->α->σ⊕β) (fin:σ->β):List α->Nat->σ->β
 |[],_,s=>fin s
 |x::l,i,s=>match step s i x with
  | .inl s'=>PN step fin l (i+1) s'
  | .inr b=>b
theorem fN {body:S->Option (S⊕β)} (a:σ->Int->S) (l:List α) (step:σ->Nat->α->σ⊕β) (fin:σ->β) (c:Nat->σ->Prop) (h1:∀s i x,l[i]?=some x->c i s->body (a s (i:Nat))=some (match step s i x with| .inl s'=> .inl (a s' ((i+1:Nat):Int))| .inr b=> .inr b)/\∀s',step s i x= .inl s'->c (i+1) s') (h2:∀s,c l.length s->body (a s (l.length:Nat))=some (.inr (fin s))):∀(n i:Nat) (s:σ),i+n=l.length->c i s->Ap body (a s (i:Nat))=some (PN step fin (l.drop i) i s)
 |0,i,s,hi,hs=>by
  have:i=l.length:=by omega
  subst this;rw[A0,h2 s hs,DY<|Au _];rfl
 |n+1,i,s,hi,hs=>by
  have d:i<l.length:=by omega
  obtain⟨h3,h4⟩:=h1 s i l[i] (Ab d) hs;rw[A0,h3,AT d,PN]
  cases e:step s i l[i]with
  |inl s'=>simp only[];exact fN a l step fin c h1 h2 n (i+1) s' (by omega)<|h4 s' e
  |inr b=>rfl
theorem Qx {body:S->Option (S⊕β)} (a:σ->Int->S) (l:List α) (step:σ->Nat->α->σ⊕β) (fin:σ->β) (c:Nat->σ->Prop) (h1:∀s i x,l[i]?=some x->c i s->body (a s (i:Nat))=some (match step s i x with| .inl s'=> .inl (a s' ((i+1:Nat):Int))| .inr b=> .inr b)/\∀s',step s i x= .inl s'->c (i+1) s') (h2:∀s,c l.length s->body (a s (l.length:Nat))=some (.inr (fin s))) (hs:c 0 s):Ap body (a s 0)=some (PN step fin l 0 s):=
 fN a l step fin c h1 h2 l.length 0 s (by omega) hs
def zl (z:α->Nat) (l:List α):Nat:=l.length+(l.map z).sum
theorem gM (h:x∈l):z x+1<=zl z l:=by
 unfold zl
 induction l with
 |nil=>cases h
 |cons y l ih=>
  simp only[BJ,FG,A7]
  rcases CC.1 h with rfl|h
  ·omega
  have:=ih h;omega
theorem R9:l.length<=zl z l:=by unfold zl;omega
theorem uN {body:Int->Option (Int⊕Unit⊕Bool)} (a:List α) (b:List β) (p:α->β->Bool) (hl:a.length=b.length) (hM:a.length<=9223372036854775807) (h1:∀(i:Nat) x y,a[i]?=some x->b[i]?=some y->body (i:Nat)=some (bif p x y then .inl (((i+1:Nat)):Int)else .inr (.inr false))) (h2:body (a.length:Nat)=some (.inr (.inl ()))):
  Ap body 0=some (bif(a.zip b).all (λz=>p z.1 z.2)then .inl ()else .inr false):=by
 have hz:(a.zip b).length=a.length:=by simp[hl]
 have:=Qx (body:=body) (λ(_:Unit) i=>i) (a.zip b) (λ_ _ z=>bif p z.1 z.2 then .inl ()else .inr<|.inr false) (λ_=> .inl ()) (λ_ _=>True)
  (λs i x hx _=>by
   refine⟨?_,λ_ _=>trivial⟩;obtain⟨x1,x2⟩:=x;have hx':=Ag.1 hx;obtain⟨d,hx'⟩:=hx';rw[List.getElem_zip]at hx'
   injection hx' with e1 e2
   rw[h1 i x1 x2 (by rw[<-e1];exact Ab _) (by rw[<-e2];exact Ab _)];simp only
   cases p x1 x2<;>rfl)
  (λs _=>by rw[hz];exact h2) (s:=()) trivial
 rw[this];have c:∀(m:List (α×β)) (i:Nat),PN (λ(_:Unit) _ z=>bif p z.1 z.2 then .inl ()else .inr<|.inr false) (λ_=>(.inl ():Unit⊕Bool)) m i ()=bif m.all (λz=>p z.1 z.2)then .inl ()else .inr false:=by
  intro m
  induction m with
  |nil=>intro i;rfl
  |cons z m ih=>
   intro i;simp only[PN,FI]
   cases p z.1 z.2 with
   |false=>rfl
   |true=>simp only[Ae,Dn];exact ih _
 rw[c]
theorem sT {p:α->α->Bool}:∀{a b:List α},(∀x∈a,∀y∈b,p x y=true↔x=y)->a.length=b.length->((a.zip b).all (λz=>p z.1 z.2)=true↔a=b)
 |[],[],_,_=>by simp
 |x::a,y::b,hp,h=>by
  have ih:=sT (p:=p) (a:=a) (b:=b) (λx' hx y' hy=>hp x' (FP _ hx) y'<|FP _ hy) (by simpa using h);simp only[List.zip_cons_cons,FI,Ak,ih,hp x CZ y CZ,R1]
 |[],_::_,_,h=>by simp at h
 |_::_,[],_,h=>by simp at h
theorem VG {body:S->Option (S⊕β)} (a:σ->Int->S) (n:Nat) (c:Nat->σ->Prop) (Q:β->Prop) (h1:∀s i,i<n->c i s->(∃s',body (a s (i:Nat))=some (.inl (a s' ((i+1:Nat):Int)))/\c (i+1) s')\/∃b,body (a s (i:Nat))=some (.inr b)/\Q b) (h2:∀s,c n s->∃b,body (a s (n:Nat))=some (.inr b)/\Q b):∀(k i:Nat) (s:σ),i+k=n->c i s->∃b,Ap body (a s (i:Nat))=some b/\Q b
 |0,i,s,hi,hs=>by
  have:i=n:=by omega
  subst this;obtain⟨b,h3,h4⟩:=h2 s hs;exact⟨b,by rw[A0,h3],h4⟩
 |k+1,i,s,hi,hs=>by
  rcases h1 s i (by omega) hs with⟨s',h3,h4⟩|⟨b,h3,h4⟩
  ·obtain⟨b,h5,h6⟩:=VG a n c Q h1 h2 k (i+1) s' (by omega) h4;exact⟨b,by rw[A0,h3];exact h5,h6⟩
  exact⟨b,by rw[A0,h3],h4⟩
theorem AS {body:S->Option (S⊕β)} (a:σ->Int->S) (n:Nat) (c:Nat->σ->Prop) (Q:β->Prop) (h1:∀s i,i<n->c i s->(∃s',body (a s (i:Nat))=some (.inl (a s' ((i+1:Nat):Int)))/\c (i+1) s')\/∃b,body (a s (i:Nat))=some (.inr b)/\Q b) (h2:∀s,c n s->∃b,body (a s (n:Nat))=some (.inr b)/\Q b) (hs:c 0 s):∃b,Ap body (a s 0)=some b/\Q b:=
 VG a n c Q h1 h2 n 0 s (by omega) hs
theorem WC {body body':S->Option (S⊕β)} (a:σ->Int->S) (n:Nat) (c:Nat->σ->Prop) (Q:β->Prop) (h1:∀s i,i<n->c i s->body' (a s (i:Nat))=body (a s (i:Nat))/\((∃s',body (a s (i:Nat))=some (.inl (a s' ((i+1:Nat):Int)))/\c (i+1) s')\/∃b,body (a s (i:Nat))=some (.inr b)/\Q b)) (h2:∀s,c n s->body' (a s (n:Nat))=body (a s (n:Nat))/\∃b,body (a s (n:Nat))=some (.inr b)/\Q b):∀(k i:Nat) (s:σ),i+k=n->c i s->∃b,Ap body (a s (i:Nat))=some b/\Ap body' (a s (i:Nat))=some b/\Q b
 |0,i,s,hi,hs=>by
  have:i=n:=by omega
  subst this;obtain⟨e,b,h3,h4⟩:=h2 s hs;exact⟨b,by rw[A0,h3],by rw[A0,e,h3],h4⟩
 |k+1,i,s,hi,hs=>by
  obtain⟨e,h⟩:=h1 s i (by omega) hs
  rcases h with⟨s',h3,h4⟩|⟨b,h3,h4⟩
  ·obtain⟨b,h5,h6,h7⟩:=WC a n c Q h1 h2 k (i+1) s' (by omega) h4;exact⟨b,by rw[A0,h3];exact h5,by rw[A0,e,h3];exact h6,h7⟩
  exact⟨b,by rw[A0,h3],by rw[A0,e,h3],h4⟩
theorem I4 {body body':S->Option (S⊕β)} (a:σ->Int->S) (n:Nat) (c:Nat->σ->Prop) (Q:β->Prop) (h1:∀s i,i<n->c i s->body' (a s (i:Nat))=body (a s (i:Nat))/\((∃s',body (a s (i:Nat))=some (.inl (a s' ((i+1:Nat):Int)))/\c (i+1) s')\/∃b,body (a s (i:Nat))=some (.inr b)/\Q b)) (h2:∀s,c n s->body' (a s (n:Nat))=body (a s (n:Nat))/\∃b,body (a s (n:Nat))=some (.inr b)/\Q b) (hs:c 0 s):∃b,Ap body (a s 0)=some b/\Ap body' (a s 0)=some b/\Q b:=
 WC a n c Q h1 h2 n 0 s (by omega) hs
theorem ZI {body:Int->Option (Int⊕β)} (l:List α) (p:Nat->α->Bool) (no yes:β) (hM:l.length<=9223372036854775807) (h1:∀(i:Nat) x,l[i]?=some x->body (i:Nat)=some (bif p i x then .inl (((i+1:Nat)):Int)else .inr no)) (h2:body (l.length:Nat)=some (.inr yes)):
  Ap body 0=some (bif l.zipIdx.all (λz=>p z.2 z.1)then yes else no):=by
 have:=Qx (body:=body) (λ(_:Unit) i=>i) l (λ_ i x=>bif p i x then .inl ()else .inr no) (λ_=>yes) (λ_ _=>True)
  (λs i x hx _=>by
   refine⟨?_,λ_ _=>trivial⟩;rw[h1 i x hx]
   cases p i x<;>rfl)
  (λs _=>h2) (s:=()) trivial
 rw[this];have a:∀(m:List α) (i:Nat),PN (λ(_:Unit) i x=>bif p i x then .inl ()else .inr no) (λ_=>yes) m i ()=bif(m.zipIdx i).all (λz=>p z.2 z.1)then yes else no:=by
  intro m
  induction m with
  |nil=>intro i;rfl
  |cons z m ih=>
   intro i;simp only[PN,List.zipIdx_cons,FI]
   cases p i z with
   |false=>rfl
   |true=>simp only[Ae,Dn];exact ih _
 rw[a]
theorem VF {body:Int×List γ->Option ((Int×List γ)⊕List γ)} (l:List α) (f:α->γ) (h1:∀(i:Nat) x (a:List γ),l[i]?=some x->a.length=i->body ((i:Nat),a)=some (.inl (((i+1:Nat):Int),a++ [f x]))) (h2:∀a,body ((l.length:Nat),a)=some (.inr a)):
  Ap body (0,[])=some (l.map f):=by
 have:=Qx (body:=body) (λ(s:List γ) i=>(i,s)) l (λa _ x=>(.inl (a++ [f x]):List γ⊕List γ)) (λa=>a) (λi a=>a.length=i)
  (λs i x hx hi=>by
   refine⟨h1 i x s hx hi,λs' hs=>?_⟩
   injection hs with hs
   rw[<-hs,Ai,A8,hi])
  (λs _=>h2 s) (s:=[]) rfl
 rw[this];have b:∀(m:List α) (i:Nat) (a:List γ),PN (λa _ x=>(.inl (a++ [f x]):List γ⊕List γ)) (λa=>a) m i a=a++m.map f:=by
  intro m
  induction m with
  |nil=>intro i a;simp[PN]
  |cons z m ih=>
   intro i a;simp only[PN,ih,BJ,Ax,D6]
 rw[b,A6]
theorem qS {body:Int×List γ->Option ((Int×List γ)⊕List γ)} (n:Nat) (f:Nat->γ) (h1:∀(i:Nat) (a:List γ),i<n->a.length=i->body ((i:Nat),a)=some (.inl (((i+1:Nat):Int),a++ [f i]))) (h2:∀a,body ((n:Nat),a)=some (.inr a)):
  Ap body (0,[])=some ((List.range n).map f):=
 VF (List.range n) f (λi x a hx ho=>by
  obtain⟨b,hx⟩:=Ag.1 hx;rw[List.getElem_range]at hx;rw[<-hx]
  exact h1 i a (by simpa using b) ho) (λa=>by rw[CR];exact h2 a)
theorem WA {z:α} (h:by_*n<=281474976710656) (h2:n<=9223372036854775807):mk by_ z (n:Int)=some (List.replicate n z):=by
 unfold mk;have:((by_*n:Nat):Int)<=281474976710656:=by omega
 rw[Int.natCast_mul]at this;rw[Ay ⟨by omega,this,by omega⟩,Be]
theorem BP {m:List α} (h:(l.length+m.length)*by_<=140737488355328):ap by_ l m=some (l++m):=Ay h
theorem KX {i:Int} (h1:0<=i) (h2:i<l.length):gi l i=some (l[i.toNat]'(by omega)):=by
 unfold gi;rw[Ay h1];exact Ab _
theorem B4:ln l=(l.length:Int):=rfl
def L (s:ByteArray):List UInt8:=s.data.toList
theorem Lf {a b:ByteArray} (h:L a=L b):a=b:=by
 cases a;cases b;simp only[L]at h;simp only[ByteArray.mk.injEq];exact ACs h
theorem Xh (s:ByteArray):(L s).length=s.size:=by cases s;rfl
theorem DZ (a b:ByteArray):L (a++b)=L a++L b:=by simp[L]
theorem EY (l:List UInt8):L (bs l)=l:=by simp[L,bs]
theorem LX (l:List Int):L (Fo l)=l.map λn=>UInt8.ofNat n.toNat:=strOfNums_data l
theorem IP (s:ByteArray) (i j:Nat):L (s.extract i j)=((L s).drop i).take (j-i):=by
 have:s=ByteArray.mk (L s).toArray:=by cases s;simp[L]
 rw[this,ByteArray.extract_mk];simp[L]
theorem B9 (s:ByteArray):FM s=((L s).length:Int):=by rw[Xh];rfl
theorem Fl (s:ByteArray) (h:i<(L s).length):sx s (i:Int)=some (((L s)[i]).toNat:Int):=by
 have h':i<s.size:=by rw[<-Xh];exact h
 unfold sx;rw[Ay ⟨by omega,by omega⟩];unfold Bi.bt;rw[dif_pos<|by simpa using h'];rfl
theorem FK {j:Nat} (s:ByteArray) (h1:i<=j) (h2:j<=(L s).length):sub s (i:Int) (j:Int)=some (s.extract i j):=by
 rw[Xh]at h2;unfold sub;rw[Ay ⟨by omega,by omega,by omega⟩,Be,Be]
theorem FU (a b:ByteArray) (h:(L a).length+(L b).length<=9223372036854775807):Ie a b=some (a++b):=by
 rw[Xh,Xh]at h;unfold Ie;rw[Av<|by omega]
theorem Rp (a b:ByteArray):seq a b=decide (L a=L b):=by
 rw[Lu,DU,A5,A5];exact⟨λh=>by rw[h],Lf⟩
def Cw (n:Nat):List UInt8:=if h:n<=127 then [UInt8.ofNat n]else UInt8.ofNat (n %128+128)::Cw (n/128)
termination_by n
decreasing_by omega
def Fx:List UInt8->Nat
 |[]=>0
 |d::ds=>d.toNat %128+128*Fx ds
theorem O9:∀(ds es:List UInt8),Fx (ds++es)=Fx ds+128^ds.length*Fx es
 |[],es=>by simp[Fx]
 |d::ds,es=>by
  simp only[B5,Fx,O9 ds es,A7,Yj];rw[Nat.mul_add,PY];congr 2;rw[<-Nat.mul_assoc,sJ 128]
theorem lG (d:UInt8):d.toNat<256:=d.toNat_lt
theorem JV (h:n<=127):Cw n=[UInt8.ofNat n]:=by rw[Cw,dif_pos h]
theorem S7 (h:¬n<=127):Cw n=UInt8.ofNat (n %128+128)::Cw (n/128):=by rw[Cw,dif_neg h]
theorem d7:∀{ds:List UInt8} {x:UInt8},Fx (ds++ [x])=0->x.toNat<128->x.toNat=0
 |[],x,h,hx=>by simp[Fx]at h;omega
 |d::ds,x,h,hx=>by
  simp only[B5,Fx]at h;exact d7 (ds:=ds) (by omega) hx
theorem fY:∀(ds:List UInt8) (x:UInt8),(∀d∈ds,128<=d.toNat)->x.toNat<128->(Cw (Fx (ds++ [x]))=ds++ [x]↔¬(x.toNat=0/\ds≠ []))
 |[],x,_,hx=>by
  have:Fx ([]++ [x])=x.toNat:=by simp[Fx];omega
  rw[this,JV<|by omega];simp
 |d::ds,x,hd,hx=>by
  have ih:=fY ds x (λe he=>hd e<|FP _ he) hx;have h1:=hd d CZ;have h2:=lG d;have hv:Fx (d::ds++ [x])=d.toNat-128+128*Fx (ds++ [x]):=by
   simp only[B5,Fx];omega
  rw[hv];by_cases h0:Fx (ds++ [x])=0
  ·have a:=d7 h0 hx;rw[h0,JV<|by omega];refine iff_of_false ?_ (by simp[a]);intro e;have:=BG List.length e;simp at this
  rw[S7<|by omega];have e1:UInt8.ofNat ((d.toNat-128+128*Fx (ds++ [x])) %128+128)=d:=by
   have:(d.toNat-128+128*Fx (ds++ [x])) %128+128=d.toNat:=by omega
   rw[this,UInt8.ofNat_toNat]
  have e2:(d.toNat-128+128*Fx (ds++ [x]))/128=Fx (ds++ [x]):=by omega
  rw[e1,e2,B5,R1];rw[ih];constructor
  ·rintro⟨_,h⟩ ⟨h3,_⟩;refine h ⟨h3,?_⟩;rintro rfl;apply h0;simp[Fx,h3]
  intro h;exact⟨rfl,λh3=>h ⟨h3.1,by simp⟩⟩
theorem oB:∀(n:Nat),(Cw n).length<=n+1
 |n=>by
  by_cases h:n<=127
  ·rw[JV h];simp
  have:=oB<|n/128;rw[S7 h,A7];omega
termination_by n=>n
decreasing_by omega
theorem fZ {body:Int×List Int->Option ((Int×List Int)⊕(Int×List Int))} (hb:∀n a,body (n,a)=bif decide (n>127)then((ap 1 a [IntKind.u8.wrap (ad (Int.tmod n 128) 128)]).bind λc=>some (.inl (qu n 128,c)))else some (.inr (n,a))):
  ∀(n:Nat) (a:List Int),a.length+n<=1099511627776->∃(m:Nat) (o:List Int),Ap body ((n:Int),a)=some ((m:Int),o)/\m<=127/\o.length<=a.length+n/\(o++ [(m:Int)]).map (λn=>UInt8.ofNat n.toNat)=a.map (λn=>UInt8.ofNat n.toNat)++Cw n
 |n,a,h=>by
  rw[A0,hb];by_cases hn:n<=127
  ·rw[Af (by omega),Ac];exact⟨n,a,rfl,hn,by omega,by rw[JV hn];simp⟩
  rw[Ad (by omega),Ae,BP (by simp only[A8];omega),Aa];have e1:Int.tmod (n:Int) 128=((n %128:Nat):Int):=rfl;have e2:qu (n:Int) 128=((n/128:Nat):Int):=by
   unfold qu;rw[show Int.tdiv (n:Int) 128=((n/128:Nat):Int)from Int.ofNat_tdiv n 128|>.symm,Pw (by omega)<|by omega]
  have e3:IntKind.u8.wrap (ad (Int.tmod (n:Int) 128) 128)=((n %128+128:Nat):Int):=by
   rw[e1,C6 (by omega) (by omega),IntKind.wrap_u8];omega
  obtain⟨m,o,h1,h2,h3,h4⟩:=fZ hb (n/128) (a++ [((n %128+128:Nat):Int)]) (by simp only[Ai,A8];omega);rw[e2,e3];refine⟨m,o,h1,h2,by simp only[Ai,A8]at h3;omega,?_⟩;rw[h4,S7 hn,Co,Ax];rfl
termination_by n=>n
decreasing_by omega
theorem ADT {s:Int} (h0:0<=s) (h1:s<4294967296):IntKind.u32.wrap (Int.tdiv s 2)=Int.fdiv s (2^(min (1:Int).toNat IntKind.u32.bits)):=by
 have e:(2:Int)^(min (1:Int).toNat IntKind.u32.bits)=2:=by decide
 rw[e,IntKind.wrap_u32,Int.tdiv_eq_ediv_of_nonneg h0,Int.fdiv_eq_ediv_of_nonneg _<|by omega];omega
theorem an1 {s:Int} (h0:0<=s) (h1:s<4294967296):an s 1=Int.tmod s 2:=by
 unfold an;obtain⟨n,rfl⟩:=C0 h0;have:(BitVec.ofInt 32 (n:Int)&&&BitVec.ofInt 32 1).toNat=n %2:=by
  rw[BitVec.toNat_and,BitVec.ofInt_natCast,BitVec.toNat_ofNat];have e1:(BitVec.ofInt 32 1).toNat=1:=by decide
  rw[e1,Nat.and_one_is_mod];omega
 rw[this,IntKind.wrap_u32,Lj<|by omega];omega
theorem ACu (a b:Int):0<=xr a b/\xr a b<4294967296:=by
 unfold xr;rw[IntKind.wrap_u32];omega
theorem fM {body:S->Option (S⊕β)} (a:σ->Int->S) (mkS':σ->Int->S') (n:Nat) (c:Nat->σ->Prop) (Q:β->Prop) (h1:∀s i,i<n->c i s->(∃s',body (a s (i:Nat))=some (.inl (a s' ((i+1:Nat):Int)))/\body' (mkS' s (i:Nat))=some (.inl (mkS' s' ((i+1:Nat):Int)))/\c (i+1) s')\/∃b,body (a s (i:Nat))=some (.inr b)/\body' (mkS' s (i:Nat))=some (.inr b)/\Q b) (h2:∀s,c n s->∃b,body (a s (n:Nat))=some (.inr b)/\body' (mkS' s (n:Nat))=some (.inr b)/\Q b):∀(k i:Nat) (s:σ),i+k=n->c i s->∃b,Ap body (a s (i:Nat))=some b/\Ap body' (mkS' s (i:Nat))=some b/\Q b
 |0,i,s,hi,hs=>by
  have:i=n:=by omega
  subst this;obtain⟨b,h3,h4,h5⟩:=h2 s hs;exact⟨b,by rw[A0,h3],by rw[A0,h4],h5⟩
 |k+1,i,s,hi,hs=>by
  rcases h1 s i (by omega) hs with⟨s',h3,h4,h5⟩|⟨b,h3,h4,h5⟩
  ·obtain⟨b,h6,h7,h8⟩:=fM a mkS' n c Q h1 h2 k (i+1) s' (by omega) h5;exact⟨b,by rw[A0,h3];exact h6,by rw[A0,h4];exact h7,h8⟩
  exact⟨b,by rw[A0,h3],by rw[A0,h4],h5⟩
theorem Sh {body:S->Option (S⊕β)} (a:σ->Int->S) (mkS':σ->Int->S') (n:Nat) (c:Nat->σ->Prop) (Q:β->Prop) (h1:∀s i,i<n->c i s->(∃s',body (a s (i:Nat))=some (.inl (a s' ((i+1:Nat):Int)))/\body' (mkS' s (i:Nat))=some (.inl (mkS' s' ((i+1:Nat):Int)))/\c (i+1) s')\/∃b,body (a s (i:Nat))=some (.inr b)/\body' (mkS' s (i:Nat))=some (.inr b)/\Q b) (h2:∀s,c n s->∃b,body (a s (n:Nat))=some (.inr b)/\body' (mkS' s (n:Nat))=some (.inr b)/\Q b) (hs:c 0 s):∃b,Ap body (a s 0)=some b/\Ap body' (mkS' s 0)=some b/\Q b:=
 fM a mkS' n c Q h1 h2 n 0 s (by omega) hs
theorem W3 {body:S->Option (S⊕β)} (φ:S->S') (h:∀s,body' (φ s)=(body s).map (Sum.map φ id)):∀(n:Nat) (s:S),Ql body' n (φ s)=Ql body n s
 |0,_=>rfl
 |n+1,s=>by
  simp only[Ql,h]
  cases body s with
  |none=>rfl
  |some o=>
   cases o with
   |inl s'=>exact W3 φ h n s'
   |inr b=>rfl
theorem qT {body:S->Option (S⊕β)} (φ:S->S') (h:∀s,body' (φ s)=(body s).map (Sum.map φ id)) (s:S):Ap body' (φ s)=Ap body s:=by
 have b:∀a,Ap body' (φ s)=some a↔Ap body s=some a:=λa=>by
  rw[HM,HM];exact⟨λ⟨n,hn⟩=>⟨n,by rw[<-W3 φ h];exact hn⟩,λ⟨n,hn⟩=>⟨n,by rw[W3 φ h];exact hn⟩⟩
 cases hx:Ap body s with
 |some a=>exact(b a).2 hx
 |none=>
  cases hy:Ap body' (φ s)with
  |none=>rfl
  |some a=>rw[(b a).1 hy]at hx;cases hx
theorem Uo {body:S->Option (S⊕β)} (φ:S->S') (I:S->Prop) (h:∀s,I s->body' (φ s)=(body s).map (Sum.map φ id)) (hI:∀s s',I s->body s=some (.inl s')->I s'):∀(n:Nat) (s:S),I s->Ql body' n (φ s)=Ql body n s
 |0,_,_=>rfl
 |n+1,s,hs=>by
  simp only[Ql,h s hs]
  cases hb:body s with
  |none=>rfl
  |some o=>
   cases o with
   |inl s'=>exact Uo φ I h hI n s' (hI s s' hs hb)
   |inr b=>rfl
theorem nF {body:S->Option (S⊕β)} (φ:S->S') (I:S->Prop) (h:∀s,I s->body' (φ s)=(body s).map (Sum.map φ id)) (hI:∀s s',I s->body s=some (.inl s')->I s') (s:S) (hs:I s):Ap body' (φ s)=Ap body s:=by
 have b:∀a,Ap body' (φ s)=some a↔Ap body s=some a:=λa=>by
  rw[HM,HM];exact⟨λ⟨n,hn⟩=>⟨n,by rw[<-Uo φ I h hI n s hs];exact hn⟩,λ⟨n,hn⟩=>⟨n,by rw[Uo φ I h hI n s hs];exact hn⟩⟩
 cases hx:Ap body s with
 |some a=>exact(b a).2 hx
 |none=>
  cases hy:Ap body' (φ s)with
  |none=>rfl
  |some a=>rw[(b a).1 hy]at hx;cases hx
theorem vS {s:S} {b:β} {body:S->Option (S⊕β)} (I:S->Prop) (Q:β->Prop) (hI:∀s s',I s->body s=some (.inl s')->I s') (hQ:∀s b,I s->body s=some (.inr b)->Q b) (hs:I s) (h:Ap body s=some b):Q b:=by
 obtain⟨n,hn⟩:=HM.1 h;clear h
 induction n generalizing s with
 |zero=>cases hn
 |succ n ih=>
  simp only[Ql]at hn;split at hn
  ·cases hn
  ·rename_i s' hb;exact ih (hI s s' hs hb) hn
  rename_i b' hb
  injection hn with hn
  subst hn;exact hQ s b' hs hb
theorem ZH {body':S'->Option (S'⊕β')} {body:S->Option (S⊕β)} (a:σ->Int->S) (mkS':σ->Int->S') (n:Nat) (c:Nat->σ->Prop) (Q:β->β'->Prop) (h1:∀s i,i<n->c i s->(∃s',body (a s (i:Nat))=some (.inl (a s' ((i+1:Nat):Int)))/\body' (mkS' s (i:Nat))=some (.inl (mkS' s' ((i+1:Nat):Int)))/\c (i+1) s')\/∃b b',body (a s (i:Nat))=some (.inr b)/\body' (mkS' s (i:Nat))=some (.inr b')/\Q b b') (h2:∀s,c n s->∃b b',body (a s (n:Nat))=some (.inr b)/\body' (mkS' s (n:Nat))=some (.inr b')/\Q b b'):∀(k i:Nat) (s:σ),i+k=n->c i s->∃b b',Ap body (a s (i:Nat))=some b/\Ap body' (mkS' s (i:Nat))=some b'/\Q b b'
 |0,i,s,hi,hs=>by
  have:i=n:=by omega
  subst this;obtain⟨b,b',h3,h4,h5⟩:=h2 s hs;exact⟨b,b',by rw[A0,h3],by rw[A0,h4],h5⟩
 |k+1,i,s,hi,hs=>by
  rcases h1 s i (by omega) hs with⟨s',h3,h4,h5⟩|⟨b,b',h3,h4,h5⟩
  ·obtain⟨b,b',h6,h7,h8⟩:=ZH a mkS' n c Q h1 h2 k (i+1) s' (by omega) h5;exact⟨b,b',by rw[A0,h3];exact h6,by rw[A0,h4];exact h7,h8⟩
  exact⟨b,b',by rw[A0,h3],by rw[A0,h4],h5⟩
theorem fL {body':S'->Option (S'⊕β')} {body:S->Option (S⊕β)} (a:σ->Int->S) (mkS':σ->Int->S') (n:Nat) (c:Nat->σ->Prop) (Q:β->β'->Prop) (h1:∀s i,i<n->c i s->(∃s',body (a s (i:Nat))=some (.inl (a s' ((i+1:Nat):Int)))/\body' (mkS' s (i:Nat))=some (.inl (mkS' s' ((i+1:Nat):Int)))/\c (i+1) s')\/∃b b',body (a s (i:Nat))=some (.inr b)/\body' (mkS' s (i:Nat))=some (.inr b')/\Q b b') (h2:∀s,c n s->∃b b',body (a s (n:Nat))=some (.inr b)/\body' (mkS' s (n:Nat))=some (.inr b')/\Q b b') (hs:c 0 s):∃b b',Ap body (a s 0)=some b/\Ap body' (mkS' s 0)=some b'/\Q b b':=
 ZH a mkS' n c Q h1 h2 n 0 s (by omega) hs
theorem SZ {body body':S->Option (S⊕β)} (m:S->Nat) (a:S->Prop) (Q:β->Prop) (h:∀s,a s->(∃s',body s=some (.inl s')/\body' s=some (.inl s')/\a s'/\m s'<m s)\/∃b,body s=some (.inr b)/\body' s=some (.inr b)/\Q b):∀(n:Nat) (s:S),m s<=n->a s->∃b,Ap body s=some b/\Ap body' s=some b/\Q b
 |n,s,hn,hs=>by
  rcases h s hs with⟨s',h1,h2,h3,h4⟩|⟨b,h1,h2,h3⟩
  ·cases n with
   |zero=>omega
   |succ n=>
    obtain⟨b,h5,h6,h7⟩:=SZ m a Q h n s' (by omega) h3;exact⟨b,by rw[A0,h1];exact h5,by rw[A0,h2];exact h6,h7⟩
  exact⟨b,by rw[A0,h1],by rw[A0,h2],h3⟩
theorem RC (z:α->Nat):∀(l:List α) (i:Nat) (h:i<l.length),((l.take (i+1)).map z).sum=((l.take i).map z).sum+z l[i]
 |[],i,h=>by simp at h
 |x::l,0,h=>by simp
 |x::l,i+1,h=>by
  simp only[MR,BJ,FG,List.getElem_cons_succ];rw[RC z l i (by simpa using h)];omega
theorem OA (z:α->Nat) (l:List α) (i:Nat):((l.take i).map z).sum<=(l.map z).sum:=by
 have:(l.map z).sum=((l.take i).map z).sum+((l.drop i).map z).sum:=by
  rw[<-List.sum_append,<-Co,Ci]
 omega
theorem j9 (a:List α) (x:α) (post:List α):gi (a++x::post) (a.length:Nat)=some x:=by
 rw[Aw,Bq<|Au _];simp
theorem gW (a:List α) (x y:α) (post:List α):si (a++x::post) (a.length:Nat) y=a++y::post:=by
 rw[E8,List.set_append_right _ _<|Au _];simp
noncomputable section
def Ek (lt:γ->γ->Bool) (xA:Int) (xB:Int) (xN:Int) (a:Int) (b:List γ):Option ((Int×List γ)⊕(List γ)):=cond (decide<|a<xN) ((pM b (ad xA a)<|ad xB a).bind λv1=>some<|.inl (ad a 1,v1))<|some<|.inr b
def Dk (lt:γ->γ->Bool) (xL:List γ) (xA:Int) (xB:Int) (xN:Int):Option (List γ):=(Ap (λs:Int×List γ=>Ek lt xA xB xN s.1 s.2) (0,xL)).bind λv2=>some v2
def Fj (lt:γ->γ->Bool) (xM:Int) (a:Int) (b:Int) (c:List γ):Option ((Int×Int×List γ)⊕(Int×List γ)):=cond (a !=b) (cond (decide<|a>b) ((Dk lt c (sb xM a) xM b).bind λv1=>some<|.inl (sb a b,b,v1))<|(Dk lt c (sb xM a) (sb (ad xM b) a) a).bind λv2=>some<|.inl (a,sb b a,v2))<|some<|.inr (a,c)
def Fz (lt:γ->γ->Bool) (xL:List γ) (xA:Int) (xM:Int) (xB:Int):Option (List γ):=(Ap (λs:Int×Int×List γ=>Fj lt xM s.1 s.2.1 s.2.2) (sb xM xA,sb xB xM,xL)).bind λv3=>(Dk lt v3.2 (sb xM v3.1) xM v3.1).bind λv4=>some v4
def Bn (lt:γ->γ->Bool) (xA:Int) (a:Int) (b:List γ):Option ((Int×List γ)⊕(List γ)):=(cond (decide<|a>xA) ((wZ b a<|sb a 1).bind λv1=>some<|lt v1.1 v1.2) (some false):Option Bool).bind λj1=>cond j1 ((pM b a<|sb a 1).bind λv2=>some<|.inl (sb a 1,v2))<|some<|.inr b
def Bu (lt:γ->γ->Bool) (xA:Int) (xB:Int) (a:Int) (b:List γ):Option ((Int×List γ)⊕(List γ)):=cond (decide<|a<xB) ((Ap (λs:Int×List γ=>Bn lt xA s.1 s.2) (a,b)).bind λv3=>some<|.inl (ad a 1,v3))<|some<|.inr b
def BI (lt:γ->γ->Bool) (xL:List γ) (xA:Int) (xB:Int):Option (List γ):=(Ap (λs:Int×List γ=>Bu lt xA xB s.1 s.2) (ad xA 1,xL)).bind λv4=>some v4
def E5 (lt:γ->γ->Bool) (xL:List γ) (xA:Int) (a:Int) (b:Int):Option ((Int×Int)⊕Int):=cond (decide<|a<b) ((wZ xL (IntKind.i64.wrap<|Int.fdiv (IntKind.u64.wrap<|ad a b)<|2^(min (1:Int).toNat IntKind.u64.bits)) xA).bind λv1=>cond (lt v1.1 v1.2) (some<|.inl (ad (IntKind.i64.wrap<|Int.fdiv (IntKind.u64.wrap<|ad a b)<|2^(min (1:Int).toNat IntKind.u64.bits)) 1,b))<|some<|.inl (a,IntKind.i64.wrap<|Int.fdiv (IntKind.u64.wrap<|ad a b)<|2^(min (1:Int).toNat IntKind.u64.bits)))<|some<|.inr a
def DH (lt:γ->γ->Bool) (v2:Int) (a:Int) (b:List γ):Option ((Int×List γ)⊕(List γ)):=cond (decide<|a<(sb v2 1)) ((pM b a<|ad a 1).bind λv3=>some<|.inl (ad a 1,v3))<|some<|.inr b
def E4 (lt:γ->γ->Bool) (xL:List γ) (xM:Int) (a:Int) (b:Int):Option ((Int×Int)⊕Int):=cond (decide<|a<b) ((wZ xL xM<|IntKind.i64.wrap<|Int.fdiv (IntKind.u64.wrap<|ad a b)<|2^(min (1:Int).toNat IntKind.u64.bits)).bind λv5=>cond (!(lt v5.1 v5.2)) (some<|.inl (ad (IntKind.i64.wrap<|Int.fdiv (IntKind.u64.wrap<|ad a b)<|2^(min (1:Int).toNat IntKind.u64.bits)) 1,b))<|some<|.inl (a,IntKind.i64.wrap<|Int.fdiv (IntKind.u64.wrap<|ad a b)<|2^(min (1:Int).toNat IntKind.u64.bits)))<|some<|.inr a
def DG (lt:γ->γ->Bool) (v6:Int) (a:Int) (b:List γ):Option ((Int×List γ)⊕(List γ)):=cond (decide<|a>v6) ((pM b a<|sb a 1).bind λv7=>some<|.inl (sb a 1,v7))<|some<|.inr b
def E0 (lt:γ->γ->Bool) (xL:List γ) (xA:Int) (xM:Int) (xB:Int) (a:Int) (b:Int):Option ((Int×Int)⊕Int):=cond (decide<|a<b) ((wZ xL (sb (sb (ad (IntKind.i64.wrap<|Int.fdiv (IntKind.u64.wrap<|ad xA xB)<|2^(min (1:Int).toNat IntKind.u64.bits)) xM) 1)<|IntKind.i64.wrap<|Int.fdiv (IntKind.u64.wrap<|ad a b)<|2^(min (1:Int).toNat IntKind.u64.bits))<|IntKind.i64.wrap<|Int.fdiv (IntKind.u64.wrap<|ad a b)<|2^(min (1:Int).toNat IntKind.u64.bits)).bind λv9=>cond (!(lt v9.1 v9.2)) (some<|.inl (ad (IntKind.i64.wrap<|Int.fdiv (IntKind.u64.wrap<|ad a b)<|2^(min (1:Int).toNat IntKind.u64.bits)) 1,b))<|some<|.inl (a,IntKind.i64.wrap<|Int.fdiv (IntKind.u64.wrap<|ad a b)<|2^(min (1:Int).toNat IntKind.u64.bits)))<|some<|.inr a
def CJ (lt:γ->γ->Bool):Nat->(List γ)->Int->Int->Int->Option (List γ)
 |0,_,_,_,_=>none
 |n+1,xL,xA,xM,xB=>cond ((sb xM xA)==1) ((Ap (λs:Int×Int=>E5 lt xL xA s.1 s.2) (xM,xB)).bind λv2=>(Ap (λs:Int×List γ=>DH lt v2 s.1 s.2) (xA,xL)).bind λv4=>some v4) (cond ((sb xB xM)==1) ((Ap (λs:Int×Int=>E4 lt xL xM s.1 s.2) (xA,xM)).bind λv6=>(Ap (λs:Int×List γ=>DG lt v6 s.1 s.2) (xM,xL)).bind λv8=>some v8) ((cond (decide (xM>(IntKind.i64.wrap (Int.fdiv (IntKind.u64.wrap (ad xA xB)) (2^(min (1:Int).toNat IntKind.u64.bits)))))) (some (sb (ad (IntKind.i64.wrap (Int.fdiv (IntKind.u64.wrap (ad xA xB)) (2^(min (1:Int).toNat IntKind.u64.bits)))) xM) xB,IntKind.i64.wrap (Int.fdiv (IntKind.u64.wrap (ad xA xB)) (2^(min (1:Int).toNat IntKind.u64.bits))))) (some (xA,xM)):Option (Int×Int)).bind λj1=>(Ap (λs:Int×Int=>E0 lt xL xA xM xB s.1 s.2) (j1.1,j1.2)).bind λv10=>(cond (decide (v10<xM)) (some (decide (xM<(sb (ad (IntKind.i64.wrap (Int.fdiv (IntKind.u64.wrap (ad xA xB)) (2^(min (1:Int).toNat IntKind.u64.bits)))) xM) v10)))) (some false):Option Bool).bind λj2=>(cond j2 ((Fz lt xL v10 xM (sb (ad (IntKind.i64.wrap (Int.fdiv (IntKind.u64.wrap (ad xA xB)) (2^(min (1:Int).toNat IntKind.u64.bits)))) xM) v10)).bind λv11=>some v11) (some xL):Option (List γ)).bind λj3=>(cond (decide (xA<v10)) (some (decide (v10<(IntKind.i64.wrap (Int.fdiv (IntKind.u64.wrap (ad xA xB)) (2^(min (1:Int).toNat IntKind.u64.bits))))))) (some false):Option Bool).bind λj4=>(cond j4 ((CJ lt n j3 xA v10 (IntKind.i64.wrap (Int.fdiv (IntKind.u64.wrap (ad xA xB)) (2^(min (1:Int).toNat IntKind.u64.bits))))).bind λv12=>some v12) (some j3):Option (List γ)).bind λj5=>cond (decide ((IntKind.i64.wrap (Int.fdiv (IntKind.u64.wrap (ad xA xB)) (2^(min (1:Int).toNat IntKind.u64.bits))))<(sb (ad (IntKind.i64.wrap (Int.fdiv (IntKind.u64.wrap (ad xA xB)) (2^(min (1:Int).toNat IntKind.u64.bits)))) xM) v10))) (cond (decide ((sb (ad (IntKind.i64.wrap (Int.fdiv (IntKind.u64.wrap (ad xA xB)) (2^(min (1:Int).toNat IntKind.u64.bits)))) xM) v10)<xB)) ((CJ lt n j5 (IntKind.i64.wrap (Int.fdiv (IntKind.u64.wrap (ad xA xB)) (2^(min (1:Int).toNat IntKind.u64.bits)))) (sb (ad (IntKind.i64.wrap (Int.fdiv (IntKind.u64.wrap (ad xA xB)) (2^(min (1:Int).toNat IntKind.u64.bits)))) xM) v10) xB).bind λv13=>some v13) (some j5)) (some j5)))
def Dl (lt:γ->γ->Bool) (xN:Int) (b:Int) (a:Int) (c:List γ):Option ((Int×Int×List γ)⊕(Int×List γ)):=cond (decide<|a<=xN) ((BI lt c b a).bind λv1=>some<|.inl (a,ad a 20,v1))<|some<|.inr (b,c)
def D7 (lt:γ->γ->Bool) (xN:Int) (a:Int) (c:Int) (b:Int) (d:List γ):Option ((Int×Int×List γ)⊕(Int×List γ)):=cond (decide<|b<=xN) ((CJ lt (List.length d+1) d c (ad c a) b).bind λv4=>some<|.inl (b,ad b<|ml 2 a,v4))<|some<|.inr (c,d)
def D8 (lt:γ->γ->Bool) (xN:Int) (a:Int) (b:List γ):Option ((Int×List γ)⊕(List γ)):=cond (decide<|a<xN) ((Ap (λs:Int×Int×List γ=>D7 lt xN a s.1 s.2.1 s.2.2) (0,ml 2 a,b)).bind λv5=>cond (decide<|(ad v5.1 a)<xN) ((CJ lt (List.length v5.2+1) v5.2 v5.1 (ad v5.1 a) xN).bind λv6=>some<|.inl (ml a 2,v6))<|some<|.inl (ml a 2,v5.2))<|some<|.inr b
def D1 (lt:γ->γ->Bool) (xL:List γ) (xN:Int):Option (List γ):=(Ap (λs:Int×Int×List γ=>Dl lt xN s.1 s.2.1 s.2.2) (0,20,xL)).bind λv2=>(BI lt v2.2 v2.1 xN).bind λv3=>(Ap (λs:Int×List γ=>D8 lt xN s.1 s.2) (20,v3)).bind λv7=>some v7
def ZG (xX:Int):Option Int:=(cond (decide<|xX>=4294967296) (some (Int.fdiv xX<|2^(min (32:Int).toNat IntKind.u64.bits),32)) (some (xX,0)):Option (Int×Int)).bind λj1=>(cond (decide<|j1.1>=65536) (some (Int.fdiv j1.1<|2^(min (16:Int).toNat IntKind.u64.bits),ad j1.2 16)) (some (j1.1,j1.2)):Option (Int×Int)).bind λj2=>(cond (decide<|j2.1>=256) (some (Int.fdiv j2.1<|2^(min (8:Int).toNat IntKind.u64.bits),ad j2.2 8)) (some (j2.1,j2.2)):Option (Int×Int)).bind λj3=>(sx (bs [0,1,2,2,3,3,3,3,4,4,4,4,4,4,4,4,5,5,5,5,5,5,5,5,5,5,5,5,5,5,5,5,6,6,6,6,6,6,6,6,6,6,6,6,6,6,6,6,6,6,6,6,6,6,6,6,6,6,6,6,6,6,6,6,7,7,7,7,7,7,7,7,7,7,7,7,7,7,7,7,7,7,7,7,7,7,7,7,7,7,7,7,7,7,7,7,7,7,7,7,7,7,7,7,7,7,7,7,7,7,7,7,7,7,7,7,7,7,7,7,7,7,7,7,7,7,7,7,8,8,8,8,8,8,8,8,8,8,8,8,8,8,8,8,8,8,8,8,8,8,8,8,8,8,8,8,8,8,8,8,8,8,8,8,8,8,8,8,8,8,8,8,8,8,8,8,8,8,8,8,8,8,8,8,8,8,8,8,8,8,8,8,8,8,8,8,8,8,8,8,8,8,8,8,8,8,8,8,8,8,8,8,8,8,8,8,8,8,8,8,8,8,8,8,8,8,8,8,8,8,8,8,8,8,8,8,8,8,8,8,8,8,8,8,8,8,8,8,8,8,8,8,8,8,8,8])<|IntKind.u8.wrap j3.1).bind λx1=>some<|ad j3.2<|IntKind.i64.wrap x1
def WB (xX:Int):Option Int:=(ZG xX).bind λv1=>some v1
def Gm (lt:γ->γ->Bool) (xL:List γ) (xA:Int) (xB:Int):Option (Unit⊕Unit⊕(List γ)):=cond (decide<|(sb xB xA)<=12) ((BI lt xL xA xB).bind λv1=>some<|.inr<|.inr v1) none
def Fc (lt:γ->γ->Bool) (xL:List γ) (xA:Int) (xB:Int) (a:Int):Option (List γ):=(Ap (λ_:Unit=>Gm lt xL xA xB) ()).bind<|Sum.elim (λv2=>some xL) some
def Ls (lt:γ->γ->Bool) (l:List γ):Option (List γ):=(WB<|IntKind.u64.wrap<|ln l).bind λv=>Fc lt l 0 (ln l) v
end
def srt (a:γ->Int) (l:List γ):Prop:=l.Pairwise λx y=>a x<=a y
section
variable (key:γ->Int)
def BX (l r:List γ):Prop:=∀k,r.filter (λx=>key x==k)=l.filter (λx=>key x==k)
end
theorem BX.refl (a:γ->Int) (l:List γ):BX a l l:=λ_=>rfl
theorem BX.trans (d:γ->Int) (h:BX d a b) (k:BX d b c):BX d a c:=λx=>(k x).trans<|h x
theorem GT (e:γ->Int) {d:List γ} (h:BX e a b) (k:BX e c d):BX e (a++c) (b++d):=λx=>by rw[AO,AO,h,k]
section
variable (key:γ->Int)
theorem BX.mem {x:γ} (h:BX key a b):x∈b↔x∈a:=by
 have:=h<|key x;have e:x∈b.filter (λy=>key y==key x)↔x∈a.filter (λy=>key y==key x):=by rw[this]
 simpa using e
end
section
variable (key:γ->Int)
theorem BX.nil (h:BX key [] b):b=[]:=by
 cases b with
 |nil=>rfl
 |cons x b=>exact absurd ((h.mem (x:=x)).1 CZ)<|by simp
end
section
variable (key:γ->Int)
theorem BX.swap (h:∀x∈a,∀y∈b,key y<key x):BX key (a++b) (b++a):=by
 intro k;rw[AO,AO];by_cases ha:a.filter (λx=>key x==k)=[]
 ·rw[ha];simp
 have hb:b.filter (λx=>key x==k)=[]:=by
  rw[Br];intro y hy e;obtain⟨x,hx⟩:=List.exists_mem_of_ne_nil _ ha
  grind
 rw[hb];simp
end
theorem U5 (p:γ->Bool):∀l:List γ,l.length=(l.filter p).length+(l.filter λx=>!p x).length
 |[]=>rfl
 |x::l=>by
  have:=U5 p l
  grind
section
variable (key:γ->Int)
theorem BX.len:BX key a b->a.length=b.length:=by
 intro h;have:∀(n:Nat) (a b:List γ),a.length<=n->BX key a b->a.length=b.length:=by
  intro n
  induction n with
  |zero=>
   intro a b ha h;have:a=[]:=AH (by omega);subst this;rw[h.nil]
  |succ n ih=>
   intro a b ha h
   cases a with
   |nil=>rw[h.nil]
   |cons x a=>
    have hp:(x::a).length=((x::a).filter λy=>key y==key x).length+((x::a).filter λy=>!(key y==key x)).length:=by
     exact U5 _ _
    have c:b.length=(b.filter λy=>key y==key x).length+(b.filter λy=>!(key y==key x)).length:=by
     exact U5 _ _
    have h1:BX key ((x::a).filter λy=>!(key y==key x)) (b.filter λy=>!(key y==key x)):=by
     intro k;rw[E7,E7];by_cases hk:k=key x
     ·subst hk
      have z:∀l:List γ,l.filter (λy=>(key y==key x)&&!(key y==key x))=[]:=λl=>by simp
      rw[z,z]
     have z:∀l:List γ,l.filter (λy=>(key y==k)&&!(key y==key x))=l.filter (λy=>key y==k):=λl=>by grind
     rw[z,z];exact h k
    have h2:=ih _ _ (by grind) h1;rw[hp,c,h2,h<|key x]
 exact this a.length a b (Au _) h
end
section
variable (key:γ->Int)
theorem NQ:∀{a b:List γ},srt key a->srt key b->BX key a b->a=b
 |[],b,_,_,h=>(h.nil key).symm
 |x::a,[],_,_,h=>by
  have:=h.len key;simp at this
 |x::a,y::b,ha,hb,h=>by
  have c:key x=key y:=by
   have h1:x∈y::b:=(h.mem key).2 CZ;have h2:y∈x::a:=(h.mem key).1 CZ;have k1:key y<=key x:=by
    rcases CC.1 h1 with rfl|h1
    ·exact GQ _
    exact(C3.1 hb).1 x h1
   have k2:key x<=key y:=by
    rcases CC.1 h2 with rfl|h2
    ·exact GQ _
    exact(C3.1 ha).1 y h2
   omega
  have e:=h<|key x;rw[CN (by simp[c]),CN<|by simp]at e
  injection e with e1 e2
  subst e1;have h':BX key a b:=by
   intro k;have:=h k
   grind
  rw[NQ (C3.1 ha).2 (C3.1 hb).2 h']
end
theorem S2 (P S:List γ) (x:γ):gi (P++x::S) (P.length:Nat)=some x:=by
 rw[Aw,Bq<|Au _];simp
theorem gX (P S:List γ) (x y:γ):si (P++x::S) (P.length:Nat) y=P++y::S:=by
 rw[E8];simp
theorem sZ (P M S:List γ) (x y:γ):pM (P++x::(M++y::S)) (P.length:Nat) ((P.length+1+M.length:Nat):Int)=some (P++y::(M++x::S)):=by
 unfold pM;have e:P++x::(M++y::S)=(P++x::M)++y::S:=by simp
 have e2:P++y::(M++y::S)=(P++y::M)++y::S:=by simp
 have hl:(P.length+1+M.length)=(P++x::M).length:=by simp;omega
 have a:(P.length+1+M.length)=(P++y::M).length:=by simp;omega
 rw[S2,Aa];have h2:gi (P++x::(M++y::S)) ((P.length+1+M.length:Nat):Int)=some y:=by rw[e,hl,S2]
 rw[h2,Aa,gX,e2,a,gX];simp
theorem s8 (P S:List γ) (x y:γ):pM (P++x::y::S) ((P.length+1:Nat):Int) (P.length:Nat)=some (P++y::x::S):=by
 unfold pM;have e:P++x::y::S=(P++ [x])++y::S:=by simp
 have e2:P++x::x::S=P++x::(x::S):=rfl;have hl:(P.length+1)=(P++ [x]).length:=by simp
 have h1:gi (P++x::y::S) ((P.length+1:Nat):Int)=some y:=by rw[e,hl,S2]
 rw[h1,Aa,S2,Aa];have h3:si (P++x::y::S) ((P.length+1:Nat):Int) x=P++x::x::S:=by rw[e,hl,gX];simp
 rw[h3,gX]
theorem yB (P S:List γ) (x y:γ):pM (P++x::y::S) (P.length:Nat) ((P.length+1:Nat):Int)=some (P++y::x::S):=by
 have:=sZ P [] S x y;simpa using this
theorem Qd:∀(X Y P M S:List γ),X.length=Y.length->P.length+X.length+M.length+Y.length+S.length<=1152921504606846976->
  Dk lt (P++X++M++Y++S) (P.length:Nat) ((P.length+X.length+M.length:Nat):Int) (X.length:Nat)=some (P++Y++M++X++S):=by
 have d:∀(n:Nat) (X Y P M S:List γ) (a b c i:Nat),X.length=n->Y.length=n->a+i=P.length->b+i=P.length+n+M.length->c=i+n->P.length+n+M.length+n+S.length<=1152921504606846976->
   Ap (λs:Int×List γ=>Ek lt (a:Int) (b:Int) (c:Int) s.1 s.2) ((i:Int),P++X++M++Y++S)=some (P++Y++M++X++S):=by
  intro n
  induction n with
  |zero=>
   intro X Y P M S a b c i hX hY h1 h2 h3 hN;have:=AH hX;subst this;have:=AH hY;subst this;rw[A0];simp only[Ek]
   grind
  |succ n ih=>
   intro X Y P M S a b c i hX hY h1 h2 h3 hN
   cases X with
   |nil=>simp at hX
   |cons x X=>
   cases Y with
   |nil=>simp at hY
   |cons y Y=>
   simp only[A7]at hX hY;have hs:pM (P++(x::X)++M++(y::Y)++S) (ad (a:Int) (i:Int)) (ad (b:Int) (i:Int))=some (P++(y::X)++M++(x::Y)++S):=by
    have e1:ad (a:Int) (i:Int)=(P.length:Nat):=by rw[C6 (by omega)<|by omega];omega
    have e2:ad (b:Int) (i:Int)=((P.length+1+(X++M).length:Nat):Int):=by rw[C6 (by omega)<|by omega];simp only[Ai];omega
    have:=sZ P (X++M) (Y++S) x y;rw[e1,e2];simpa using this
   rw[A0];simp only[Ek];rw[Ad (by omega:(i:Int)<c),Ae,hs,Aa,ad1<|by omega];have:=ih X Y (P++ [y]) (M++ [x]) S a b c (i+1) (by omega) (by omega) (by simp;omega) (by simp;omega) (by omega) (by simp;omega);simp only[Ax,B5,A6,D6]at this⊢;exact this
 intro X Y P M S e hN;unfold Dk;have:=d X.length X Y P M S P.length (P.length+X.length+M.length) X.length 0 rfl e.symm (by omega) (by omega) (by omega) (by omega);rw[show((0:Nat):Int)=0 from rfl]at this;rw[this];rfl
theorem vE (P A B S:List γ) (hA:A≠ []) (hB:B≠ []) (hN:P.length+A.length+B.length+S.length<=1152921504606846976):
  Fz lt (P++A++B++S) (P.length:Nat) ((P.length+A.length:Nat):Int) ((P.length+A.length+B.length:Nat):Int)=some (P++B++A++S):=by
 have g:∀(m:Nat) (Bd:Int×Int×List γ->Option ((Int×Int×List γ)⊕(Int×List γ))) (d:∀i j l,Bd (i,j,l)=Fj lt (m:Int) i j l) (k:Nat) (P U V S:List γ),U.length+V.length<=k->U≠ []->V≠ []->P.length+U.length=m->P.length+U.length+V.length+S.length<=1152921504606846976->
   ((
    Ap Bd ((U.length:Int),(V.length:Int),P++U++V++S)).bind λv3=>
    (Dk lt v3.2 (sb (m:Int) v3.1) (m:Int) v3.1).bind λv4=>some v4)=some (P++V++U++S):=by
  intro m Bd d k
  induction k with
  |zero=>
   intro P U V S hk hU;exact absurd (AH<|by omega) hU
  |succ k ih=>
   intro P U V S hk hU hV hm hN;have lU:=MS.2 hU;have lV:=MS.2 hV;rw[A0];simp only[d,Fj];have c:sb (m:Int) (U.length:Int)=(P.length:Nat):=by rw[Cj (by omega)<|by omega];omega
   by_cases f:U.length=V.length
   ·have e:((U.length:Int) !=(V.length:Int))=false:=by simp[f]
    rw[e,Ac];simp only[Aa];rw[c];have:=Qd (lt:=lt) U V P [] S f (by simp;omega);simp only[A4,BV,HV]at this;rw[hm]at this;rw[this];rfl
   have e:((U.length:Int) !=(V.length:Int))=true:=by simp;omega
   rw[e,Ae];by_cases n:U.length>V.length
   ·rw[Ad (by omega:(U.length:Int)>V.length),Ae,c];have h:U=U.take V.length++U.drop V.length:=(Ci _ _).symm;have b:(U.take V.length).length=V.length:=by simp;omega
    have a:(U.drop V.length).length=U.length-V.length:=by simp
    have:=Qd (lt:=lt) (U.take V.length) V P (U.drop V.length) S b (by rw[b,a];omega);rw[b,a,show P.length+V.length+(U.length-V.length)=m by omega]at this;have e3:P++U++V++S=P++U.take V.length++U.drop V.length++V++S:=by grind
    rw[e3,this,Aa];have e4:sb (U.length:Int) (V.length:Int)=((U.drop V.length).length:Int):=by rw[Cj (by omega) (by omega),a];omega
    have:=ih (P++V) (U.drop V.length) (U.take V.length) S (by rw[b,a];omega) (by grind) (by grind) (by grind)<|by grind
    grind
   rw[Af (by omega:¬(U.length:Int)>V.length),Ac,c];have b:(V.take<|V.length-U.length).length=V.length-U.length:=by simp
   have a:(V.drop<|V.length-U.length).length=U.length:=by simp;omega
   have:=Qd (lt:=lt) U (V.drop<|V.length-U.length) P (V.take<|V.length-U.length) S a.symm (by rw[b,a];omega);rw[b]at this;have e2:sb (ad (m:Int) (V.length:Int)) (U.length:Int)=((P.length+U.length+(V.length-U.length):Nat):Int):=by rw[C6 (by omega) (by omega),Cj (by omega)<|by omega];omega
   have e3:P++U++V++S=P++U++V.take (V.length-U.length)++V.drop (V.length-U.length)++S:=by simp
   rw[e2,e3,this,Aa];have e4:sb (V.length:Int) (U.length:Int)=((V.take<|V.length-U.length).length:Int):=by rw[Cj (by omega) (by omega),b];omega
   have:=ih P (V.drop<|V.length-U.length) (V.take<|V.length-U.length) (U++S) (by rw[b,a];omega) (by grind) (by grind) (by rw[a];omega) (by grind);rw[a]at this;rw[e4];simp only[Ax]at this⊢;rw[this];rw[show V.take (V.length-U.length)++(V.drop (V.length-U.length)++(U++S))=V++(U++S) by rw[<-Ax,Ci]]
 have h1:sb ((P.length+A.length:Nat):Int) (P.length:Nat)=(A.length:Int):=by rw[Cj (by omega)<|by omega];omega
 have h2:sb ((P.length+A.length+B.length:Nat):Int) ((P.length+A.length:Nat):Int)=(B.length:Int):=by rw[Cj (by omega)<|by omega];omega
 unfold Fz;rw[h1,h2];exact g (P.length+A.length) (λs=>Fj lt ((P.length+A.length:Nat):Int) s.1 s.2.1 s.2.2) (λ_ _ _=>rfl) _ P A B S (Au _) hA hB rfl hN
def Nx (a:γ->Int) (x y:γ):Bool:=decide<|a x<a y
theorem vZ (a:γ->Int) (P S:List γ) (y:γ) (B:Int×List γ->Option ((Int×List γ)⊕(List γ))) (hB:∀j l,B (j,l)=Bn (Nx a) (P.length:Nat) j l):∀(n:Nat) (U V:List γ),U.length=n->srt a U->P.length+U.length+V.length+S.length<=1152921504606846976->
  ∃U1 U2,U=U1++U2/\Ap B (((P.length+U.length:Nat):Int),P++U++y::(V++S))=some (P++U1++y::(U2++V++S))/\(∀v∈U2,a y<a v)/\∀u∈U1,a u<=a y:=by
 intro n
 induction n with
 |zero=>
  intro U V hU _ hN;have:=AH hU;subst this;refine⟨[],[],rfl,?_,by simp,by simp⟩;rw[A0,hB];simp only[Bn]
  grind
 |succ n ih=>
  intro U V hU hs hN
  rcases Hx U with rfl|⟨U0,z,rfl⟩
  ·simp at hU
  rw[Hy]at hU hs hN⊢;simp only[Ai,A8]at hU hN;have hl:P.length+(U0++ [z]).length=(P++U0).length+1:=by simp;omega
  have e0:P++(U0++ [z])++y::(V++S)=(P++U0)++z::y::(V++S):=by simp
  have ej:sb (((P++U0).length+1:Nat):Int) 1=((P++U0).length:Nat):=by rw[Cj (by omega)<|by grind];omega
  have g1:gi ((P++U0)++z::y::(V++S)) (((P++U0).length+1:Nat):Int)=some y:=by
   have e:(P++U0)++z::y::(V++S)=((P++U0)++ [z])++y::(V++S):=by simp
   have hl':(P++U0).length+1=((P++U0)++ [z]).length:=by grind
   rw[e,hl',S2]
  have g2:wZ ((P++U0)++z::y::(V++S)) (((P++U0).length+1:Nat):Int) ((P++U0).length:Nat)=some (y,z):=by
   unfold wZ;rw[g1,Aa,S2];rfl
  by_cases b:a y<a z
  ·obtain⟨U1,U2,h1,h2,h3,h4⟩:=ih U0 (z::V) (by omega) (AR.1 hs).1 (by grind);refine⟨U1,U2++ [z],by rw[h1];simp,?_,?_,h4⟩
   ·rw[A0,hB];simp only[Bn];rw[hl,e0,Ad (by grind:(((P++U0).length+1:Nat):Int)>(P.length:Nat)),Ae,ej,g2];simp only[Aa,Nx];rw[Ad b,Ae,s8,Aa];simp only;have:P++U0++y::z::(V++S)=P++U0++y::(z::V++S):=by simp
    rw[this,show(P++U0).length=P.length+U0.length from Ai,h2];simp
   grind
  refine⟨U0++ [z],[],by simp,?_,by simp,?_⟩
  ·rw[A0,hB];simp only[Bn];rw[hl,e0,Ad (by grind:(((P++U0).length+1:Nat):Int)>(P.length:Nat)),Ae,ej,g2];simp only[Aa,Nx]
   grind
  intro u hu
  rcases Al.1 hu with hu|hu
  ·have:=(AR.1 hs).2.2 u hu z (by simp);omega
  grind
section
variable (key:γ->Int)
theorem Ja (P X S:List γ) (hN:P.length+X.length+S.length<=1152921504606846976):
  ∃X',BI (Nx key) (P++X++S) (P.length:Nat) ((P.length+X.length:Nat):Int)=some (P++X'++S)/\srt key X'/\BX key X X':=by
 have main:∀(b:Nat) (B:Int×List γ->Option ((Int×List γ)⊕(List γ))),(∀i l,B (i,l)=Bu (Nx key) (P.length:Nat) (b:Int) i l)->∀(n:Nat) (U V:List γ),V.length=n->P.length+U.length+V.length=b->srt key U->b+S.length<=1152921504606846976->
   ∃X',Ap B (((P.length+U.length:Nat):Int),P++U++V++S)=some (P++X'++S)/\srt key X'/\BX key (U++V) X':=by
  intro b B hB n
  induction n with
  |zero=>
   intro U V hV hb hs hN;have:=AH hV;subst this;refine⟨U,?_,hs,by rw[A4];exact BX.refl key U⟩;rw[A0,hB];simp only[Bu]
   grind
  |succ n ih=>
   intro U V hV hb hs hN
   cases V with
   |nil=>simp at hV
   |cons y V=>
    simp only[A7]at hV hb;obtain⟨U1,U2,h1,h2,h3,h4⟩:=vZ key P (V++S) y (λs=>Bn (Nx key) (P.length:Nat) s.1 s.2) (λ_ _=>rfl) U.length U [] rfl hs (by simp only[Ai,BV];omega);have hs':srt key (U1++y::U2):=by
     rw[h1]at hs;obtain⟨q1,q2,q3⟩:=AR.1 hs;refine AR.2 ⟨q1,C3.2 ⟨λv hv=>sN<|h3 v hv,q2⟩,λu hu v hv=>?_⟩
     grind
    have hk:BX key (U++ [y]) (U1++y::U2):=by
     rw[h1,Ax];have:=BX.swap key (a:=U2) (b:=[y]) (λx hx z hz=>by simp at hz;grind);exact GT key (BX.refl key U1) this
    have c:(U1++y::U2).length=U.length+1:=by rw[h1];simp;omega
    obtain⟨X',r1,r2,r3⟩:=ih (U1++y::U2) V (by omega) (by rw[c];omega) hs' hN;refine⟨X',?_,r2,?_⟩
    ·rw[A0,hB];simp only[Bu];rw[Ad (by omega:((P.length+U.length:Nat):Int)<(b:Int)),Ae];have e:P++U++y::V++S=P++U++y::([]++(V++S)):=by simp
     rw[e,h2,Aa,ad1<|by omega];simp only;rw[show P.length+U.length+1=P.length+(U1++y::U2).length by rw[c];omega];have e2:P++U1++y::(U2++ []++(V++S))=P++(U1++y::U2)++V++S:=by simp
     rw[e2,r1]
    refine BX.trans key ?_ r3;have e3:U++y::V=(U++ [y])++V:=by simp
    rw[e3];exact GT key hk<|BX.refl key V
 unfold BI;rw[ad1<|by omega]
 cases X with
 |nil=>
  refine⟨[],?_,List.Pairwise.nil,BX.refl key _⟩;rw[A0];simp only[Bu]
  grind
 |cons x X=>
  obtain⟨X',h1,h2,h3⟩:=main (P.length+(x::X).length) (λs=>Bu (Nx key) (P.length:Nat) ((P.length+(x::X).length:Nat):Int) s.1 s.2) (λ_ _=>rfl) X.length [x] X rfl (by simp;omega) (Ji _ _) (by omega);refine⟨X',?_,h2,h3⟩
  grind
end
def cV (i j:Int):Int:=IntKind.i64.wrap<|Int.fdiv (IntKind.u64.wrap<|ad i j)<|2^(min (1:Int).toNat IntKind.u64.bits)
theorem jB (i j:Nat) (h:i+j<=4611686018427387904):cV (i:Int) (j:Int)=(((i+j)/2:Nat):Int):=by
 unfold cV;rw[C6 (by omega)<|by omega];have e1:IntKind.u64.wrap ((i:Int)+(j:Int))=((i+j:Nat):Int):=by
  have:IntKind.u64.wrap ((i:Int)+(j:Int))=((i:Int)+(j:Int)) %18446744073709551616:=by rfl
  rw[this];omega
 have e2:(2:Int)^(min (1:Int).toNat IntKind.u64.bits)=2:=by decide
 rw[e1,e2,Int.fdiv_eq_ediv_of_nonneg _ (by omega),Pw (by omega)<|by omega];omega
theorem kL {B:Int×Int->Option ((Int×Int)⊕Int)} (p:Nat->Bool) (lo hi:Nat) (h1:∀i j:Nat,lo<=i->i<j->j<=hi->B ((i:Int),(j:Int))=some (.inl (cond (p ((i+j)/2)) ((((i+j)/2+1:Nat):Int),(j:Int)) ((i:Int),(((i+j)/2:Nat):Int))))) (h2:∀i:Nat,B ((i:Int),(i:Int))=some (.inr (i:Int))):
  ∀(n i j:Nat),j-i<=n->lo<=i->i<=j->j<=hi->(lo<i->p (i-1)=true)->(j<hi->p j=false)->∃r:Nat,Ap B ((i:Int),(j:Int))=some (r:Int)/\lo<=r/\r<=hi/\(lo<r->p (r-1)=true)/\(r<hi->p r=false):=by
 intro n
 induction n with
 |zero=>
  intro i j hn hl a hh k1 k2;have:i=j:=by omega
  subst this;exact⟨i,by rw[A0,h2],hl,hh,k1,k2⟩
 |succ n ih=>
  intro i j hn hl a hh k1 k2;by_cases he:i=j
  ·subst he;exact⟨i,by rw[A0,h2],hl,hh,k1,k2⟩
  rw[A0,h1 i j hl (by omega) hh]
  cases hp:p ((i+j)/2)with
  |true=>
   exact ih ((i+j)/2+1) j (by omega) (by omega) (by omega) hh (λ_=>by grind) k2
  |false=>
   exact ih i ((i+j)/2) (by omega) hl (by omega) (by omega) k1 λ_=>hp
theorem kA (P X T:List γ) (k:Nat) (hk:k<X.length):gi (P++X++T) ((P.length+k:Nat):Int)=some X[k]:=by
 rw[Aw,Ax,Bq (by omega),Nat.add_sub_cancel_left,Bm hk,Ab hk]
theorem Vi (a:γ->Int) (h:srt a X) (h0:0<r) (hr:r<=X.length):∀u∈X.take r,a u<=a (X[r-1]'(by omega)):=by
 intro u hu;obtain⟨i,hi,e⟩:=AC hu;rw[HX]at e;simp only[AW]at hi;rw[<-e];by_cases b:i=r-1
 ·grind
 exact Dq.1 h i (r-1) (by omega) (by omega)<|by omega
theorem Vj (a:γ->Int) (h:srt a X) (hr:r<X.length):∀v∈X.drop r,a X[r]<=a v:=by
 intro v hv;obtain⟨i,hi,e⟩:=AC hv;rw[UP]at e;simp only[Cb]at hi;rw[<-e];by_cases b:i=0
 ·subst b;simp
 exact Dq.1 h r (r+i) (by omega) (by omega)<|by omega
theorem yY (a:γ->Int) (S:List γ) (x:γ) (v2:Nat) (B:Int×List γ->Option ((Int×List γ)⊕(List γ))) (hB:∀k l,B (k,l)=DH (Nx a) (v2:Int) k l):∀(Y P:List γ),P.length+Y.length+1=v2->v2<=1152921504606846976->
  Ap B ((P.length:Int),P++x::(Y++S))=some (P++Y++x::S):=by
 intro Y
 induction Y with
 |nil=>
  intro P h hN;rw[A0,hB];simp only[DH];simp only[BV]at h;rw[Cj (by omega) (by omega),Af (by omega:¬(P.length:Int)<(v2:Int)-1)];simp
 |cons y Y ih=>
  intro P h hN;simp only[A7]at h;rw[A0,hB];simp only[DH];rw[Cj (by omega) (by omega),Ad (by omega:(P.length:Int)<(v2:Int)-1),Ae,ad1 (by omega),B5,yB,Aa];simp only;have:=ih (P++ [y]) (by simp;omega) hN;simp only[Ai,A8,Ax,D6]at this;rw[this];simp
theorem ABQ (a:γ->Int) (P S:List γ) (y:γ) (B:Int×List γ->Option ((Int×List γ)⊕(List γ))) (hB:∀k l,B (k,l)=DG (Nx a) (P.length:Int) k l):∀(n:Nat) (X S:List γ),X.length=n->P.length+X.length<=1152921504606846976->
  Ap B (((P.length+X.length:Nat):Int),P++X++y::S)=some (P++y::(X++S)):=by
 intro n
 induction n with
 |zero=>
  intro X S hX hN;have:=AH hX;subst this;rw[A0,hB];simp only[DG]
  grind
 |succ n ih=>
  intro X S hX hN
  rcases Hx X with rfl|⟨X0,z,rfl⟩
  ·simp at hX
  rw[Hy]at hX hN⊢;simp only[Ai,A8]at hX hN;have hl:P.length+(X0++ [z]).length=(P++X0).length+1:=by simp;omega
  have e0:P++(X0++ [z])++y::S=(P++X0)++z::y::S:=by simp
  have ej:sb (((P++X0).length+1:Nat):Int) 1=((P++X0).length:Nat):=by rw[Cj (by omega)<|by grind];omega
  rw[A0,hB];simp only[DG];rw[hl,e0,Ad (by grind:(((P++X0).length+1:Nat):Int)>(P.length:Int)),Ae,ej,s8,Aa];simp only;rw[show(P++X0).length=P.length+X0.length from Ai,ih X0 (z::S) (by omega)<|by omega];simp
section
variable (key:γ->Int)
set_option maxHeartbeats 1000000 in
theorem Xl:∀(n:Nat) (P X Y S:List γ),X≠ []->Y≠ []->srt key X->srt key Y->X.length+Y.length<=n->P.length+X.length+Y.length+S.length<=1152921504606846976->
  ∃Z,CJ (Nx key) n (P++X++Y++S) (P.length:Nat) ((P.length+X.length:Nat):Int) ((P.length+X.length+Y.length:Nat):Int)=some (P++Z++S)/\srt key Z/\BX key (X++Y) Z:=by
 intro n
 induction n with
 |zero=>
  intro P X Y S hX hY _ _ hn _;exact absurd (AH<|by omega) hX
 |succ n ih=>
  intro P X Y S hX hY sX sY hn hN;have lX:=MS.2 hX;have lY:=MS.2 hY;have eXA:sb ((P.length+X.length:Nat):Int) (P.length:Nat)=(X.length:Int):=by rw[Cj (by omega)<|by omega];omega
  have eYB:sb ((P.length+X.length+Y.length:Nat):Int) ((P.length+X.length:Nat):Int)=(Y.length:Int):=by rw[Cj (by omega)<|by omega];omega
  rw[CJ,eXA,eYB];by_cases h9:X.length=1
  ·obtain⟨x,rfl⟩:=List.length_eq_one_iff.1 h9;have:(((([x]:List γ).length:Nat):Int)==1)=true:=rfl;rw[this,Ae];simp only[A8]at hn hN⊢;obtain⟨r,r1,r2,r3,r4,r5⟩:=kL (B:=λs:Int×Int=>E5 (Nx key) (P++ [x]++Y++S) (P.length:Nat) s.1 s.2) (λc=>match Y[c-(P.length+1)]? with|some y=>decide (key y<key x)|none=>false) (P.length+1) (P.length+1+Y.length)
    (λi j hi w hj=>by
     simp only[E5];rw[Ad (by omega:(i:Int)<j),Ae];have hm:cV (i:Int) (j:Int)=(((i+j)/2:Nat):Int):=jB i j (by omega);unfold cV at hm;rw[hm];have hk:(i+j)/2-(P.length+1)<Y.length:=by omega
     have g1:gi (P++ [x]++Y++S) (((i+j)/2:Nat):Int)=some Y[(i+j)/2-(P.length+1)]:=by
      have:=kA (P++ [x]) Y S ((i+j)/2-(P.length+1)) hk;rw[show(P++ [x]).length+((i+j)/2-(P.length+1))=(i+j)/2 by simp;omega]at this;exact this
     have g2:gi (P++ [x]++Y++S) (P.length:Nat)=some x:=by
      have:=S2 P (Y++S) x;simpa using this
     unfold wZ;rw[g1,Aa,g2,Aa,Aa,Ab hk];simp only[Nx];cases decide (key Y[(i+j)/2-(P.length+1)]<key x)
     ·rfl
     simp only[Ae];rw[ad1<|by omega])
    (λi=>by
     simp only[E5]
     grind)
    (Y.length) (P.length+1) (P.length+1+Y.length) (by omega) (Au _) (by omega) (Au _) (λh=>absurd h<|by omega) (λh=>absurd h<|by omega)
   rw[r1,Aa];have f:Y.take (r-(P.length+1))++Y.drop (r-(P.length+1))=Y:=Ci _ _;have a0:(Y.take<|r-(P.length+1)).length=r-(P.length+1):=by simp;omega
   have a1:∀y∈Y.take (r-(P.length+1)),key y<key x:=by
    intro y hy;have h0:0<r-(P.length+1):=by
     rcases T9 (r-(P.length+1))with e|e
     ·rw[e]at hy;simp at hy
     exact e
    have:=Vi key sY h0 (by omega) y hy;have hp:=r4 (by omega);rw[show r-1-(P.length+1)=r-(P.length+1)-1 by omega,Ab<|by omega]at hp
    grind
   have a2:∀y∈Y.drop (r-(P.length+1)),key x<=key y:=by
    intro y hy;have h0:r-(P.length+1)<Y.length:=by
     rcases DX (r-(P.length+1)) Y.length with e|e
     ·exact e
     rw[DY e]at hy;simp at hy
    have:=Vj key sY h0 y hy;have hp:=r5 (by omega);rw[Ab h0]at hp
    grind
   have hm:=yY key (Y.drop (r-(P.length+1))++S) x r (λs=>DH (Nx key) (r:Int) s.1 s.2) (λ_ _=>rfl) (Y.take<|r-(P.length+1)) P (by omega) (by omega);have e:P++ [x]++Y++S=P++x::(Y.take (r-(P.length+1))++(Y.drop (r-(P.length+1))++S)):=by
    rw[<-Ax (Y.take _),f];simp
   rw[e,hm,Aa];refine⟨Y.take (r-(P.length+1))++x::Y.drop (r-(P.length+1)),by simp,?_,?_⟩
   ·have sY':=sY;rw[<-f]at sY';obtain⟨q1,q2,q3⟩:=AR.1 sY';refine AR.2 ⟨q1,C3.2 ⟨a2,q2⟩,λu hu v hv=>?_⟩
    rcases CC.1 hv with rfl|hv
    ·exact sN<|a1 u hu
    exact q3 u hu v hv
   have:=BX.swap key (a:=[x]) (b:=Y.take<|r-(P.length+1)) (λu hu y hy=>by simp at hu;grind);have:=GT key this<|BX.refl key<|Y.drop<|r-(P.length+1);rw[Ax,f,Ax]at this;exact this
  have:((X.length:Int)==1)=false:=by grind
  rw[this,Ac];by_cases f:Y.length=1
  ·obtain⟨y,rfl⟩:=List.length_eq_one_iff.1 f;have:(((([y]:List γ).length:Nat):Int)==1)=true:=rfl;rw[this,Ae];simp only[A8]at hn hN⊢;have gY:gi (P++X++ [y]++S) ((P.length+X.length:Nat):Int)=some y:=by
    have:=S2 (P++X) S y
    grind
   obtain⟨r,r1,r2,r3,r4,r5⟩:=kL (B:=λs:Int×Int=>E4 (Nx key) (P++X++ [y]++S) ((P.length+X.length:Nat):Int) s.1 s.2) (λc=>match X[c-P.length]? with|some x=>!decide (key y<key x)|none=>false) P.length (P.length+X.length)
    (λi j hi w hj=>by
     simp only[E4];rw[Ad (by omega:(i:Int)<j),Ae];have hm:cV (i:Int) (j:Int)=(((i+j)/2:Nat):Int):=jB i j (by omega);unfold cV at hm;rw[hm];have hk:(i+j)/2-P.length<X.length:=by omega
     have g1:gi (P++X++ [y]++S) (((i+j)/2:Nat):Int)=some X[(i+j)/2-P.length]:=by
      have:=kA P X ([y]++S) ((i+j)/2-P.length) hk
      grind
     unfold wZ;rw[gY,Aa,g1,Aa,Aa,Ab hk];simp only[Nx];cases decide (key y<key X[(i+j)/2-P.length])
     ·simp only[AD,Ae];rw[ad1<|by omega]
     rfl)
    (λi=>by
     simp only[E4]
     grind)
    (X.length) P.length (P.length+X.length) (by omega) (Au _) (by omega) (Au _) (λh=>absurd h<|by omega) (λh=>absurd h<|by omega)
   rw[r1,Aa];have hX1':X.take (r-P.length)++X.drop (r-P.length)=X:=Ci _ _;have a0:(X.take<|r-P.length).length=r-P.length:=by simp;omega
   have z:(X.drop<|r-P.length).length=X.length-(r-P.length):=by simp
   have a3:∀x∈X.take (r-P.length),key x<=key y:=by
    intro x hx;have h0:0<r-P.length:=by grind
    have:=Vi key sX h0 (by omega) x hx;have hp:=r4 (by omega);rw[show r-1-P.length=r-P.length-1 by omega,Ab<|by omega]at hp
    grind
   have l:∀x∈X.drop (r-P.length),key y<key x:=by
    intro x hx;have h0:r-P.length<X.length:=by grind
    have:=Vj key sX h0 x hx;have hp:=r5 (by omega);rw[Ab h0]at hp
    grind
   have m:(P++X.take (r-P.length)).length=r:=by grind
   have hm:=ABQ key (P++X.take (r-P.length)) S y (λs=>DG (Nx key) (r:Int) s.1 s.2) (λ_ _=>by rw[m]) (X.drop<|r-P.length).length (X.drop<|r-P.length) S rfl (by rw[m,z];omega);have e:P++X++ [y]++S=P++X.take (r-P.length)++X.drop (r-P.length)++y::S:=by simp
   rw[m,z,show r+(X.length-(r-P.length))=P.length+X.length by omega]at hm;rw[e,hm,Aa];refine⟨X.take (r-P.length)++y::X.drop (r-P.length),by simp,?_,?_⟩
   ·have sX':=sX;rw[<-hX1']at sX';obtain⟨q1,q2,q3⟩:=AR.1 sX';refine AR.2 ⟨q1,C3.2 ⟨λv hv=>sN<|l v hv,q2⟩,λu hu v hv=>?_⟩
    rcases CC.1 hv with rfl|hv
    ·exact a3 u hu
    exact q3 u hu v hv
   have:=BX.swap key (a:=X.drop<|r-P.length) (b:=[y]) (λu hu v hv=>by simp at hv;grind);have:=GT key (BX.refl key<|X.take<|r-P.length) this
   grind
  have:((Y.length:Int)==1)=false:=by grind
  rw[this,Ac];have g:cV (P.length:Nat) ((P.length+X.length+Y.length:Nat):Int)=(((P.length+(P.length+X.length+Y.length))/2:Nat):Int):=jB _ _ (by omega);unfold cV at g;rw[g];obtain⟨mid,h1⟩:∃mid,mid=(P.length+(P.length+X.length+Y.length))/2:=⟨_,rfl⟩;rw[<-h1];have en:ad (mid:Int) ((P.length+X.length:Nat):Int)=((mid+(P.length+X.length):Nat):Int):=by rw[C6 (by omega)<|by omega];omega
  rw[en];obtain⟨lo,hi,a4,b2,b3,o,h8⟩:∃lo hi:Nat,((cond (decide<|((P.length+X.length:Nat):Int)>(mid:Int)) (some (sb ((mid+(P.length+X.length):Nat):Int) ((P.length+X.length+Y.length:Nat):Int),(mid:Int))) (some (((P.length:Nat):Int),((P.length+X.length:Nat):Int))):Option (Int×Int))=some ((lo:Int),(hi:Int)))/\
    P.length<=lo/\hi<=P.length+X.length/\lo<=hi/\(P.length+X.length>mid/\lo=mid+(P.length+X.length)-(P.length+X.length+Y.length)/\hi=mid\/P.length+X.length<=mid/\lo=P.length/\hi=P.length+X.length):=by
   by_cases l:P.length+X.length>mid
   ·refine⟨mid+(P.length+X.length)-(P.length+X.length+Y.length),mid,?_,by omega,by omega,by omega,.inl ⟨l,rfl,rfl⟩⟩;rw[Ad (by omega),Ae,Cj (by omega)<|by omega]
    grind
   exact⟨P.length,P.length+X.length,by grind,by omega,by omega,by omega,.inr ⟨by omega,rfl,rfl⟩⟩
  rw[a4,Aa];simp only;have a5:sb ((mid+(P.length+X.length):Nat):Int) 1=((mid+(P.length+X.length)-1:Nat):Int):=by rw[Cj (by omega)<|by omega];omega
  obtain⟨r,r1,r2,r3,r4,r5⟩:=kL (B:=λs:Int×Int=>E0 (Nx key) (P++X++Y++S) (P.length:Nat) ((P.length+X.length:Nat):Int) ((P.length+X.length+Y.length:Nat):Int) s.1 s.2)
   (λc=>match Y[mid+(P.length+X.length)-1-c-(P.length+X.length)]?,X[c-P.length]? with|some y,some x=>!decide (key y<key x)|_,_=>false) lo hi
   (λi j hi' w hj=>by
    simp only[E0];rw[Ad (by omega:(i:Int)<j),Ae,g,<-h1,en,a5];have hm:cV (i:Int) (j:Int)=(((i+j)/2:Nat):Int):=jB i j (by omega);unfold cV at hm;rw[hm];have hk:(i+j)/2-P.length<X.length:=by omega
    have d:mid+(P.length+X.length)-1-(i+j)/2-(P.length+X.length)<Y.length:=by omega
    have g1:gi (P++X++Y++S) (((i+j)/2:Nat):Int)=some X[(i+j)/2-P.length]:=by
     have:=kA P X (Y++S) ((i+j)/2-P.length) hk
     grind
    have es:sb ((mid+(P.length+X.length)-1:Nat):Int) (((i+j)/2:Nat):Int)=(((P++X).length+(mid+(P.length+X.length)-1-(i+j)/2-(P.length+X.length)):Nat):Int):=by
     rw[Cj (by omega) (by omega),Ai];omega
    have g2:gi (P++X++Y++S) (((P++X).length+(mid+(P.length+X.length)-1-(i+j)/2-(P.length+X.length)):Nat):Int)=some Y[mid+(P.length+X.length)-1-(i+j)/2-(P.length+X.length)]:=kA (P++X) Y S _ d;unfold wZ;rw[es,g2,Aa,g1,Aa,Aa,Ab hk,Ab d];simp only[Nx];cases decide (key Y[mid+(P.length+X.length)-1-(i+j)/2-(P.length+X.length)]<key X[(i+j)/2-P.length])
    ·simp only[AD,Ae];rw[ad1<|by omega]
    rfl)
   (λi=>by
    simp only[E0]
    grind)
   (hi-lo) lo hi (Au _) (Au _) o (Au _) (λh=>absurd h<|by omega) (λh=>absurd h<|by omega)
  rw[r1,Aa];obtain⟨fin,b1⟩:∃fin,fin=mid+(P.length+X.length)-r:=⟨_,rfl⟩;have h2:sb ((mid+(P.length+X.length):Nat):Int) (r:Int)=(fin:Int):=by rw[Cj (by omega)<|by omega];omega
  simp only[h2];have b4:P.length+X.length<=fin/\fin<=P.length+X.length+Y.length:=by omega
  obtain⟨A1,A2,hA⟩:∃A1 A2,A1=X.take (r-P.length)/\A2=X.drop (r-P.length):=⟨_,_,rfl,rfl⟩;obtain⟨B1,B2,hB⟩:∃B1 B2,B1=Y.take (fin-(P.length+X.length))/\B2=Y.drop (fin-(P.length+X.length)):=⟨_,_,rfl,rfl⟩;have p:A1++A2=X:=by rw[hA.1,hA.2];simp
  have q:B1++B2=Y:=by rw[hB.1,hB.2];simp
  have lA1:A1.length=r-P.length:=by rw[hA.1];simp;omega
  have lA2:A2.length=P.length+X.length-r:=by rw[hA.2];simp;omega
  have lB1:B1.length=fin-(P.length+X.length):=by rw[hB.1];simp;omega
  have lB2:B2.length=P.length+X.length+Y.length-fin:=by rw[hB.2];simp;omega
  have sX':=sX;rw[<-p]at sX';obtain⟨sA1,sA2,sA⟩:=AR.1 sX';have sY':=sY;rw[<-q]at sY';obtain⟨sB1,sB2,sB⟩:=AR.1 sY';have a6:∀u∈A1,∀v∈B2,key u<=key v:=by
   intro u hu v hv;have l1:=O7 hu;have l2:=O7 hv;have hp:=r4 (by omega);have d:mid+(P.length+X.length)-1-(r-1)-(P.length+X.length)<Y.length:=by omega
   have k:r-1-P.length<X.length:=by omega
   rw[Ab d,Ab k]at hp;simp only[CG,DI]at hp;rw[hA.1]at hu;have k1:=Vi key sX (r:=r-P.length) (by omega) (by omega) u hu;rw[hB.2]at hv;have k2:=Vj key sY (r:=fin-(P.length+X.length)) (by omega) v hv;have i1:X[r-P.length-1]'(by omega)=X[r-1-P.length]'k:=by congr 1;omega
   have i2:Y[fin-(P.length+X.length)]'(by omega)=Y[mid+(P.length+X.length)-1-(r-1)-(P.length+X.length)]'d:=by congr 1;omega
   rw[i1]at k1;rw[i2]at k2;omega
  have h3:∀x∈A2,∀y∈B1,key y<key x:=by
   intro x hx y hy;have l1:=O7 hx;have l2:=O7 hy;have hp:=r5 (by omega);have d:mid+(P.length+X.length)-1-r-(P.length+X.length)<Y.length:=by omega
   have k:r-P.length<X.length:=by omega
   rw[Ab d,Ab k]at hp;simp only[Bool.not_eq_false',A5]at hp;rw[hA.2]at hx;have k1:=Vj key sX k x hx;rw[hB.1]at hy;have k2:=Vi key sY (r:=fin-(P.length+X.length)) (by omega) (by omega) y hy;have i2:Y[fin-(P.length+X.length)-1]'(by omega)=Y[mid+(P.length+X.length)-1-r-(P.length+X.length)]'d:=by congr 1;omega
   rw[i2]at k2;omega
  have h4:(((bif decide ((r:Int)<((P.length+X.length:Nat):Int))then some (decide<|((P.length+X.length:Nat):Int)<(fin:Int))else some false:Option Bool).bind λj2=>
    (bif j2 then((Fz (Nx key) (P++X++Y++S) (r:Int) ((P.length+X.length:Nat):Int) (fin:Int)).bind λv11=>some v11)else some (P++X++Y++S):Option (List γ))))=some (P++A1++B1++A2++B2++S):=by
   have e:P++X++Y++S=(P++A1)++A2++B1++(B2++S):=by rw[<-p,<-q];simp
   by_cases c1:r<P.length+X.length
   ·rw[Ad (by omega:(r:Int)<((P.length+X.length:Nat):Int)),Ae,Aa];by_cases c2:P.length+X.length<fin
    ·rw[Ad (by omega:((P.length+X.length:Nat):Int)<(fin:Int)),Ae];have hr:=vE (lt:=Nx key) (P++A1) A2 B1 (B2++S) (by intro e;rw[e]at lA2;simp at lA2;omega) (by intro e;rw[e]at lB1;simp at lB1;omega) (by simp only[Ai];omega);rw[show(P++A1).length=r by rw[Ai];omega]at hr;rw[show r+A2.length=P.length+X.length by omega,show P.length+X.length+B1.length=fin by omega]at hr;rw[e,hr,Aa];simp
    rw[Af (by omega:¬((P.length+X.length:Nat):Int)<(fin:Int)),Ac,e];have:B1=[]:=AH (by omega);rw[this];simp
   rw[Af (by omega:¬(r:Int)<((P.length+X.length:Nat):Int)),Ac,Aa,Ac,e];have:A2=[]:=AH (by omega);rw[this];simp
  rw[<-Option.bind_assoc,h4,Aa]
  have h5:∃Z1,(((bif decide (((P.length:Nat):Int)<(r:Int))then some (decide<|(r:Int)<(mid:Int))else some false:Option Bool).bind λj4=>
    (bif j4 then((CJ (Nx key) n (P++A1++B1++A2++B2++S) (P.length:Nat) (r:Int) (mid:Int)).bind λv12=>some v12)else some (P++A1++B1++A2++B2++S):Option (List γ))))=some (P++Z1++A2++B2++S)/\srt key Z1/\BX key (A1++B1) Z1:=by
   by_cases c1:P.length<r/\r<mid
   ·rw[Ad (by omega:((P.length:Nat):Int)<(r:Int)),Ae,Aa,Ad (by omega:(r:Int)<(mid:Int)),Ae];obtain⟨Z,z1,z2,z3⟩:=ih P A1 B1 (A2++B2++S) (by intro e;rw[e]at lA1;simp at lA1;omega) (by intro e;rw[e]at lB1;simp at lB1;omega) sA1 sB1 (by omega) (by simp only[Ai];omega);rw[show P.length+A1.length=r by omega,show r+B1.length=mid by omega]at z1;refine⟨Z,?_,z2,z3⟩;simp only[Ax]at z1⊢;rw[z1];rfl
   refine⟨A1++B1,?_,?_,BX.refl key _⟩
   ·have:((bif decide (((P.length:Nat):Int)<(r:Int))then some (decide<|(r:Int)<(mid:Int))else some false:Option Bool))=some false:=by
     by_cases c:P.length<r
     ·rw[Ad (by omega),Ae,Af<|by omega]
     rw[Af (by omega),Ac]
    rw[this,Aa,Ac];simp
   by_cases c:P.length<r
   ·have:B1=[]:=AH (by omega);rw[this,A4];exact sA1
   have:A1=[]:=AH (by omega);rw[this,A6];exact sB1
  obtain⟨Z1,a7,a8,t⟩:=h5;rw[<-Option.bind_assoc,a7,Aa];have lZ1:Z1.length=A1.length+B1.length:=by have:=t.len key;rw[Ai]at this;omega
  have h6:∃Z2,(bif decide ((mid:Int)<(fin:Int))then(bif decide ((fin:Int)<((P.length+X.length+Y.length:Nat):Int))then((CJ (Nx key) n (P++Z1++A2++B2++S) (mid:Int) (fin:Int) ((P.length+X.length+Y.length:Nat):Int)).bind λv13=>some v13)else some<|P++Z1++A2++B2++S)else some (P++Z1++A2++B2++S):Option (List γ))=some (P++Z1++Z2++S)/\srt key Z2/\BX key (A2++B2) Z2:=by
   by_cases c1:mid<fin
   ·rw[Ad (by omega:(mid:Int)<(fin:Int)),Ae];by_cases c2:fin<P.length+X.length+Y.length
    ·rw[Ad (by omega:(fin:Int)<((P.length+X.length+Y.length:Nat):Int)),Ae];obtain⟨Z,z1,z2,z3⟩:=ih (P++Z1) A2 B2 S (by intro e;rw[e]at lA2;simp at lA2;omega) (by intro e;rw[e]at lB2;simp at lB2;omega) sA2 sB2 (by omega) (by simp only[Ai];omega);rw[show(P++Z1).length=mid by rw[Ai];omega,show mid+A2.length=fin by omega,show fin+B2.length=P.length+X.length+Y.length by omega]at z1;exact⟨Z,by rw[z1];rfl,z2,z3⟩
    rw[Af (by omega:¬(fin:Int)<((P.length+X.length+Y.length:Nat):Int)),Ac];have:B2=[]:=AH (by omega);refine⟨A2++B2,by simp,?_,BX.refl key _⟩;rw[this,A4];exact sA2
   rw[Af (by omega:¬(mid:Int)<(fin:Int)),Ac];have:A2=[]:=AH (by omega);refine⟨A2++B2,by simp,?_,BX.refl key _⟩;rw[this,A6];exact sB2
  obtain⟨Z2,a9,b0,h7⟩:=h6;rw[a9];refine⟨Z1++Z2,by simp,AR.2 ⟨a8,b0,λu hu v hv=>?_⟩,?_⟩
  ·have hu':=(t.mem key).1 hu;have hv':=(h7.mem key).1 hv
   rcases Al.1 hu' with hu'|hu'<;>rcases Al.1 hv' with hv'|hv'
   ·exact sA u hu' v hv'
   ·exact a6 u hu' v hv'
   ·exact sN<|h3 v hv' u hu'
   exact sB u hu' v hv'
  have e1:=GT key (BX.refl key A1)<|GT key (BX.swap key h3)<|BX.refl key B2;have e2:=GT key t h7;have e3:=BX.trans key (by simpa using e1) (by simpa using e2);have:X++Y=A1++(A2++(B1++B2)):=by rw[<-p,<-q];simp
  rw[this];simpa using e3
end
section
variable {γ:Type} (key:γ->Int)
inductive Blocks (bs:Nat):List γ->Prop
 |last {l:List γ} (h:l.length<=bs) (hs:srt key l):Blocks bs l
 |cons {X l:List γ} (h:X.length=bs) (hs:srt key X) (hl:Blocks bs l):Blocks bs (X++l)
end
theorem kN (c:γ->Int) (N:Nat) (hN:N<=1073741824) (B:Int×Int×List γ->Option ((Int×Int×List γ)⊕(Int×List γ))) (hB:∀a b l,B (a,b,l)=Dl (Nx c) (N:Int) a b l):
  ∀(k:Nat) (P T:List γ),T.length<=k->P.length+T.length=N->
   ∃Q R,Ap B ((P.length:Int),((P.length+20:Nat):Int),P++T)=some (((P.length+Q.length:Nat):Int),P++Q++R)/\BX c T (Q++R)/\R.length<20/\(∀R',srt c R'->R'.length=R.length->Blocks c 20 (Q++R')):=by
 intro k
 induction k with
 |zero=>
  intro P T hT hP;have:=AH<|Nat.le_zero.1 hT;subst this;refine⟨[],[],?_,BX.refl c _,by simp,λR' h h2=>?_⟩
  ·rw[A0,hB];simp only[Dl];simp only[BV]at hP;rw[Af (by omega:¬((P.length+20:Nat):Int)<=(N:Int))];simp
  rw[A6];exact .last (by simp only[BV]at h2;omega) h
 |succ k ih=>
  intro P T hT hP;by_cases h20:T.length<20
  ·refine⟨[],T,?_,by rw[A6];exact BX.refl c _,h20,λR' h h2=>by rw[A6];exact .last (by omega) h⟩;rw[A0,hB];simp only[Dl];rw[Af (by omega:¬((P.length+20:Nat):Int)<=(N:Int))];simp
  have d:T=T.take 20++T.drop 20:=(Ci _ _).symm;have l1:(T.take 20).length=20:=by simp;omega
  have l2:(T.drop 20).length=T.length-20:=by simp
  obtain⟨X',x1,x2,x3⟩:=Ja c P (T.take 20) (T.drop 20) (by omega);have lX:X'.length=20:=by have:=x3.len c;omega
  rw[l1]at x1;obtain⟨Q,R,q1,q2,q3,q4⟩:=ih (P++X') (T.drop 20) (by omega) (by rw[Ai];omega);refine⟨X'++Q,R,?_,?_,q3,λR' h h2=>?_⟩
  ·rw[A0,hB];simp only[Dl];rw[Ad (by omega:((P.length+20:Nat):Int)<=(N:Int)),Ae];have e:P++T=P++T.take 20++T.drop 20:=by rw[Ax,Ci]
   rw[e,x1,Aa];simp only;have e2:ad ((P.length+20:Nat):Int) 20=(((P++X').length+20:Nat):Int):=by rw[C6 (by omega) (by omega),Ai];omega
   rw[e2,show P.length+20=(P++X').length by rw[Ai];omega,q1];simp only[Ai,Ax,PY]
  ·rw[Ax];have:=GT c x3 q2;rw[Ci]at this;exact this
  rw[Ax];exact .cons lX x2<|q4 R' h h2
theorem kM (c:γ->Int) (N bs:Nat) (hN:N<=1073741824) (f:0<bs) (g:bs<N) (B:Int×Int×List γ->Option ((Int×Int×List γ)⊕(Int×List γ))) (hB:∀a b l,B (a,b,l)=D7 (Nx c) (N:Int) (bs:Int) a b l):
  ∀(k:Nat) (P T:List γ),T.length<=k->P.length+T.length=N->Blocks c bs T->
   ∃Q R,Ap B ((P.length:Int),((P.length+2*bs:Nat):Int),P++T)=some (((P.length+Q.length:Nat):Int),P++Q++R)/\BX c T (Q++R)/\R.length<2*bs/\Blocks c bs R/\(∀R',srt c R'->R'.length=R.length->Blocks c (2*bs) (Q++R')):=by
 intro k
 induction k with
 |zero=>
  intro P T hT hP hb;have:=AH<|Nat.le_zero.1 hT;subst this;refine⟨[],[],?_,BX.refl c _,by simp;omega,hb,λR' h h2=>?_⟩
  ·rw[A0,hB];simp only[D7];simp only[BV]at hP;rw[Af (by omega:¬((P.length+2*bs:Nat):Int)<=(N:Int))];simp
  rw[A6];exact .last (by simp only[BV]at h2;omega) h
 |succ k ih=>
  intro P T hT hP hb;by_cases h2:T.length<2*bs
  ·refine⟨[],T,?_,by rw[A6];exact BX.refl c _,h2,hb,λR' h h3=>by rw[A6];exact .last (by omega) h⟩;rw[A0,hB];simp only[D7];rw[Af (by omega:¬((P.length+2*bs:Nat):Int)<=(N:Int))];simp
  
  obtain⟨X,Y,T2,rfl,lX,lY,sX,sY,d⟩:∃X Y T2,T=X++Y++T2/\X.length=bs/\Y.length=bs/\srt c X/\srt c Y/\Blocks c bs T2:=by
   cases hb with
   |last h hs=>omega
   | @cons X l h hs hl=>
    cases hl with
    |last h' hs'=>
     simp only[Ai]at h2;exact⟨X,l,[],by simp,h,by omega,hs,hs',.last (by simp) List.Pairwise.nil⟩
    | @cons Y l' h' hs' hl'=>exact⟨X,Y,l',by simp,h,h',hs,hs',hl'⟩
  simp only[Ai]at hP hT h2;obtain⟨Z,z1,z2,z3⟩:=Xl c ((P++(X++Y++T2)).length+1) P X Y T2 (by intro e;rw[e]at lX;simp at lX;omega) (by intro e;rw[e]at lY;simp at lY;omega) sX sY (by simp only[Ai];omega) (by omega);have lZ:Z.length=2*bs:=by have:=z3.len c;rw[Ai]at this;omega
  obtain⟨Q,R,q1,q2,q3,q4,q5⟩:=ih (P++Z) T2 (by omega) (by rw[Ai];omega) d;refine⟨Z++Q,R,?_,?_,q3,q4,λR' h h3=>?_⟩
  ·rw[A0,hB];simp only[D7];rw[Ad (by omega:((P.length+2*bs:Nat):Int)<=(N:Int)),Ae];have e1:ad (P.length:Int) (bs:Int)=((P.length+X.length:Nat):Int):=by rw[C6 (by omega)<|by omega];omega
   have e2:((P.length+2*bs:Nat):Int)=((P.length+X.length+Y.length:Nat):Int):=by omega
   have e3:ad ((P.length+2*bs:Nat):Int) (ml 2 (bs:Int))=(((P++Z).length+2*bs:Nat):Int):=by
    rw[PE (by omega) (by omega),C6 (by omega) (by omega),Ai];omega
   have e4:P++(X++Y++T2)=P++X++Y++T2:=by simp
   rw[e3,e1,e2,e4];rw[e4]at z1;rw[z1,Aa];simp only;rw[show P.length+X.length+Y.length=(P++Z).length by rw[Ai];omega,q1];simp only[Ai,Ax,PY]
  ·have:=GT c z3 q2;simpa only[Ax]using this
  rw[Ax];exact .cons lZ z2<|q5 R' h h3
section
variable (key:γ->Int)
theorem eG (l:List γ) (hN:l.length<=1073741824):∃r,D1 (Nx key) l (ln l)=some r/\srt key r/\BX key l r:=by
 have rounds:∀(B:Int×List γ->Option ((Int×List γ)⊕(List γ))),(∀b l',B (b,l')=D8 (Nx key) (l.length:Int) b l')->∀(k bs:Nat) (T:List γ),l.length<=bs+k->0<bs->bs<=2147483648->T.length=l.length->Blocks key bs T->∃r,Ap B ((bs:Int),T)=some r/\srt key r/\BX key T r:=by
  intro B hB k
  induction k with
  |zero=>
   intro bs T hk c d hT hb;rw[A0,hB];simp only[D8];rw[Af (by omega:¬(bs:Int)<(l.length:Int)),Ac];refine⟨T,rfl,?_,BX.refl key _⟩
   cases hb with
   |last h hs=>exact hs
   | @cons X l' h hs hl=>
    simp only[Ai]at hT;have:l'=[]:=AH (by omega);rw[this,A4];exact hs
  |succ k ih=>
   intro bs T hk c d hT hb;by_cases f:bs<l.length
   ·rw[A0,hB];simp only[D8];rw[Ad (by omega:(bs:Int)<(l.length:Int)),Ae];obtain⟨Q,R,q1,q2,q3,q4,q5⟩:=kM key l.length bs hN c f (λs=>D7 (Nx key) (l.length:Int) (bs:Int) s.1 s.2.1 s.2.2) (λ_ _ _=>rfl) T.length [] T (Au _) (by simp[hT]) hb;simp only[BV,A6,HU]at q1;have a:Q.length+R.length=l.length:=by have:=q2.len key;rw[Ai]at this;omega
    have e2:ml 2 (bs:Int)=((2*bs:Nat):Int):=by rw[PE (by omega)<|by omega];omega
    have e2':ml (bs:Int) 2=((2*bs:Nat):Int):=by rw[PE (by omega)<|by omega];omega
    rw[e2,e2'];rw[show((0:Nat):Int)=0 from rfl]at q1;rw[q1,Aa];simp only;have em:ad (Q.length:Int) (bs:Int)=((Q.length+bs:Nat):Int):=by rw[C6 (by omega)<|by omega];omega
    rw[em];by_cases hm:Q.length+bs<l.length
    ·rw[Ad (by omega:((Q.length+bs:Nat):Int)<(l.length:Int)),Ae];obtain⟨X,Y,rfl,lX,sX,sY⟩:∃X Y,R=X++Y/\X.length=bs/\srt key X/\srt key Y:=by
      cases q4 with
      |last h hs=>omega
      | @cons X l' h hs hl=>
       refine⟨X,l',rfl,h,hs,?_⟩
       cases hl with
       |last h' hs'=>exact hs'
       | @cons Y l'' h' hs' hl'=>
        simp only[Ai]at q3;have:l''=[]:=AH (by omega);rw[this,A4];exact hs'
     simp only[Ai]at a q3;obtain⟨Z,z1,z2,z3⟩:=Xl key ((Q++(X++Y)).length+1) Q X Y [] (by intro e;rw[e]at lX;simp at lX;omega) (by intro e;rw[e]at a;simp at a;omega) sX sY (by simp only[Ai];omega) (by simp only[BV];omega);have e5:Q++X++Y++ []=Q++(X++Y):=by simp
     rw[e5,A4,lX,show Q.length+bs+Y.length=l.length by omega]at z1;rw[z1,Aa];have lZ:Z.length=(X++Y).length:=(z3.len key).symm;obtain⟨r,r1,r2,r3⟩:=ih (2*bs) (Q++Z) (by omega) (by omega) (by omega) (by rw[Ai,lZ,Ai];omega)<|q5 Z z2 lZ;exact⟨r,r1,r2,BX.trans key q2<|BX.trans key (GT key (BX.refl key Q) z3) r3⟩
    rw[Af (by omega:¬((Q.length+bs:Nat):Int)<(l.length:Int)),Ac];have sR:srt key R:=by
     cases q4 with
     |last h hs=>exact hs
     | @cons X l' h hs hl=>
      simp only[Ai]at a;have:l'=[]:=AH (by omega);rw[this,A4];exact hs
    obtain⟨r,r1,r2,r3⟩:=ih (2*bs) (Q++R) (by omega) (by omega) (by omega) (by rw[Ai];omega)<|q5 R sR rfl;exact⟨r,r1,r2,BX.trans key q2 r3⟩
   exact ih bs T (by omega) c d hT hb
 unfold D1;rw[B4];obtain⟨Q,R,q1,q2,q3,q4⟩:=kN key l.length hN (λs=>Dl (Nx key) (l.length:Int) s.1 s.2.1 s.2.2) (λ_ _ _=>rfl) l.length [] l (Au _) (by simp);simp only[BV,A6,HU]at q1;rw[show((0:Nat):Int)=0 from rfl,show((20:Nat):Int)=20 from rfl]at q1;rw[q1,Aa];have a:Q.length+R.length=l.length:=by have:=q2.len key;rw[Ai]at this;omega
 obtain⟨R',r1,r2,r3⟩:=Ja key Q R [] (by simp only[BV];omega);rw[A4,A4,a]at r1;simp only;rw[r1,Aa];have lR:R'.length=R.length:=(r3.len key).symm;obtain⟨r,w1,w2,w3⟩:=rounds (λs=>D8 (Nx key) (l.length:Int) s.1 s.2) (λ_ _=>rfl) l.length 20 (Q++R') (by omega) (by omega) (by omega) (by rw[Ai,lR];exact a)<|q4 R' r2 lR;rw[show((20:Nat):Int)=20 from rfl]at w1;rw[w1];exact⟨r,rfl,w2,BX.trans key q2<|BX.trans key (GT key (BX.refl key Q) r3) w3⟩
end
end Go.TI
