/- What walks of Go code need. No condition. -/
import Derived.Test.YtfbpdjnanpldbaaGreatMYT3
import Derived.Laws.BitsLemmas
set_option linter.unusedSimpArgs false
set_option linter.unusedVariables false
namespace Go.TI
open Go
variable {γ:Type} {r:Nat} {b:List γ} {a:List γ} {c:List γ} {lt:γ->γ->Bool} {X:List γ}
noncomputable section
def De (lt:γ->γ->Bool) (xA:Int) (xB:Int) (xN:Int) (a:Int) (b:List γ):Option ((Int×List γ)⊕(List γ)):=cond (decide<|a<xN) ((fG b (ad xA a)<|ad xB a).bind λv1=>some<|.inl (ad a 1,v1))<|some<|.inr b
def Cz (lt:γ->γ->Bool) (xL:List γ) (xA:Int) (xB:Int) (xN:Int):Option (List γ):=(Aj (λs:Int×List γ=>De lt xA xB xN s.1 s.2) (0,xL)).bind λv2=>some v2
def DN (lt:γ->γ->Bool) (xM:Int) (a:Int) (b:Int) (c:List γ):Option ((Int×Int×List γ)⊕(Int×List γ)):=cond (a !=b) (cond (decide<|a>b) ((Cz lt c (sb xM a) xM b).bind λv1=>some<|.inl (sb a b,b,v1))<|(Cz lt c (sb xM a) (sb (ad xM b) a) a).bind λv2=>some<|.inl (a,sb b a,v2))<|some<|.inr (a,c)
def DV (lt:γ->γ->Bool) (xL:List γ) (xA:Int) (xM:Int) (xB:Int):Option (List γ):=(Aj (λs:Int×Int×List γ=>DN lt xM s.1 s.2.1 s.2.2) (sb xM xA,sb xB xM,xL)).bind λv3=>(Cz lt v3.2 (sb xM v3.1) xM v3.1).bind λv4=>some v4
def AX (lt:γ->γ->Bool) (xA:Int) (a:Int) (b:List γ):Option ((Int×List γ)⊕(List γ)):=(cond (decide<|a>xA) ((nO b a<|sb a 1).bind λv1=>some<|lt v1.1 v1.2) (some false):Option Bool).bind λj1=>cond j1 ((fG b a<|sb a 1).bind λv2=>some<|.inl (sb a 1,v2))<|some<|.inr b
def AQ (lt:γ->γ->Bool) (xA:Int) (xB:Int) (a:Int) (b:List γ):Option ((Int×List γ)⊕(List γ)):=cond (decide<|a<xB) ((Aj (λs:Int×List γ=>AX lt xA s.1 s.2) (a,b)).bind λv3=>some<|.inl (ad a 1,v3))<|some<|.inr b
def Bv (lt:γ->γ->Bool) (xL:List γ) (xA:Int) (xB:Int):Option (List γ):=(Aj (λs:Int×List γ=>AQ lt xA xB s.1 s.2) (ad xA 1,xL)).bind λv4=>some v4
def Dr (lt:γ->γ->Bool) (xL:List γ) (xA:Int) (a:Int) (b:Int):Option ((Int×Int)⊕Int):=cond (decide<|a<b) ((nO xL (IntKind.i64.wrap<|Int.fdiv (IntKind.u64.wrap<|ad a b)<|2^(min (1:Int).toNat IntKind.u64.bits)) xA).bind λv1=>cond (lt v1.1 v1.2) (some<|.inl (ad (IntKind.i64.wrap<|Int.fdiv (IntKind.u64.wrap<|ad a b)<|2^(min (1:Int).toNat IntKind.u64.bits)) 1,b))<|some<|.inl (a,IntKind.i64.wrap<|Int.fdiv (IntKind.u64.wrap<|ad a b)<|2^(min (1:Int).toNat IntKind.u64.bits)))<|some<|.inr a
def CN (lt:γ->γ->Bool) (v2:Int) (a:Int) (b:List γ):Option ((Int×List γ)⊕(List γ)):=cond (decide<|a<(sb v2 1)) ((fG b a<|ad a 1).bind λv3=>some<|.inl (ad a 1,v3))<|some<|.inr b
def Dq (lt:γ->γ->Bool) (xL:List γ) (xM:Int) (a:Int) (b:Int):Option ((Int×Int)⊕Int):=cond (decide<|a<b) ((nO xL xM<|IntKind.i64.wrap<|Int.fdiv (IntKind.u64.wrap<|ad a b)<|2^(min (1:Int).toNat IntKind.u64.bits)).bind λv5=>cond (!(lt v5.1 v5.2)) (some<|.inl (ad (IntKind.i64.wrap<|Int.fdiv (IntKind.u64.wrap<|ad a b)<|2^(min (1:Int).toNat IntKind.u64.bits)) 1,b))<|some<|.inl (a,IntKind.i64.wrap<|Int.fdiv (IntKind.u64.wrap<|ad a b)<|2^(min (1:Int).toNat IntKind.u64.bits)))<|some<|.inr a
def CM (lt:γ->γ->Bool) (v6:Int) (a:Int) (b:List γ):Option ((Int×List γ)⊕(List γ)):=cond (decide<|a>v6) ((fG b a<|sb a 1).bind λv7=>some<|.inl (sb a 1,v7))<|some<|.inr b
def Dp (lt:γ->γ->Bool) (xL:List γ) (xA:Int) (xM:Int) (xB:Int) (a:Int) (b:Int):Option ((Int×Int)⊕Int):=cond (decide<|a<b) ((nO xL (sb (sb (ad (IntKind.i64.wrap<|Int.fdiv (IntKind.u64.wrap<|ad xA xB)<|2^(min (1:Int).toNat IntKind.u64.bits)) xM) 1)<|IntKind.i64.wrap<|Int.fdiv (IntKind.u64.wrap<|ad a b)<|2^(min (1:Int).toNat IntKind.u64.bits))<|IntKind.i64.wrap<|Int.fdiv (IntKind.u64.wrap<|ad a b)<|2^(min (1:Int).toNat IntKind.u64.bits)).bind λv9=>cond (!(lt v9.1 v9.2)) (some<|.inl (ad (IntKind.i64.wrap<|Int.fdiv (IntKind.u64.wrap<|ad a b)<|2^(min (1:Int).toNat IntKind.u64.bits)) 1,b))<|some<|.inl (a,IntKind.i64.wrap<|Int.fdiv (IntKind.u64.wrap<|ad a b)<|2^(min (1:Int).toNat IntKind.u64.bits)))<|some<|.inr a
def Cg (lt:γ->γ->Bool):Nat->(List γ)->Int->Int->Int->Option (List γ)
 |0,_,_,_,_=>none
 |n+1,xL,xA,xM,xB=>cond ((sb xM xA)==1) ((Aj (λs:Int×Int=>Dr lt xL xA s.1 s.2) (xM,xB)).bind λv2=>(Aj (λs:Int×List γ=>CN lt v2 s.1 s.2) (xA,xL)).bind λv4=>some v4) (cond ((sb xB xM)==1) ((Aj (λs:Int×Int=>Dq lt xL xM s.1 s.2) (xA,xM)).bind λv6=>(Aj (λs:Int×List γ=>CM lt v6 s.1 s.2) (xM,xL)).bind λv8=>some v8) ((cond (decide (xM>(IntKind.i64.wrap (Int.fdiv (IntKind.u64.wrap (ad xA xB)) (2^(min (1:Int).toNat IntKind.u64.bits)))))) (some (sb (ad (IntKind.i64.wrap (Int.fdiv (IntKind.u64.wrap (ad xA xB)) (2^(min (1:Int).toNat IntKind.u64.bits)))) xM) xB,IntKind.i64.wrap (Int.fdiv (IntKind.u64.wrap (ad xA xB)) (2^(min (1:Int).toNat IntKind.u64.bits))))) (some (xA,xM)):Option (Int×Int)).bind λj1=>(Aj (λs:Int×Int=>Dp lt xL xA xM xB s.1 s.2) (j1.1,j1.2)).bind λv10=>(cond (decide (v10<xM)) (some (decide (xM<(sb (ad (IntKind.i64.wrap (Int.fdiv (IntKind.u64.wrap (ad xA xB)) (2^(min (1:Int).toNat IntKind.u64.bits)))) xM) v10)))) (some false):Option Bool).bind λj2=>(cond j2 ((DV lt xL v10 xM (sb (ad (IntKind.i64.wrap (Int.fdiv (IntKind.u64.wrap (ad xA xB)) (2^(min (1:Int).toNat IntKind.u64.bits)))) xM) v10)).bind λv11=>some v11) (some xL):Option (List γ)).bind λj3=>(cond (decide (xA<v10)) (some (decide (v10<(IntKind.i64.wrap (Int.fdiv (IntKind.u64.wrap (ad xA xB)) (2^(min (1:Int).toNat IntKind.u64.bits))))))) (some false):Option Bool).bind λj4=>(cond j4 ((Cg lt n j3 xA v10 (IntKind.i64.wrap (Int.fdiv (IntKind.u64.wrap (ad xA xB)) (2^(min (1:Int).toNat IntKind.u64.bits))))).bind λv12=>some v12) (some j3):Option (List γ)).bind λj5=>cond (decide ((IntKind.i64.wrap (Int.fdiv (IntKind.u64.wrap (ad xA xB)) (2^(min (1:Int).toNat IntKind.u64.bits))))<(sb (ad (IntKind.i64.wrap (Int.fdiv (IntKind.u64.wrap (ad xA xB)) (2^(min (1:Int).toNat IntKind.u64.bits)))) xM) v10))) (cond (decide ((sb (ad (IntKind.i64.wrap (Int.fdiv (IntKind.u64.wrap (ad xA xB)) (2^(min (1:Int).toNat IntKind.u64.bits)))) xM) v10)<xB)) ((Cg lt n j5 (IntKind.i64.wrap (Int.fdiv (IntKind.u64.wrap (ad xA xB)) (2^(min (1:Int).toNat IntKind.u64.bits)))) (sb (ad (IntKind.i64.wrap (Int.fdiv (IntKind.u64.wrap (ad xA xB)) (2^(min (1:Int).toNat IntKind.u64.bits)))) xM) v10) xB).bind λv13=>some v13) (some j5)) (some j5)))
def C0 (lt:γ->γ->Bool) (xN:Int) (b:Int) (a:Int) (c:List γ):Option ((Int×Int×List γ)⊕(Int×List γ)):=cond (decide<|a<=xN) ((Bv lt c b a).bind λv1=>some<|.inl (a,ad a 20,v1))<|some<|.inr (b,c)
def CE (lt:γ->γ->Bool) (xN:Int) (a:Int) (c:Int) (b:Int) (d:List γ):Option ((Int×Int×List γ)⊕(Int×List γ)):=cond (decide<|b<=xN) ((Cg lt (List.length d+1) d c (ad c a) b).bind λv4=>some<|.inl (b,ad b<|ml 2 a,v4))<|some<|.inr (c,d)
def CF (lt:γ->γ->Bool) (xN:Int) (a:Int) (b:List γ):Option ((Int×List γ)⊕(List γ)):=cond (decide<|a<xN) ((Aj (λs:Int×Int×List γ=>CE lt xN a s.1 s.2.1 s.2.2) (0,ml 2 a,b)).bind λv5=>cond (decide<|(ad v5.1 a)<xN) ((Cg lt (List.length v5.2+1) v5.2 v5.1 (ad v5.1 a) xN).bind λv6=>some<|.inl (ml a 2,v6))<|some<|.inl (ml a 2,v5.2))<|some<|.inr b
def C8 (lt:γ->γ->Bool) (xL:List γ) (xN:Int):Option (List γ):=(Aj (λs:Int×Int×List γ=>C0 lt xN s.1 s.2.1 s.2.2) (0,20,xL)).bind λv2=>(Bv lt v2.2 v2.1 xN).bind λv3=>(Aj (λs:Int×List γ=>CF lt xN s.1 s.2) (20,v3)).bind λv7=>some v7
def VW (xX:Int):Option Int:=(cond (decide<|xX>=4294967296) (some (Int.fdiv xX<|2^(min (32:Int).toNat IntKind.u64.bits),32)) (some (xX,0)):Option (Int×Int)).bind λj1=>(cond (decide<|j1.1>=65536) (some (Int.fdiv j1.1<|2^(min (16:Int).toNat IntKind.u64.bits),ad j1.2 16)) (some (j1.1,j1.2)):Option (Int×Int)).bind λj2=>(cond (decide<|j2.1>=256) (some (Int.fdiv j2.1<|2^(min (8:Int).toNat IntKind.u64.bits),ad j2.2 8)) (some (j2.1,j2.2)):Option (Int×Int)).bind λj3=>(sx (bs [0,1,2,2,3,3,3,3,4,4,4,4,4,4,4,4,5,5,5,5,5,5,5,5,5,5,5,5,5,5,5,5,6,6,6,6,6,6,6,6,6,6,6,6,6,6,6,6,6,6,6,6,6,6,6,6,6,6,6,6,6,6,6,6,7,7,7,7,7,7,7,7,7,7,7,7,7,7,7,7,7,7,7,7,7,7,7,7,7,7,7,7,7,7,7,7,7,7,7,7,7,7,7,7,7,7,7,7,7,7,7,7,7,7,7,7,7,7,7,7,7,7,7,7,7,7,7,7,8,8,8,8,8,8,8,8,8,8,8,8,8,8,8,8,8,8,8,8,8,8,8,8,8,8,8,8,8,8,8,8,8,8,8,8,8,8,8,8,8,8,8,8,8,8,8,8,8,8,8,8,8,8,8,8,8,8,8,8,8,8,8,8,8,8,8,8,8,8,8,8,8,8,8,8,8,8,8,8,8,8,8,8,8,8,8,8,8,8,8,8,8,8,8,8,8,8,8,8,8,8,8,8,8,8,8,8,8,8,8,8,8,8,8,8,8,8,8,8,8,8,8,8,8,8,8,8])<|IntKind.u8.wrap j3.1).bind λx1=>some<|ad j3.2<|IntKind.i64.wrap x1
def Td (xX:Int):Option Int:=(VW xX).bind λv1=>some v1
def E8 (lt:γ->γ->Bool) (xL:List γ) (xA:Int) (xB:Int):Option (Unit⊕Unit⊕(List γ)):=cond (decide<|(sb xB xA)<=12) ((Bv lt xL xA xB).bind λv1=>some<|.inr<|.inr v1) none
def DH (lt:γ->γ->Bool) (xL:List γ) (xA:Int) (xB:Int) (a:Int):Option (List γ):=(Aj (λ_:Unit=>E8 lt xL xA xB) ()).bind<|Sum.elim (λv2=>some xL) some
def Nv (lt:γ->γ->Bool) (l:List γ):Option (List γ):=(Td<|IntKind.u64.wrap<|ln l).bind λv=>DH lt l 0 (ln l) v
end
def QA (a:γ->Int) (l:List γ):Prop:=l.Pairwise λx y=>a x<=a y
section
variable (key:γ->Int)
def By (l r:List γ):Prop:=∀k,r.filter (λx=>key x==k)=l.filter (λx=>key x==k)
end
theorem By.refl (a:γ->Int) (l:List γ):By a l l:=λ_=>rfl
theorem By.trans (d:γ->Int) (h:By d a b) (k:By d b c):By d a c:=λx=>(k x).trans<|h x
theorem EX (e:γ->Int) {d:List γ} (h:By e a b) (k:By e c d):By e (a++c) (b++d):=λx=>by rw[Cc,Cc,h,k]
section
variable (key:γ->Int)
theorem By.mem {x:γ} (h:By key a b):x∈b↔x∈a:=by
 have:=h<|key x;have e:x∈b.filter (λy=>key y==key x)↔x∈a.filter (λy=>key y==key x):=by rw[this]
 simpa using e
end
section
variable (key:γ->Int)
theorem By.nil (h:By key [] b):b=[]:=by
 cases b with
 |nil=>rfl
 |cons x b=>exact absurd ((h.mem (x:=x)).1 Fz)<|by simp
end
theorem By.swap (c:γ->Int) (h:∀x∈a,∀y∈b,c y<c x):By c (a++b) (b++a):=by
 intro k
 grind [Co]
theorem Rc (p:γ->Bool):∀l:List γ,l.length=(l.filter p).length+(l.filter λx=>!p x).length
 |[]=>rfl
 |x::l=>by
  have:=Rc p l
  grind
section
variable (key:γ->Int)
theorem By.len:By key a b->a.length=b.length:=by
 intro h;have:∀(n:Nat) (a b:List γ),a.length<=n->By key a b->a.length=b.length:=by
  intro n
  induction n with
  |zero=>grind [By.nil]
  |succ n ih=>
   intro a b ha h
   cases a with
   |nil=>rw[h.nil]
   |cons x a=>
    have hp:(x::a).length=((x::a).filter λy=>key y==key x).length+((x::a).filter λy=>!(key y==key x)).length:=by
     exact Rc _ _
    have c:b.length=(b.filter λy=>key y==key x).length+(b.filter λy=>!(key y==key x)).length:=by
     exact Rc _ _
    have h1:By key ((x::a).filter λy=>!(key y==key x)) (b.filter λy=>!(key y==key x)):=by
     intro k;rw[Dt,Dt];by_cases hk:k=key x
     ·subst hk
      have z:∀l:List γ,l.filter (λy=>(key y==key x)&&!(key y==key x))=[]:=λl=>by simp
      rw[z,z]
     have z:∀l:List γ,l.filter (λy=>(key y==k)&&!(key y==key x))=l.filter (λy=>key y==k):=λl=>by grind
     rw[z,z];exact h k
    have h2:=ih _ _ (by grind) h1;rw[hp,c,h2,h<|key x]
 exact this a.length a b (A8 _) h
end
section
variable (key:γ->Int)
theorem Nu:∀{a b:List γ},QA key a->QA key b->By key a b->a=b
 |[],b,_,_,h=>(h.nil key).symm
 |x::a,[],_,_,h=>by
  have:=h.len key;simp at this
 |x::a,y::b,ha,hb,h=>by
  have c:key x=key y:=by
   have h1:x∈y::b:=(h.mem key).2 Fz;have h2:y∈x::a:=(h.mem key).1 Fz;have k1:key y<=key x:=by
    rcases Iu.1 h1 with rfl|h1
    ·exact Jb _
    exact(C6.1 hb).1 x h1
   have k2:key x<=key y:=by
    rcases Iu.1 h2 with rfl|h2
    ·exact Jb _
    exact(C6.1 ha).1 y h2
   omega
  have e:=h<|key x;rw[Lk (by simp[c]),Lk<|by simp]at e
  injection e with e1 e2
  subst e1;have h':By key a b:=by
   intro k;have:=h k
   grind
  rw[Nu (C6.1 ha).2 (C6.1 hb).2 h']
end
theorem Wl (P S:List γ) (x:γ):gi (P++x::S) (P.length:Nat)=some x:=by grind [Ar]
theorem wU (P S:List γ) (x y:γ):si (P++x::S) (P.length:Nat) y=P++y::S:=by
 rw[CP];simp
theorem jC (P M S:List γ) (x y:γ):fG (P++x::(M++y::S)) (P.length:Nat) ((P.length+1+M.length:Nat):Int)=some (P++y::(M++x::S)):=by
 unfold fG
 grind [Wl,wU]
theorem jD (P S:List γ) (x y:γ):fG (P++x::y::S) ((P.length+1:Nat):Int) (P.length:Nat)=some (P++y::x::S):=by simp_all [fG,gi,si];grind
theorem n7 (P S:List γ) (x y:γ):fG (P++x::y::S) (P.length:Nat) ((P.length+1:Nat):Int)=some (P++y::x::S):=by
 have:=jC P [] S x y;simpa using this
theorem Nr:∀(X Y P M S:List γ),X.length=Y.length->P.length+X.length+M.length+Y.length+S.length<=1152921504606846976->
  Cz lt (P++X++M++Y++S) (P.length:Nat) ((P.length+X.length+M.length:Nat):Int) (X.length:Nat)=some (P++Y++M++X++S):=by
 have d:∀(n:Nat) (X Y P M S:List γ) (a b c i:Nat),X.length=n->Y.length=n->a+i=P.length->b+i=P.length+n+M.length->c=i+n->P.length+n+M.length+n+S.length<=1152921504606846976->
   Aj (λs:Int×List γ=>De lt (a:Int) (b:Int) (c:Int) s.1 s.2) ((i:Int),P++X++M++Y++S)=some (P++Y++M++X++S):=by
  intro n
  induction n with
  |zero=>grind [Az,De]
  |succ n ih=>
   intro X Y P M S a b c i hX hY h1 h2 h3 hN
   cases X with
   |nil=>simp at hX
   |cons x X=>
   cases Y with
   |nil=>simp at hY
   |cons y Y=>
   simp only[AZ]at hX hY;have hs:fG (P++(x::X)++M++(y::Y)++S) (ad (a:Int) (i:Int)) (ad (b:Int) (i:Int))=some (P++(y::X)++M++(x::Y)++S):=by
    have e1:ad (a:Int) (i:Int)=(P.length:Nat):=by rw[Ca (by omega)<|by omega];omega
    have e2:ad (b:Int) (i:Int)=((P.length+1+(X++M).length:Nat):Int):=by rw[Ca (by omega)<|by omega];grind
    have:=jC P (X++M) (Y++S) x y;rw[e1,e2];simpa using this
   rw[Az];simp only[De];rw[Ac (by omega:(i:Int)<c),Ak,hs,Aa,ad1<|by omega];have:=ih X Y (P++ [y]) (M++ [x]) S a b c (i+1) (by omega) (by omega) (by simp;omega) (by simp;omega) (by omega) (by simp;omega);simp only[BD,BW,A0,Iy]at this⊢;exact this
 intro X Y P M S e hN;unfold Cz;have:=d X.length X Y P M S P.length (P.length+X.length+M.length) X.length 0 rfl e.symm (by omega) (by omega) (by omega)<|by omega
 grind
theorem lT (P A B S:List γ) (hA:A≠ []) (hB:B≠ []) (hN:P.length+A.length+B.length+S.length<=1152921504606846976):
  DV lt (P++A++B++S) (P.length:Nat) ((P.length+A.length:Nat):Int) ((P.length+A.length+B.length:Nat):Int)=some (P++B++A++S):=by
 have g:∀(m:Nat) (Bd:Int×Int×List γ->Option ((Int×Int×List γ)⊕(Int×List γ))) (d:∀i j l,Bd (i,j,l)=DN lt (m:Int) i j l) (k:Nat) (P U V S:List γ),U.length+V.length<=k->U≠ []->V≠ []->P.length+U.length=m->P.length+U.length+V.length+S.length<=1152921504606846976->
   ((
    Aj Bd ((U.length:Int),(V.length:Int),P++U++V++S)).bind λv3=>
    (Cz lt v3.2 (sb (m:Int) v3.1) (m:Int) v3.1).bind λv4=>some v4)=some (P++V++U++S):=by
  intro m Bd d k
  induction k with
  |zero=>simp_all
  |succ k ih=>
   intro P U V S hk hU hV hm hN;have lU:=K1.2 hU;have lV:=K1.2 hV;rw[Az];simp only[d,DN];have c:sb (m:Int) (U.length:Int)=(P.length:Nat):=by grind [BV]
   by_cases f:U.length=V.length
   ·have e:((U.length:Int) !=(V.length:Int))=false:=by simp[f]
    rw[e,Ad];simp only[Aa];rw[c];have:=Nr (lt:=lt) U V P [] S f (by simp;omega);simp_all
   have e:((U.length:Int) !=(V.length:Int))=true:=by simp;omega
   rw[e,Ak];by_cases n:U.length>V.length
   ·rw[Ac (by omega:(U.length:Int)>V.length),Ak,c];have h:U=U.take V.length++U.drop V.length:=(Ci _ _).symm;have a:(U.take V.length).length=V.length:=by simp;omega
    have b:(U.drop V.length).length=U.length-V.length:=by simp
    have:=Nr (lt:=lt) (U.take V.length) V P (U.drop V.length) S a (by grind);rw[a,b,show P.length+V.length+(U.length-V.length)=m by omega]at this;have e3:P++U++V++S=P++U.take V.length++U.drop V.length++V++S:=by grind
    have e4:sb (U.length:Int) (V.length:Int)=((U.drop V.length).length:Int):=by rw[BV (by omega) (by omega),b];omega
    have:=ih (P++V) (U.drop V.length) (U.take V.length) S (by grind) (by grind) (by grind) (by grind)<|by grind
    grind
   rw[Ah (by omega:¬(U.length:Int)>V.length),Ad,c];have a:(V.take<|V.length-U.length).length=V.length-U.length:=by simp
   have b:(V.drop<|V.length-U.length).length=U.length:=by simp;omega
   have:=Nr (lt:=lt) U (V.drop<|V.length-U.length) P (V.take<|V.length-U.length) S b.symm (by grind);rw[a]at this;have e2:sb (ad (m:Int) (V.length:Int)) (U.length:Int)=((P.length+U.length+(V.length-U.length):Nat):Int):=by rw[Ca (by omega) (by omega),BV (by omega)<|by omega];omega
   have e3:P++U++V++S=P++U++V.take (V.length-U.length)++V.drop (V.length-U.length)++S:=by simp
   rw[e2,e3,this,Aa];have e4:sb (V.length:Int) (U.length:Int)=((V.take<|V.length-U.length).length:Int):=by rw[BV (by omega) (by omega),a];omega
   have:=ih P (V.drop<|V.length-U.length) (V.take<|V.length-U.length) (U++S) (by grind) (by grind) (by grind) (by rw[b];omega)<|by grind
   grind [Ci]
 have h1:sb ((P.length+A.length:Nat):Int) (P.length:Nat)=(A.length:Int):=by grind [BV]
 have h2:sb ((P.length+A.length+B.length:Nat):Int) ((P.length+A.length:Nat):Int)=(B.length:Int):=by grind [BV]
 unfold DV;rw[h1,h2];exact g (P.length+A.length) (λs=>DN lt ((P.length+A.length:Nat):Int) s.1 s.2.1 s.2.2) (λ_ _ _=>rfl) _ P A B S (A8 _) hA hB rfl hN
def LS (a:γ->Int) (x y:γ):Bool:=decide<|a x<a y
theorem mS (a:γ->Int) (P S:List γ) (y:γ) (B:Int×List γ->Option ((Int×List γ)⊕(List γ))) (hB:∀j l,B (j,l)=AX (LS a) (P.length:Nat) j l):∀(n:Nat) (U V:List γ),U.length=n->QA a U->P.length+U.length+V.length+S.length<=1152921504606846976->
  ∃U1 U2,U=U1++U2/\Aj B (((P.length+U.length:Nat):Int),P++U++y::(V++S))=some (P++U1++y::(U2++V++S))/\(∀v∈U2,a y<a v)/\∀u∈U1,a u<=a y:=by
 intro n
 induction n with
 |zero=>
  intro U V hU _ hN;have:=Bg hU;simp_all [Az,AX];grind
 |succ n ih=>
  intro U V hU hs hN
  rcases FB U with rfl|⟨U0,z,rfl⟩
  ·simp at hU
  rw[Iz]at hU hs hN⊢;simp only[AC,F9]at hU hN;have hl:P.length+(U0++ [z]).length=(P++U0).length+1:=by simp;omega
  have e0:P++(U0++ [z])++y::(V++S)=(P++U0)++z::y::(V++S):=by simp
  have ej:sb (((P++U0).length+1:Nat):Int) 1=((P++U0).length:Nat):=by grind [BV]
  have g1:gi ((P++U0)++z::y::(V++S)) (((P++U0).length+1:Nat):Int)=some y:=by grind [Wl]
  have g2:nO ((P++U0)++z::y::(V++S)) (((P++U0).length+1:Nat):Int) ((P++U0).length:Nat)=some (y,z):=by grind [Wl,nO]
  by_cases b:a y<a z
  ·obtain⟨U1,U2,h1,h2,h3,h4⟩:=ih U0 (z::V) (by omega) (Ba.1 hs).1 (by grind);refine⟨U1,U2++ [z],by rw[h1];simp,?_,?_,h4⟩
   ·rw[Az,hB];simp only[AX];rw[hl,e0,Ac (by grind:(((P++U0).length+1:Nat):Int)>(P.length:Nat)),Ak,ej,g2];simp only[Aa,LS];rw[Ac b,Ak,jD,Aa]
    grind
   grind
  refine⟨U0++ [z],[],by simp,?_,by simp,?_⟩
  ·grind [Az,AX,LS]
  intro u hu
  rcases A7.1 hu with hu|hu
  ·have:=(Ba.1 hs).2.2 u hu z (by simp);omega
  grind
section
variable (key:γ->Int)
theorem Hj (P X S:List γ) (hN:P.length+X.length+S.length<=1152921504606846976):
  ∃X',Bv (LS key) (P++X++S) (P.length:Nat) ((P.length+X.length:Nat):Int)=some (P++X'++S)/\QA key X'/\By key X X':=by
 have main:∀(b:Nat) (B:Int×List γ->Option ((Int×List γ)⊕(List γ))),(∀i l,B (i,l)=AQ (LS key) (P.length:Nat) (b:Int) i l)->∀(n:Nat) (U V:List γ),V.length=n->P.length+U.length+V.length=b->QA key U->b+S.length<=1152921504606846976->
   ∃X',Aj B (((P.length+U.length:Nat):Int),P++U++V++S)=some (P++X'++S)/\QA key X'/\By key (U++V) X':=by
  intro b B hB n
  induction n with
  |zero=>grind [By.refl,Az,AQ]
  |succ n ih=>
   intro U V hV hb hs hN
   cases V with
   |nil=>simp at hV
   |cons y V=>
    simp only[AZ]at hV hb;obtain⟨U1,U2,h1,h2,h3,h4⟩:=mS key P (V++S) y (λs=>AX (LS key) (P.length:Nat) s.1 s.2) (λ_ _=>rfl) U.length U [] rfl hs (by grind);have hs':QA key (U1++y::U2):=by
     rw[h1]at hs;obtain⟨q1,q2,q3⟩:=Ba.1 hs;refine Ba.2 ⟨q1,C6.2 ⟨λv hv=>Int.le_of_lt<|h3 v hv,q2⟩,λu hu v hv=>?_⟩
     grind
    have hk:By key (U++ [y]) (U1++y::U2):=by
     rw[h1,BD];have:=By.swap key (a:=U2) (b:=[y]) (λx hx z hz=>by simp at hz;grind)
     grind [EX,By.refl]
    have c:(U1++y::U2).length=U.length+1:=by grind
    obtain⟨X',r1,r2,r3⟩:=ih (U1++y::U2) V (by omega) (by rw[c];omega) hs' hN;refine⟨X',?_,r2,?_⟩
    ·rw[Az,hB];simp only[AQ];rw[Ac (by omega:((P.length+U.length:Nat):Int)<(b:Int)),Ak];have e:P++U++y::V++S=P++U++y::([]++(V++S)):=by simp
     rw[e,h2,Aa,ad1<|by omega];simp only;rw[show P.length+U.length+1=P.length+(U1++y::U2).length by rw[c];omega]
     grind
    refine By.trans key ?_ r3
    grind [EX,By.refl]
 unfold Bv;rw[ad1<|by omega]
 cases X with
 |nil=>
  refine⟨[],?_,List.Pairwise.nil,By.refl key _⟩
  grind [Az,AQ]
 |cons x X=>
  obtain⟨X',h1,h2,h3⟩:=main (P.length+(x::X).length) (λs=>AQ (LS key) (P.length:Nat) ((P.length+(x::X).length:Nat):Int) s.1 s.2) (λ_ _=>rfl) X.length [x] X rfl (by simp;omega) (List.pairwise_singleton _ _)<|by omega
  grind
end
def Xh (i j:Int):Int:=IntKind.i64.wrap<|Int.fdiv (IntKind.u64.wrap<|ad i j)<|2^(min (1:Int).toNat IntKind.u64.bits)
theorem ZD (i j:Nat) (h:i+j<=4611686018427387904):Xh (i:Int) (j:Int)=(((i+j)/2:Nat):Int):=by
 unfold Xh;rw[Ca (by omega)<|by omega];have e1:IntKind.u64.wrap ((i:Int)+(j:Int))=((i+j:Nat):Int):=by
  have:IntKind.u64.wrap ((i:Int)+(j:Int))=((i:Int)+(j:Int)) %18446744073709551616:=by rfl
  grind
 grind [M8,IntKind.bits]
theorem aG {B:Int×Int->Option ((Int×Int)⊕Int)} (p:Nat->Bool) (lo hi:Nat) (h1:∀i j:Nat,lo<=i->i<j->j<=hi->B ((i:Int),(j:Int))=some (.inl (cond (p ((i+j)/2)) ((((i+j)/2+1:Nat):Int),(j:Int)) ((i:Int),(((i+j)/2:Nat):Int))))) (h2:∀i:Nat,B ((i:Int),(i:Int))=some (.inr (i:Int))):
  ∀(n i j:Nat),j-i<=n->lo<=i->i<=j->j<=hi->(lo<i->p (i-1)=true)->(j<hi->p j=false)->∃r:Nat,Aj B ((i:Int),(j:Int))=some (r:Int)/\lo<=r/\r<=hi/\(lo<r->p (r-1)=true)/\(r<hi->p r=false):=by
 intro n
 induction n with
 |zero=>
  intro i j hn hl a hh k1 k2;have:i=j:=by omega
  simp_all [Az];grind
 |succ n ih=>
  intro i j hn hl a hh k1 k2;by_cases he:i=j
  ·subst he;exact⟨i,by rw[Az,h2],hl,hh,k1,k2⟩
  rw[Az,h1 i j hl (by omega) hh]
  cases hp:p ((i+j)/2)with
  |true=>
   exact ih ((i+j)/2+1) j (by omega) (by omega) (by omega) hh (λ_=>by grind) k2
  |false=>
   exact ih i ((i+j)/2) (by omega) hl (by omega) (by omega) k1 λ_=>hp
theorem ZV (P X T:List γ) (k:Nat) (hk:k<X.length):gi (P++X++T) ((P.length+k:Nat):Int)=some X[k]:=by
 rw[Ar,BD,CW (by omega),Nat.add_sub_cancel_left,JS hk,Ab hk]
theorem RC (a:γ->Int) (h:QA a X) (h0:0<r) (hr:r<=X.length):∀u∈X.take r,a u<=a (X[r-1]'(by omega)):=by
 intro u hu;obtain⟨i,hi,e⟩:=A5 hu;rw[List.getElem_take]at e;simp only[J5]at hi;rw[<-e];by_cases b:i=r-1
 ·grind
 exact List.pairwise_iff_getElem.1 h i (r-1) (by omega) (by omega)<|by omega
theorem RD (a:γ->Int) (h:QA a X) (hr:r<X.length):∀v∈X.drop r,a X[r]<=a v:=by
 intro v hv;obtain⟨i,hi,e⟩:=A5 hv;rw[List.getElem_drop]at e;simp only[Nj]at hi;rw[<-e];by_cases b:i=0
 ·subst b;simp
 exact List.pairwise_iff_getElem.1 h r (r+i) (by omega) (by omega)<|by omega
theorem oW (a:γ->Int) (S:List γ) (x:γ) (v2:Nat) (B:Int×List γ->Option ((Int×List γ)⊕(List γ))) (hB:∀k l,B (k,l)=CN (LS a) (v2:Int) k l):∀(Y P:List γ),P.length+Y.length+1=v2->v2<=1152921504606846976->
  Aj B ((P.length:Int),P++x::(Y++S))=some (P++Y++x::S):=by
 intro Y
 induction Y with
 |nil=>grind [Az,BV,CN]
 |cons y Y ih=>
  intro P h hN;simp only[AZ]at h;rw[Az,hB];simp only[CN];rw[BV (by omega) (by omega),Ac (by omega:(P.length:Int)<(v2:Int)-1),Ak,ad1 (by omega),BW,n7,Aa];simp only;have:=ih (P++ [y]) (by simp;omega) hN;simp_all
theorem uB (a:γ->Int) (P S:List γ) (y:γ) (B:Int×List γ->Option ((Int×List γ)⊕(List γ))) (hB:∀k l,B (k,l)=CM (LS a) (P.length:Int) k l):∀(n:Nat) (X S:List γ),X.length=n->P.length+X.length<=1152921504606846976->
  Aj B (((P.length+X.length:Nat):Int),P++X++y::S)=some (P++y::(X++S)):=by
 intro n
 induction n with
 |zero=>grind [Az,CM]
 |succ n ih=>
  intro X S hX hN
  rcases FB X with rfl|⟨X0,z,rfl⟩
  ·simp at hX
  rw[Iz]at hX hN⊢;simp only[AC,F9]at hX hN;have hl:P.length+(X0++ [z]).length=(P++X0).length+1:=by simp;omega
  have e0:P++(X0++ [z])++y::S=(P++X0)++z::y::S:=by simp
  have ej:sb (((P++X0).length+1:Nat):Int) 1=((P++X0).length:Nat):=by grind [BV]
  rw[Az,hB];simp only[CM];rw[hl,e0,Ac (by grind:(((P++X0).length+1:Nat):Int)>(P.length:Int)),Ak,ej,jD,Aa];simp_all;grind
section
variable (key:γ->Int)
set_option maxHeartbeats 1000000 in
theorem Tv:∀(n:Nat) (P X Y S:List γ),X≠ []->Y≠ []->QA key X->QA key Y->X.length+Y.length<=n->P.length+X.length+Y.length+S.length<=1152921504606846976->
  ∃Z,Cg (LS key) n (P++X++Y++S) (P.length:Nat) ((P.length+X.length:Nat):Int) ((P.length+X.length+Y.length:Nat):Int)=some (P++Z++S)/\QA key Z/\By key (X++Y) Z:=by
 intro n
 induction n with
 |zero=>simp_all
 |succ n ih=>
  intro P X Y S hX hY sX sY hn hN;have lX:=K1.2 hX;have lY:=K1.2 hY;have eXA:sb ((P.length+X.length:Nat):Int) (P.length:Nat)=(X.length:Int):=by grind [BV]
  have eYB:sb ((P.length+X.length+Y.length:Nat):Int) ((P.length+X.length:Nat):Int)=(Y.length:Int):=by grind [BV]
  rw[Cg,eXA,eYB];by_cases h5:X.length=1
  ·obtain⟨x,rfl⟩:=List.length_eq_one_iff.1 h5;have:(((([x]:List γ).length:Nat):Int)==1)=true:=rfl;simp only[F9]at hn hN⊢;obtain⟨r,r1,r2,r3,r4,r5⟩:=aG (B:=λs:Int×Int=>Dr (LS key) (P++ [x]++Y++S) (P.length:Nat) s.1 s.2) (λc=>match Y[c-(P.length+1)]? with|some y=>decide (key y<key x)|none=>false) (P.length+1) (P.length+1+Y.length)
    (λi j hi o hj=>by
     simp only[Dr];rw[Ac (by omega:(i:Int)<j),Ak];have hm:Xh (i:Int) (j:Int)=(((i+j)/2:Nat):Int):=ZD i j (by omega);unfold Xh at hm;rw[hm];have hk:(i+j)/2-(P.length+1)<Y.length:=by omega
     have g1:gi (P++ [x]++Y++S) (((i+j)/2:Nat):Int)=some Y[(i+j)/2-(P.length+1)]:=by
      have:=ZV (P++ [x]) Y S ((i+j)/2-(P.length+1)) hk
      grind
     grind [Wl,ad1,nO,LS])
    (λi=>by grind [Dr])
    (Y.length) (P.length+1) (P.length+1+Y.length) (by omega) (A8 _) (by omega) (A8 _) (λh=>absurd h<|by omega) (λh=>absurd h<|by omega)
   rw[r1,Aa];have k:Y.take (r-(P.length+1))++Y.drop (r-(P.length+1))=Y:=Ci _ _;have a8:(Y.take<|r-(P.length+1)).length=r-(P.length+1):=by simp;omega
   have a9:∀y∈Y.take (r-(P.length+1)),key y<key x:=by
    intro y hy;have h0:0<r-(P.length+1):=by grind
    have:=RC key sY h0 (by omega) y hy;have hp:=r4 (by omega);rw[show r-1-(P.length+1)=r-(P.length+1)-1 by omega,Ab<|by omega]at hp
    grind
   have h6:∀y∈Y.drop (r-(P.length+1)),key x<=key y:=by
    intro y hy;have h0:r-(P.length+1)<Y.length:=by grind
    grind [RD]
   have hm:=oW key (Y.drop (r-(P.length+1))++S) x r (λs=>CN (LS key) (r:Int) s.1 s.2) (λ_ _=>rfl) (Y.take<|r-(P.length+1)) P (by omega) (by omega);have e:P++ [x]++Y++S=P++x::(Y.take (r-(P.length+1))++(Y.drop (r-(P.length+1))++S)):=by grind
   rw[e,hm,Aa];refine⟨Y.take (r-(P.length+1))++x::Y.drop (r-(P.length+1)),by simp,?_,?_⟩
   ·have sY':=sY;rw[<-k]at sY';obtain⟨q1,q2,q3⟩:=Ba.1 sY';refine Ba.2 ⟨q1,C6.2 ⟨h6,q2⟩,λu hu v hv=>?_⟩
    grind
   have:=By.swap key (a:=[x]) (b:=Y.take<|r-(P.length+1)) (λu hu y hy=>by simp at hu;grind);have:=EX key this<|By.refl key<|Y.drop<|r-(P.length+1)
   grind
  have:((X.length:Int)==1)=false:=by grind
  rw[this,Ad];by_cases k:Y.length=1
  ·obtain⟨y,rfl⟩:=List.length_eq_one_iff.1 k;have:(((([y]:List γ).length:Nat):Int)==1)=true:=rfl;have gY:gi (P++X++ [y]++S) ((P.length+X.length:Nat):Int)=some y:=by grind [Wl]
   obtain⟨r,r1,r2,r3,r4,r5⟩:=aG (B:=λs:Int×Int=>Dq (LS key) (P++X++ [y]++S) ((P.length+X.length:Nat):Int) s.1 s.2) (λc=>match X[c-P.length]? with|some x=>!decide (key y<key x)|none=>false) P.length (P.length+X.length)
    (λi j hi o hj=>by
     simp only[Dq];rw[Ac (by omega:(i:Int)<j),Ak];have hm:Xh (i:Int) (j:Int)=(((i+j)/2:Nat):Int):=ZD i j (by omega);unfold Xh at hm;rw[hm];have hk:(i+j)/2-P.length<X.length:=by omega
     have g1:gi (P++X++ [y]++S) (((i+j)/2:Nat):Int)=some X[(i+j)/2-P.length]:=by
      have:=ZV P X ([y]++S) ((i+j)/2-P.length) hk
      grind
     grind [ad1,nO,LS])
    (λi=>by grind [Dq])
    (X.length) P.length (P.length+X.length) (by omega) (A8 _) (by omega) (A8 _) (λh=>absurd h<|by omega) (λh=>absurd h<|by omega)
   rw[r1,Aa];have hX1':X.take (r-P.length)++X.drop (r-P.length)=X:=Ci _ _;have h7:(X.drop<|r-P.length).length=X.length-(r-P.length):=by simp
   have b0:∀x∈X.take (r-P.length),key x<=key y:=by
    intro x hx;have h0:0<r-P.length:=by grind
    have:=RC key sX h0 (by omega) x hx;have hp:=r4 (by omega);rw[show r-1-P.length=r-P.length-1 by omega,Ab<|by omega]at hp
    grind
   have p:∀x∈X.drop (r-P.length),key y<key x:=by
    intro x hx;have h0:r-P.length<X.length:=by grind
    grind [RD]
   have q:(P++X.take (r-P.length)).length=r:=by grind
   have hm:=uB key (P++X.take (r-P.length)) S y (λs=>CM (LS key) (r:Int) s.1 s.2) (λ_ _=>by rw[q]) (X.drop<|r-P.length).length (X.drop<|r-P.length) S rfl (by grind);have e:P++X++ [y]++S=P++X.take (r-P.length)++X.drop (r-P.length)++y::S:=by simp
   rw[q,h7,show r+(X.length-(r-P.length))=P.length+X.length by omega]at hm;rw[e,hm,Aa];refine⟨X.take (r-P.length)++y::X.drop (r-P.length),by simp,?_,?_⟩
   ·have sX':=sX;rw[<-hX1']at sX';obtain⟨q1,q2,q3⟩:=Ba.1 sX';refine Ba.2 ⟨q1,C6.2 ⟨λv hv=>Int.le_of_lt<|p v hv,q2⟩,λu hu v hv=>?_⟩
    grind
   have:=By.swap key (a:=X.drop<|r-P.length) (b:=[y]) (λu hu v hv=>by simp at hv;grind)
   grind [EX,By.refl]
  have:((Y.length:Int)==1)=false:=by grind
  rw[this,Ad];have f:Xh (P.length:Nat) ((P.length+X.length+Y.length:Nat):Int)=(((P.length+(P.length+X.length+Y.length))/2:Nat):Int):=ZD _ _ (by omega);unfold Xh at f;rw[f];obtain⟨mid,t⟩:∃mid,mid=(P.length+(P.length+X.length+Y.length))/2:=⟨_,rfl⟩;rw[<-t];have en:ad (mid:Int) ((P.length+X.length:Nat):Int)=((mid+(P.length+X.length):Nat):Int):=by grind [Ca]
  rw[en];obtain⟨lo,hi,h8,b1,b2,l,h4⟩:∃lo hi:Nat,((cond (decide<|((P.length+X.length:Nat):Int)>(mid:Int)) (some (sb ((mid+(P.length+X.length):Nat):Int) ((P.length+X.length+Y.length:Nat):Int),(mid:Int))) (some (((P.length:Nat):Int),((P.length+X.length:Nat):Int))):Option (Int×Int))=some ((lo:Int),(hi:Int)))/\
    P.length<=lo/\hi<=P.length+X.length/\lo<=hi/\(P.length+X.length>mid/\lo=mid+(P.length+X.length)-(P.length+X.length+Y.length)/\hi=mid\/P.length+X.length<=mid/\lo=P.length/\hi=P.length+X.length):=by
   by_cases p:P.length+X.length>mid
   ·rw[Ac (by omega),Ak,BV (by omega)<|by omega]
    grind
   exact⟨P.length,P.length+X.length,by grind,by omega,by omega,by omega,.inr ⟨by omega,rfl,rfl⟩⟩
  rw[h8,Aa];simp only;have h9:sb ((mid+(P.length+X.length):Nat):Int) 1=((mid+(P.length+X.length)-1:Nat):Int):=by grind [BV]
  obtain⟨r,r1,r2,r3,r4,r5⟩:=aG (B:=λs:Int×Int=>Dp (LS key) (P++X++Y++S) (P.length:Nat) ((P.length+X.length:Nat):Int) ((P.length+X.length+Y.length:Nat):Int) s.1 s.2)
   (λc=>match Y[mid+(P.length+X.length)-1-c-(P.length+X.length)]?,X[c-P.length]? with|some y,some x=>!decide (key y<key x)|_,_=>false) lo hi
   (λi j hi' o hj=>by
    simp only[Dp];rw[Ac (by omega:(i:Int)<j),Ak,f,<-t,en,h9];have hm:Xh (i:Int) (j:Int)=(((i+j)/2:Nat):Int):=ZD i j (by omega);unfold Xh at hm;rw[hm];have hk:(i+j)/2-P.length<X.length:=by omega
    have d:mid+(P.length+X.length)-1-(i+j)/2-(P.length+X.length)<Y.length:=by omega
    have g1:gi (P++X++Y++S) (((i+j)/2:Nat):Int)=some X[(i+j)/2-P.length]:=by
     have:=ZV P X (Y++S) ((i+j)/2-P.length) hk
     grind
    have es:sb ((mid+(P.length+X.length)-1:Nat):Int) (((i+j)/2:Nat):Int)=(((P++X).length+(mid+(P.length+X.length)-1-(i+j)/2-(P.length+X.length)):Nat):Int):=by grind [BV]
    have g2:gi (P++X++Y++S) (((P++X).length+(mid+(P.length+X.length)-1-(i+j)/2-(P.length+X.length)):Nat):Int)=some Y[mid+(P.length+X.length)-1-(i+j)/2-(P.length+X.length)]:=ZV (P++X) Y S _ d;unfold nO;rw[es,g2,Aa,g1,Aa,Aa,Ab hk,Ab d]
    grind [ad1,LS])
   (λi=>by grind [Dp])
   (hi-lo) lo hi (A8 _) (A8 _) l (A8 _) (λh=>absurd h<|by omega) (λh=>absurd h<|by omega)
  rw[r1,Aa];obtain⟨fin,a7⟩:∃fin,fin=mid+(P.length+X.length)-r:=⟨_,rfl⟩;have w:sb ((mid+(P.length+X.length):Nat):Int) (r:Int)=(fin:Int):=by rw[BV (by omega)<|by omega];omega
  simp only[w];have b3:P.length+X.length<=fin/\fin<=P.length+X.length+Y.length:=by omega
  obtain⟨A1,A2,hA⟩:∃A1 A2,A1=X.take (r-P.length)/\A2=X.drop (r-P.length):=⟨_,_,rfl,rfl⟩;obtain⟨B1,B2,hB⟩:∃B1 B2,B1=Y.take (fin-(P.length+X.length))/\B2=Y.drop (fin-(P.length+X.length)):=⟨_,_,rfl,rfl⟩;have a0:A1++A2=X:=by rw[hA.1,hA.2];simp
  have a1:B1++B2=Y:=by rw[hB.1,hB.2];simp
  have lA1:A1.length=r-P.length:=by rw[hA.1];simp;omega
  have lA2:A2.length=P.length+X.length-r:=by grind
  have lB1:B1.length=fin-(P.length+X.length):=by rw[hB.1];simp;omega
  have lB2:B2.length=P.length+X.length+Y.length-fin:=by grind
  have sX':=sX;rw[<-a0]at sX';obtain⟨sA1,sA2,sA⟩:=Ba.1 sX';have sY':=sY;rw[<-a1]at sY';obtain⟨sB1,sB2,sB⟩:=Ba.1 sY';have b4:∀u∈A1,∀v∈B2,key u<=key v:=by
   intro u hu v hv;have l1:=LX hu;have l2:=LX hv;have hp:=r4 (by omega);have d:mid+(P.length+X.length)-1-(r-1)-(P.length+X.length)<Y.length:=by omega
   have g:r-1-P.length<X.length:=by omega
   rw[Ab d,Ab g]at hp;simp only[DG,decide_eq_false_iff_not]at hp;rw[hA.1]at hu;have k1:=RC key sX (r:=r-P.length) (by omega) (by omega) u hu;rw[hB.2]at hv;have k2:=RD key sY (r:=fin-(P.length+X.length)) (by omega) v hv;have i1:X[r-P.length-1]'(by omega)=X[r-1-P.length]'g:=by congr 1;omega
   have i2:Y[fin-(P.length+X.length)]'(by omega)=Y[mid+(P.length+X.length)-1-(r-1)-(P.length+X.length)]'d:=by congr 1;omega
   grind
  have a2:∀x∈A2,∀y∈B1,key y<key x:=by
   intro x hx y hy;have l1:=LX hx;have l2:=LX hy;have hp:=r5 (by omega);have d:mid+(P.length+X.length)-1-r-(P.length+X.length)<Y.length:=by omega
   have g:r-P.length<X.length:=by omega
   rw[Ab d,Ab g]at hp;simp only[Bool.not_eq_false',Bz]at hp;rw[hA.2]at hx;have k1:=RD key sX g x hx;rw[hB.1]at hy;have k2:=RC key sY (r:=fin-(P.length+X.length)) (by omega) (by omega) y hy;have i2:Y[fin-(P.length+X.length)-1]'(by omega)=Y[mid+(P.length+X.length)-1-r-(P.length+X.length)]'d:=by congr 1;omega
   grind
  have z:(((bif decide ((r:Int)<((P.length+X.length:Nat):Int))then some (decide<|((P.length+X.length:Nat):Int)<(fin:Int))else some false:Option Bool).bind λj2=>
    (bif j2 then((DV (LS key) (P++X++Y++S) (r:Int) ((P.length+X.length:Nat):Int) (fin:Int)).bind λv11=>some v11)else some (P++X++Y++S):Option (List γ))))=some (P++A1++B1++A2++B2++S):=by
   have e:P++X++Y++S=(P++A1)++A2++B1++(B2++S):=by grind
   by_cases c1:r<P.length+X.length
   ·rw[Ac (by omega:(r:Int)<((P.length+X.length:Nat):Int)),Ak,Aa];by_cases c2:P.length+X.length<fin
    ·rw[Ac (by omega:((P.length+X.length:Nat):Int)<(fin:Int)),Ak];have hr:=lT (lt:=LS key) (P++A1) A2 B1 (B2++S) (by grind) (by grind) (by grind);rw[show(P++A1).length=r by rw[AC];omega]at hr
     grind
    rw[Ah (by omega:¬((P.length+X.length:Nat):Int)<(fin:Int)),Ad,e];have:B1=[]:=Bg (by omega);rw[this];simp
   grind
  rw[<-Option.bind_assoc,z,Aa]
  have h1:∃Z1,(((bif decide (((P.length:Nat):Int)<(r:Int))then some (decide<|(r:Int)<(mid:Int))else some false:Option Bool).bind λj4=>
    (bif j4 then((Cg (LS key) n (P++A1++B1++A2++B2++S) (P.length:Nat) (r:Int) (mid:Int)).bind λv12=>some v12)else some (P++A1++B1++A2++B2++S):Option (List γ))))=some (P++Z1++A2++B2++S)/\QA key Z1/\By key (A1++B1) Z1:=by
   by_cases c1:P.length<r/\r<mid
   ·rw[Ac (by omega:((P.length:Nat):Int)<(r:Int)),Ak,Aa,Ac (by omega:(r:Int)<(mid:Int)),Ak];obtain⟨Z,z1,z2,z3⟩:=ih P A1 B1 (A2++B2++S) (by grind) (by intro e;rw[e]at lB1;simp at lB1;omega) sA1 sB1 (by omega) (by grind);rw[show P.length+A1.length=r by omega,show r+B1.length=mid by omega]at z1;refine⟨Z,?_,z2,z3⟩
    grind
   refine⟨A1++B1,?_,?_,By.refl key _⟩
   ·have:((bif decide (((P.length:Nat):Int)<(r:Int))then some (decide<|(r:Int)<(mid:Int))else some false:Option Bool))=some false:=by
     by_cases c:P.length<r
     ·grind
     grind
    grind
   by_cases c:P.length<r
   ·have:B1=[]:=Bg (by omega);rw[this,AW];exact sA1
   have:A1=[]:=Bg (by omega);rw[this,A0];exact sB1
  obtain⟨Z1,a3,a4,m⟩:=h1;rw[<-Option.bind_assoc,a3,Aa];have lZ1:Z1.length=A1.length+B1.length:=by have:=m.len key;grind
  have h2:∃Z2,(bif decide ((mid:Int)<(fin:Int))then(bif decide ((fin:Int)<((P.length+X.length+Y.length:Nat):Int))then((Cg (LS key) n (P++Z1++A2++B2++S) (mid:Int) (fin:Int) ((P.length+X.length+Y.length:Nat):Int)).bind λv13=>some v13)else some<|P++Z1++A2++B2++S)else some (P++Z1++A2++B2++S):Option (List γ))=some (P++Z1++Z2++S)/\QA key Z2/\By key (A2++B2) Z2:=by
   by_cases c1:mid<fin
   ·rw[Ac (by omega:(mid:Int)<(fin:Int)),Ak];by_cases c2:fin<P.length+X.length+Y.length
    ·rw[Ac (by omega:(fin:Int)<((P.length+X.length+Y.length:Nat):Int)),Ak];obtain⟨Z,z1,z2,z3⟩:=ih (P++Z1) A2 B2 S (by intro e;rw[e]at lA2;simp at lA2;omega) (by grind) sA2 sB2 (by omega) (by grind);rw[show(P++Z1).length=mid by rw[AC];omega,show mid+A2.length=fin by omega,show fin+B2.length=P.length+X.length+Y.length by omega]at z1
     grind
    rw[Ah (by omega:¬(fin:Int)<((P.length+X.length+Y.length:Nat):Int)),Ad];have:B2=[]:=Bg (by omega);refine⟨A2++B2,by simp,?_,By.refl key _⟩;rw[this,AW];exact sA2
   rw[Ah (by omega:¬(mid:Int)<(fin:Int)),Ad];have:A2=[]:=Bg (by omega);refine⟨A2++B2,by simp,?_,By.refl key _⟩;rw[this,A0];exact sB2
  obtain⟨Z2,a5,a6,h3⟩:=h2;rw[a5];refine⟨Z1++Z2,by simp,Ba.2 ⟨a4,a6,λu hu v hv=>?_⟩,?_⟩
  ·have hu':=(m.mem key).1 hu;have hv':=(h3.mem key).1 hv
   rcases A7.1 hu' with hu'|hu'<;>rcases A7.1 hv' with hv'|hv'
   ·grind
   ·grind
   ·grind
   grind
  have e1:=EX key (By.refl key A1)<|EX key (By.swap key a2)<|By.refl key B2;have e2:=EX key m h3
  grind [By.trans]
end
section
variable {γ:Type} (key:γ->Int)
inductive Blocks (bs:Nat):List γ->Prop
 |last {l:List γ} (h:l.length<=bs) (hs:QA key l):Blocks bs l
 |cons {X l:List γ} (h:X.length=bs) (hs:QA key X) (hl:Blocks bs l):Blocks bs (X++l)
end
theorem aI (c:γ->Int) (N:Nat) (hN:N<=1073741824) (B:Int×Int×List γ->Option ((Int×Int×List γ)⊕(Int×List γ))) (hB:∀a b l,B (a,b,l)=C0 (LS c) (N:Int) a b l):
  ∀(k:Nat) (P T:List γ),T.length<=k->P.length+T.length=N->
   ∃Q R,Aj B ((P.length:Int),((P.length+20:Nat):Int),P++T)=some (((P.length+Q.length:Nat):Int),P++Q++R)/\By c T (Q++R)/\R.length<20/\(∀R',QA c R'->R'.length=R.length->Blocks c 20 (Q++R')):=by
 intro k
 induction k with
 |zero=>
  intro P T hT hP;have:=Bg<|Nat.le_zero.1 hT;subst this;refine⟨[],[],?_,By.refl c _,by simp,λR' h h2=>?_⟩
  ·grind [Az,C0]
  rw[A0];exact .last (by omega) h
 |succ k ih=>
  intro P T hT hP;by_cases h20:T.length<20
  ·refine⟨[],T,?_,by exact By.refl c _,h20,λR' h h2=>by rw[A0];exact .last (by omega) h⟩;rw[Az,hB];simp_all [C0];grind
  have d:T=T.take 20++T.drop 20:=(Ci _ _).symm;have l1:(T.take 20).length=20:=by simp;omega
  have l2:(T.drop 20).length=T.length-20:=by simp
  obtain⟨X',x1,x2,x3⟩:=Hj c P (T.take 20) (T.drop 20) (by omega);have lX:X'.length=20:=by have:=x3.len c;omega
  rw[l1]at x1;obtain⟨Q,R,q1,q2,q3,q4⟩:=ih (P++X') (T.drop 20) (by omega) (by rw[AC];omega);refine⟨X'++Q,R,?_,?_,q3,λR' h h2=>?_⟩
  ·rw[Az,hB];simp only[C0];rw[Ac (by omega:((P.length+20:Nat):Int)<=(N:Int)),Ak];have e:P++T=P++T.take 20++T.drop 20:=by grind
   rw[e,x1,Aa];simp only;have e2:ad ((P.length+20:Nat):Int) 20=(((P++X').length+20:Nat):Int):=by rw[Ca (by omega) (by omega),AC];omega
   rw[e2,show P.length+20=(P++X').length by rw[AC];omega,q1];simp[S5]
  ·grind [EX]
  rw[BD];exact .cons lX x2<|q4 R' h h2
theorem aH (c:γ->Int) (N bs:Nat) (hN:N<=1073741824) (e:0<bs) (f:bs<N) (B:Int×Int×List γ->Option ((Int×Int×List γ)⊕(Int×List γ))) (hB:∀a b l,B (a,b,l)=CE (LS c) (N:Int) (bs:Int) a b l):
  ∀(k:Nat) (P T:List γ),T.length<=k->P.length+T.length=N->Blocks c bs T->
   ∃Q R,Aj B ((P.length:Int),((P.length+2*bs:Nat):Int),P++T)=some (((P.length+Q.length:Nat):Int),P++Q++R)/\By c T (Q++R)/\R.length<2*bs/\Blocks c bs R/\(∀R',QA c R'->R'.length=R.length->Blocks c (2*bs) (Q++R')):=by
 intro k
 induction k with
 |zero=>
  intro P T hT hP hb;have:=Bg<|Nat.le_zero.1 hT;subst this;refine⟨[],[],?_,By.refl c _,by simp;omega,hb,λR' h h2=>?_⟩
  ·grind [Az,CE]
  rw[A0];exact .last (by omega) h
 |succ k ih=>
  intro P T hT hP hb;by_cases h2:T.length<2*bs
  ·refine⟨[],T,?_,by exact By.refl c _,h2,hb,λR' h h3=>by rw[A0];exact .last (by omega) h⟩;rw[Az,hB];simp only[CE]
   grind
  
  obtain⟨X,Y,T2,rfl,lX,lY,sX,sY,d⟩:∃X Y T2,T=X++Y++T2/\X.length=bs/\Y.length=bs/\QA c X/\QA c Y/\Blocks c bs T2:=by
   cases hb with
   |last h hs=>omega
   | @cons X l h hs hl=>
    cases hl with
    |last h' hs'=>
     simp only[AC]at h2;exact⟨X,l,[],by simp,h,by omega,hs,hs',.last (by simp) List.Pairwise.nil⟩
    | @cons Y l' h' hs' hl'=>grind
  simp only[AC]at hP hT h2;obtain⟨Z,z1,z2,z3⟩:=Tv c ((P++(X++Y++T2)).length+1) P X Y T2 (by grind) (by grind) sX sY (by grind [AC]) (by omega);have lZ:Z.length=2*bs:=by have:=z3.len c;grind
  obtain⟨Q,R,q1,q2,q3,q4,q5⟩:=ih (P++Z) T2 (by omega) (by rw[AC];omega) d;refine⟨Z++Q,R,?_,?_,q3,q4,λR' h h3=>?_⟩
  ·rw[Az,hB];simp only[CE];rw[Ac (by omega:((P.length+2*bs:Nat):Int)<=(N:Int)),Ak];have e1:ad (P.length:Int) (bs:Int)=((P.length+X.length:Nat):Int):=by rw[Ca (by omega)<|by omega];omega
   have e2:((P.length+2*bs:Nat):Int)=((P.length+X.length+Y.length:Nat):Int):=by omega
   have e3:ad ((P.length+2*bs:Nat):Int) (ml 2 (bs:Int))=(((P++Z).length+2*bs:Nat):Int):=by
    rw[MU (by omega) (by omega),Ca (by omega) (by omega),AC];omega
   have e4:P++(X++Y++T2)=P++X++Y++T2:=by simp
   rw[e3,e1,e2,e4];rw[e4]at z1;rw[z1,Aa];simp only;rw[show P.length+X.length+Y.length=(P++Z).length by rw[AC];omega,q1];simp[S5]
  ·have:=EX c z3 q2
   grind
  rw[BD];exact .cons lZ z2<|q5 R' h h3
section
variable (key:γ->Int)
theorem XK (l:List γ) (hN:l.length<=1073741824):∃r,C8 (LS key) l (ln l)=some r/\QA key r/\By key l r:=by
 have rounds:∀(B:Int×List γ->Option ((Int×List γ)⊕(List γ))),(∀b l',B (b,l')=CF (LS key) (l.length:Int) b l')->∀(k bs:Nat) (T:List γ),l.length<=bs+k->0<bs->bs<=2147483648->T.length=l.length->Blocks key bs T->∃r,Aj B ((bs:Int),T)=some r/\QA key r/\By key T r:=by
  intro B hB k
  induction k with
  |zero=>
   intro bs T hk c d hT hb;rw[Az,hB];simp only[CF];rw[Ah (by omega:¬(bs:Int)<(l.length:Int)),Ad];refine⟨T,rfl,?_,By.refl key _⟩
   cases hb with
   |last h hs=>exact hs
   | @cons X l' h hs hl=>
    simp only[AC]at hT;have:l'=[]:=Bg<|by omega
    grind
  |succ k ih=>
   intro bs T hk c d hT hb;by_cases e:bs<l.length
   ·rw[Az,hB];simp only[CF];rw[Ac (by omega:(bs:Int)<(l.length:Int)),Ak];obtain⟨Q,R,q1,q2,q3,q4,q5⟩:=aH key l.length bs hN c e (λs=>CE (LS key) (l.length:Int) (bs:Int) s.1 s.2.1 s.2.2) (λ_ _ _=>rfl) T.length [] T (A8 _) (by simp[hT]) hb;simp only[KI,A0,Jz]at q1;have a:Q.length+R.length=l.length:=by have:=q2.len key;grind
    have e2:ml 2 (bs:Int)=((2*bs:Nat):Int):=by grind [MU]
    have e2':ml (bs:Int) 2=((2*bs:Nat):Int):=by grind [MU]
    rw[e2,e2'];rw[show((0:Nat):Int)=0 from rfl]at q1;rw[q1,Aa];simp only;have em:ad (Q.length:Int) (bs:Int)=((Q.length+bs:Nat):Int):=by grind [Ca]
    rw[em];by_cases hm:Q.length+bs<l.length
    ·rw[Ac (by omega:((Q.length+bs:Nat):Int)<(l.length:Int)),Ak];obtain⟨X,Y,rfl,lX,sX,sY⟩:∃X Y,R=X++Y/\X.length=bs/\QA key X/\QA key Y:=by
      cases q4 with
      |last h hs=>omega
      | @cons X l' h hs hl=>
       refine⟨X,l',rfl,h,hs,?_⟩
       cases hl with
       |last h' hs'=>exact hs'
       | @cons Y l'' h' hs' hl'=>grind
     simp only[AC]at a q3;obtain⟨Z,z1,z2,z3⟩:=Tv key ((Q++(X++Y)).length+1) Q X Y [] (by grind) (by grind) sX sY (by grind) (by grind);have e5:Q++X++Y++ []=Q++(X++Y):=by simp
     rw[e5,AW,lX,show Q.length+bs+Y.length=l.length by omega]at z1;rw[z1,Aa];have lZ:Z.length=(X++Y).length:=(z3.len key).symm;obtain⟨r,r1,r2,r3⟩:=ih (2*bs) (Q++Z) (by omega) (by omega) (by omega) (by grind)<|q5 Z z2 lZ
     grind [By.trans,EX,By.refl]
    rw[Ah (by omega:¬((Q.length+bs:Nat):Int)<(l.length:Int)),Ad];have sR:QA key R:=by
     cases q4 with
     |last h hs=>exact hs
     | @cons X l' h hs hl=>
      simp only[AC]at a;have:l'=[]:=Bg<|by omega
      grind
    obtain⟨r,r1,r2,r3⟩:=ih (2*bs) (Q++R) (by omega) (by omega) (by omega) (by grind)<|q5 R sR rfl
    grind [By.trans]
   grind
 unfold C8;rw[Bu];obtain⟨Q,R,q1,q2,q3,q4⟩:=aI key l.length hN (λs=>C0 (LS key) (l.length:Int) s.1 s.2.1 s.2.2) (λ_ _ _=>rfl) l.length [] l (A8 _) (by simp);simp only[KI,A0,Jz]at q1;rw[show((0:Nat):Int)=0 from rfl,show((20:Nat):Int)=20 from rfl]at q1;rw[q1,Aa];have a:Q.length+R.length=l.length:=by have:=q2.len key;grind
 obtain⟨R',r1,r2,r3⟩:=Hj key Q R [] (by grind);rw[AW,AW,a]at r1;simp only;rw[r1,Aa];have lR:R'.length=R.length:=(r3.len key).symm;obtain⟨r,w1,w2,w3⟩:=rounds (λs=>CF (LS key) (l.length:Int) s.1 s.2) (λ_ _=>rfl) l.length 20 (Q++R') (by omega) (by omega) (by omega) (by grind)<|q4 R' r2 lR
 grind [By.trans,EX,By.refl]
end
end Go.TI
