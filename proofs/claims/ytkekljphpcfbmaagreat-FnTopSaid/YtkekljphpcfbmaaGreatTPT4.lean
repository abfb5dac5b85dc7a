/- What walks of Go code need. No condition. -/
import Derived.Test.YtkekljphpcfbmaaGreatTPT3
import Derived.Laws.BitsLemmas
set_option linter.unusedSimpArgs false
set_option linter.unusedVariables false
namespace Go.TI
open Go
variable {γ:Type} {r:Nat} {b:List γ} {a:List γ} {c:List γ} {lt:γ->γ->Bool} {X:List γ}
def srt (a:γ->Int) (l:List γ):Prop:=l.Pairwise λx y=>a x<=a y
section
variable (key:γ->Int)
def BC (l r:List γ):Prop:=∀k,r.filter (λx=>key x==k)=l.filter (λx=>key x==k)
end
theorem BC.refl (a:γ->Int) (l:List γ):BC a l l:=λ_=>rfl
theorem BC.trans (d:γ->Int) (h:BC d a b) (k:BC d b c):BC d a c:=λx=>(k x).trans<|h x
theorem G0 (e:γ->Int) {d:List γ} (h:BC e a b) (k:BC e c d):BC e (a++c) (b++d):=λx=>by rw[Cl,Cl,h,k]
section
variable (key:γ->Int)
theorem BC.mem {x:γ} (h:BC key a b):x∈b↔x∈a:=by
 have:=h<|key x;have e:x∈b.filter (λy=>key y==key x)↔x∈a.filter (λy=>key y==key x):=by rw[this]
 simpa using e
end
section
variable (key:γ->Int)
theorem BC.nil (h:BC key [] b):b=[]:=by
 cases b with
 |nil=>rfl
 |cons x b=>exact absurd ((h.mem (x:=x)).1 GR)<|by simp
end
theorem BC.swap (c:γ->Int) (h:∀x∈a,∀y∈b,c y<c x):BC c (a++b) (b++a):=by
 intro k
 grind [BI]
theorem Vd (p:γ->Bool):∀l:List γ,l.length=(l.filter p).length+(l.filter λx=>!p x).length
 |[]=>rfl
 |x::l=>by
  have:=Vd p l
  grind
section
variable (key:γ->Int)
theorem BC.len:BC key a b->a.length=b.length:=by
 intro h;have:∀(n:Nat) (a b:List γ),a.length<=n->BC key a b->a.length=b.length:=by
  intro n
  induction n with
  |zero=>grind [BC.nil]
  |succ n ih=>
   intro a b ha h
   cases a with
   |nil=>rw[h.nil]
   |cons x a=>
    have hp:(x::a).length=((x::a).filter λy=>key y==key x).length+((x::a).filter λy=>!(key y==key x)).length:=by
     exact Vd _ _
    have c:b.length=(b.filter λy=>key y==key x).length+(b.filter λy=>!(key y==key x)).length:=by
     exact Vd _ _
    have h1:BC key ((x::a).filter λy=>!(key y==key x)) (b.filter λy=>!(key y==key x)):=by
     intro k;rw[DU,DU];by_cases hk:k=key x
     ·subst hk
      have z:∀l:List γ,l.filter (λy=>(key y==key x)&&!(key y==key x))=[]:=λl=>by simp
      rw[z,z]
     have z:∀l:List γ,l.filter (λy=>(key y==k)&&!(key y==key x))=l.filter (λy=>key y==k):=λl=>by grind
     rw[z,z];exact h k
    have h2:=ih _ _ (by grind) h1;rw[hp,c,h2,h<|key x]
 exact this a.length a b (A0 _) h
end
section
variable (key:γ->Int)
theorem NN:∀{a b:List γ},srt key a->srt key b->BC key a b->a=b
 |[],b,_,_,h=>(h.nil key).symm
 |x::a,[],_,_,h=>by
  have:=h.len key;simp at this
 |x::a,y::b,ha,hb,h=>by
  have c:key x=key y:=by
   have h1:x∈y::b:=(h.mem key).2 GR;have h2:y∈x::a:=(h.mem key).1 GR;have k1:key y<=key x:=by
    rcases Gx.1 h1 with rfl|h1
    ·exact La _
    exact(Cj.1 hb).1 x h1
   have k2:key x<=key y:=by
    rcases Gx.1 h2 with rfl|h2
    ·exact La _
    exact(Cj.1 ha).1 y h2
   omega
  have e:=h<|key x;rw[NH (by simp[c]),NH<|by simp]at e
  injection e with e1 e2
  subst e1;have h':BC key a b:=by
   intro k;have:=h k
   grind
  rw[NN (Cj.1 ha).2 (Cj.1 hb).2 h']
end
theorem b9 (P S:List γ) (x:γ):gi (P++x::S) (P.length:Nat)=some x:=by grind [Aq]
theorem AET (P S:List γ) (x y:γ):si (P++x::S) (P.length:Nat) y=P++y::S:=by
 rw[DL];simp
theorem wE (P M S:List γ) (x y:γ):s5 (P++x::(M++y::S)) (P.length:Nat) ((P.length+1+M.length:Nat):Int)=some (P++y::(M++x::S)):=by
 unfold s5
 grind [b9,AET]
theorem wF (P S:List γ) (x y:γ):s5 (P++x::y::S) ((P.length+1:Nat):Int) (P.length:Nat)=some (P++y::x::S):=by simp_all [s5,gi,si];grind
theorem AAT (P S:List γ) (x y:γ):s5 (P++x::y::S) (P.length:Nat) ((P.length+1:Nat):Int)=some (P++y::x::S):=by
 have:=wE P [] S x y;simpa using this
theorem Qs:∀(X Y P M S:List γ),X.length=Y.length->P.length+X.length+M.length+Y.length+S.length<=1152921504606846976->
  CD lt (P++X++M++Y++S) (P.length:Nat) ((P.length+X.length+M.length:Nat):Int) (X.length:Nat)=some (P++Y++M++X++S):=by
 have d:∀(n:Nat) (X Y P M S:List γ) (a b c i:Nat),X.length=n->Y.length=n->a+i=P.length->b+i=P.length+n+M.length->c=i+n->P.length+n+M.length+n+S.length<=1152921504606846976->
   Ah (λs:Int×List γ=>D7 lt (a:Int) (b:Int) (c:Int) s.1 s.2) ((i:Int),P++X++M++Y++S)=some (P++Y++M++X++S):=by
  intro n
  induction n with
  |zero=>grind [Aw,D7]
  |succ n ih=>
   intro X Y P M S a b c i hX hY h1 h2 h3 hN
   cases X with
   |nil=>simp at hX
   |cons x X=>
   cases Y with
   |nil=>simp at hY
   |cons y Y=>
   simp only[AX]at hX hY;have hs:s5 (P++(x::X)++M++(y::Y)++S) (ad (a:Int) (i:Int)) (ad (b:Int) (i:Int))=some (P++(y::X)++M++(x::Y)++S):=by
    have e1:ad (a:Int) (i:Int)=(P.length:Nat):=by rw[Ch (by omega)<|by omega];omega
    have e2:ad (b:Int) (i:Int)=((P.length+1+(X++M).length:Nat):Int):=by rw[Ch (by omega)<|by omega];grind
    have:=wE P (X++M) (Y++S) x y;rw[e1,e2];simpa using this
   rw[Aw];simp only[D7];rw[Ac (by omega:(i:Int)<c),Ap,hs,Aa,ad1<|by omega];have:=ih X Y (P++ [y]) (M++ [x]) S a b c (i+1) (by omega) (by omega) (by simp;omega) (by simp;omega) (by omega) (by simp;omega);simp only[BR,Ct,Ax,Kl]at this⊢;exact this
 intro X Y P M S e hN;unfold CD;have:=d X.length X Y P M S P.length (P.length+X.length+M.length) X.length 0 rfl e.symm (by omega) (by omega) (by omega)<|by omega
 grind
theorem zO (P A B S:List γ) (hA:A≠ []) (hB:B≠ []) (hN:P.length+A.length+B.length+S.length<=1152921504606846976):
  EW lt (P++A++B++S) (P.length:Nat) ((P.length+A.length:Nat):Int) ((P.length+A.length+B.length:Nat):Int)=some (P++B++A++S):=by
 have g:∀(m:Nat) (Bd:Int×Int×List γ->Option ((Int×Int×List γ)⊕(Int×List γ))) (d:∀i j l,Bd (i,j,l)=EE lt (m:Int) i j l) (k:Nat) (P U V S:List γ),U.length+V.length<=k->U≠ []->V≠ []->P.length+U.length=m->P.length+U.length+V.length+S.length<=1152921504606846976->
   ((
    Ah Bd ((U.length:Int),(V.length:Int),P++U++V++S)).bind λv3=>
    (CD lt v3.2 (sb (m:Int) v3.1) (m:Int) v3.1).bind λv4=>some v4)=some (P++V++U++S):=by
  intro m Bd d k
  induction k with
  |zero=>simp_all
  |succ k ih=>
   intro P U V S hk hU hV hm hN;have lU:=MN.2 hU;have lV:=MN.2 hV;rw[Aw];simp only[d,EE];have c:sb (m:Int) (U.length:Int)=(P.length:Nat):=by grind [BV]
   by_cases f:U.length=V.length
   ·have e:((U.length:Int) !=(V.length:Int))=false:=by simp[f]
    rw[e,Ad];simp only[Aa];rw[c];have:=Qs (lt:=lt) U V P [] S f (by simp;omega);simp_all
   have e:((U.length:Int) !=(V.length:Int))=true:=by simp;omega
   rw[e,Ap];by_cases n:U.length>V.length
   ·rw[Ac (by omega:(U.length:Int)>V.length),Ap,c];have h:U=U.take V.length++U.drop V.length:=(BE _ _).symm;have a:(U.take V.length).length=V.length:=by simp;omega
    have b:(U.drop V.length).length=U.length-V.length:=by simp
    have:=Qs (lt:=lt) (U.take V.length) V P (U.drop V.length) S a (by grind);rw[a,b,show P.length+V.length+(U.length-V.length)=m by omega]at this;have e3:P++U++V++S=P++U.take V.length++U.drop V.length++V++S:=by grind
    have e4:sb (U.length:Int) (V.length:Int)=((U.drop V.length).length:Int):=by rw[BV (by omega) (by omega),b];omega
    have:=ih (P++V) (U.drop V.length) (U.take V.length) S (by grind) (by grind) (by grind) (by grind)<|by grind
    grind
   rw[Ai (by omega:¬(U.length:Int)>V.length),Ad,c];have a:(V.take<|V.length-U.length).length=V.length-U.length:=by simp
   have b:(V.drop<|V.length-U.length).length=U.length:=by simp;omega
   have:=Qs (lt:=lt) U (V.drop<|V.length-U.length) P (V.take<|V.length-U.length) S b.symm (by grind);rw[a]at this;have e2:sb (ad (m:Int) (V.length:Int)) (U.length:Int)=((P.length+U.length+(V.length-U.length):Nat):Int):=by rw[Ch (by omega) (by omega),BV (by omega)<|by omega];omega
   have e3:P++U++V++S=P++U++V.take (V.length-U.length)++V.drop (V.length-U.length)++S:=by simp
   rw[e2,e3,this,Aa];have e4:sb (V.length:Int) (U.length:Int)=((V.take<|V.length-U.length).length:Int):=by rw[BV (by omega) (by omega),a];omega
   have:=ih P (V.drop<|V.length-U.length) (V.take<|V.length-U.length) (U++S) (by grind) (by grind) (by grind) (by rw[b];omega)<|by grind
   grind [BE]
 have h1:sb ((P.length+A.length:Nat):Int) (P.length:Nat)=(A.length:Int):=by grind [BV]
 have h2:sb ((P.length+A.length+B.length:Nat):Int) ((P.length+A.length:Nat):Int)=(B.length:Int):=by grind [BV]
 unfold EW;rw[h1,h2];exact g (P.length+A.length) (λs=>EE lt ((P.length+A.length:Nat):Int) s.1 s.2.1 s.2.2) (λ_ _ _=>rfl) _ P A B S (A0 _) hA hB rfl hN
def NC (a:γ->Int) (x y:γ):Bool:=decide<|a x<a y
theorem AAf (a:γ->Int) (P S:List γ) (y:γ) (B:Int×List γ->Option ((Int×List γ)⊕(List γ))) (hB:∀j l,B (j,l)=AZ (NC a) (P.length:Nat) j l):∀(n:Nat) (U V:List γ),U.length=n->srt a U->P.length+U.length+V.length+S.length<=1152921504606846976->
  ∃U1 U2,U=U1++U2/\Ah B (((P.length+U.length:Nat):Int),P++U++y::(V++S))=some (P++U1++y::(U2++V++S))/\(∀v∈U2,a y<a v)/\∀u∈U1,a u<=a y:=by
 intro n
 induction n with
 |zero=>
  intro U V hU _ hN;have:=Bo hU;simp_all [Aw,AZ];grind
 |succ n ih=>
  intro U V hU hs hN
  rcases GZ U with rfl|⟨U0,z,rfl⟩
  ·simp at hU
  rw[Km]at hU hs hN⊢;simp only[AD,CY]at hU hN;have hl:P.length+(U0++ [z]).length=(P++U0).length+1:=by simp;omega
  have e0:P++(U0++ [z])++y::(V++S)=(P++U0)++z::y::(V++S):=by simp
  have ej:sb (((P++U0).length+1:Nat):Int) 1=((P++U0).length:Nat):=by grind [BV]
  have g1:gi ((P++U0)++z::y::(V++S)) (((P++U0).length+1:Nat):Int)=some y:=by grind [b9]
  have g2:gi2 ((P++U0)++z::y::(V++S)) (((P++U0).length+1:Nat):Int) ((P++U0).length:Nat)=some (y,z):=by grind [b9,gi2]
  by_cases b:a y<a z
  ·obtain⟨U1,U2,h1,h2,h3,h4⟩:=ih U0 (z::V) (by omega) (Bk.1 hs).1 (by grind);refine⟨U1,U2++ [z],by rw[h1];simp,?_,?_,h4⟩
   ·rw[Aw,hB];simp only[AZ];rw[hl,e0,Ac (by grind:(((P++U0).length+1:Nat):Int)>(P.length:Nat)),Ap,ej,g2];simp only[Aa,NC];rw[Ac b,Ap,wF,Aa]
    grind
   grind
  refine⟨U0++ [z],[],by simp,?_,by simp,?_⟩
  ·grind [Aw,AZ,NC]
  intro u hu
  rcases A6.1 hu with hu|hu
  ·have:=(Bk.1 hs).2.2 u hu z (by simp);omega
  grind
section
variable (key:γ->Int)
theorem IH (P X S:List γ) (hN:P.length+X.length+S.length<=1152921504606846976):
  ∃X',BF (NC key) (P++X++S) (P.length:Nat) ((P.length+X.length:Nat):Int)=some (P++X'++S)/\srt key X'/\BC key X X':=by
 have main:∀(b:Nat) (B:Int×List γ->Option ((Int×List γ)⊕(List γ))),(∀i l,B (i,l)=AW (NC key) (P.length:Nat) (b:Int) i l)->∀(n:Nat) (U V:List γ),V.length=n->P.length+U.length+V.length=b->srt key U->b+S.length<=1152921504606846976->
   ∃X',Ah B (((P.length+U.length:Nat):Int),P++U++V++S)=some (P++X'++S)/\srt key X'/\BC key (U++V) X':=by
  intro b B hB n
  induction n with
  |zero=>grind [BC.refl,Aw,AW]
  |succ n ih=>
   intro U V hV hb hs hN
   cases V with
   |nil=>simp at hV
   |cons y V=>
    simp only[AX]at hV hb;obtain⟨U1,U2,h1,h2,h3,h4⟩:=AAf key P (V++S) y (λs=>AZ (NC key) (P.length:Nat) s.1 s.2) (λ_ _=>rfl) U.length U [] rfl hs (by grind);have hs':srt key (U1++y::U2):=by
     rw[h1]at hs;obtain⟨q1,q2,q3⟩:=Bk.1 hs;refine Bk.2 ⟨q1,Cj.2 ⟨λv hv=>Int.le_of_lt<|h3 v hv,q2⟩,λu hu v hv=>?_⟩
     grind
    have hk:BC key (U++ [y]) (U1++y::U2):=by
     rw[h1,BR];have:=BC.swap key (a:=U2) (b:=[y]) (λx hx z hz=>by simp at hz;grind)
     grind [G0,BC.refl]
    have c:(U1++y::U2).length=U.length+1:=by grind
    obtain⟨X',r1,r2,r3⟩:=ih (U1++y::U2) V (by omega) (by rw[c];omega) hs' hN;refine⟨X',?_,r2,?_⟩
    ·rw[Aw,hB];simp only[AW];rw[Ac (by omega:((P.length+U.length:Nat):Int)<(b:Int)),Ap];have e:P++U++y::V++S=P++U++y::([]++(V++S)):=by simp
     rw[e,h2,Aa,ad1<|by omega];simp only;rw[show P.length+U.length+1=P.length+(U1++y::U2).length by rw[c];omega]
     grind
    refine BC.trans key ?_ r3
    grind [G0,BC.refl]
 unfold BF;rw[ad1<|by omega]
 cases X with
 |nil=>
  refine⟨[],?_,List.Pairwise.nil,BC.refl key _⟩
  grind [Aw,AW]
 |cons x X=>
  obtain⟨X',h1,h2,h3⟩:=main (P.length+(x::X).length) (λs=>AW (NC key) (P.length:Nat) ((P.length+(x::X).length:Nat):Int) s.1 s.2) (λ_ _=>rfl) X.length [x] X rfl (by simp;omega) (List.pairwise_singleton _ _)<|by omega
  grind
end
def e9 (i j:Int):Int:=IntKind.i64.wrap<|Int.fdiv (IntKind.u64.wrap<|ad i j)<|2^(min (1:Int).toNat IntKind.u64.bits)
theorem mA (i j:Nat) (h:i+j<=4611686018427387904):e9 (i:Int) (j:Int)=(((i+j)/2:Nat):Int):=by
 unfold e9;rw[Ch (by omega)<|by omega];have e1:IntKind.u64.wrap ((i:Int)+(j:Int))=((i+j:Nat):Int):=by
  have:IntKind.u64.wrap ((i:Int)+(j:Int))=((i:Int)+(j:Int)) %18446744073709551616:=by rfl
  grind
 grind [O8,IntKind.bits]
theorem nG {B:Int×Int->Option ((Int×Int)⊕Int)} (p:Nat->Bool) (lo hi:Nat) (h1:∀i j:Nat,lo<=i->i<j->j<=hi->B ((i:Int),(j:Int))=some (.inl (cond (p ((i+j)/2)) ((((i+j)/2+1:Nat):Int),(j:Int)) ((i:Int),(((i+j)/2:Nat):Int))))) (h2:∀i:Nat,B ((i:Int),(i:Int))=some (.inr (i:Int))):
  ∀(n i j:Nat),j-i<=n->lo<=i->i<=j->j<=hi->(lo<i->p (i-1)=true)->(j<hi->p j=false)->∃r:Nat,Ah B ((i:Int),(j:Int))=some (r:Int)/\lo<=r/\r<=hi/\(lo<r->p (r-1)=true)/\(r<hi->p r=false):=by
 intro n
 induction n with
 |zero=>
  intro i j hn hl a hh k1 k2;have:i=j:=by omega
  simp_all [Aw];grind
 |succ n ih=>
  intro i j hn hl a hh k1 k2;by_cases he:i=j
  ·subst he;exact⟨i,by rw[Aw,h2],hl,hh,k1,k2⟩
  rw[Aw,h1 i j hl (by omega) hh]
  cases hp:p ((i+j)/2)with
  |true=>
   exact ih ((i+j)/2+1) j (by omega) (by omega) (by omega) hh (λ_=>by grind) k2
  |false=>
   exact ih i ((i+j)/2) (by omega) hl (by omega) (by omega) k1 λ_=>hp
theorem m7 (P X T:List γ) (k:Nat) (hk:k<X.length):gi (P++X++T) ((P.length+k:Nat):Int)=some X[k]:=by
 rw[Aq,BR,Ds (by omega),Nat.add_sub_cancel_left,Mg hk,Ab hk]
theorem VJ (a:γ->Int) (h:srt a X) (h0:0<r) (hr:r<=X.length):∀u∈X.take r,a u<=a (X[r-1]'(by omega)):=by
 intro u hu;obtain⟨i,hi,e⟩:=Ay hu;rw[List.getElem_take]at e;simp only[Fe]at hi;rw[<-e];by_cases b:i=r-1
 ·grind
 exact C1.1 h i (r-1) (by omega) (by omega)<|by omega
theorem VK (a:γ->Int) (h:srt a X) (hr:r<X.length):∀v∈X.drop r,a X[r]<=a v:=by
 intro v hv;obtain⟨i,hi,e⟩:=Ay hv;rw[List.getElem_drop]at e;simp only[Qk]at hi;rw[<-e];by_cases b:i=0
 ·subst b;simp
 exact C1.1 h r (r+i) (by omega) (by omega)<|by omega
theorem ABj (a:γ->Int) (S:List γ) (x:γ) (v2:Nat) (B:Int×List γ->Option ((Int×List γ)⊕(List γ))) (hB:∀k l,B (k,l)=Df (NC a) (v2:Int) k l):∀(Y P:List γ),P.length+Y.length+1=v2->v2<=1152921504606846976->
  Ah B ((P.length:Int),P++x::(Y++S))=some (P++Y++x::S):=by
 intro Y
 induction Y with
 |nil=>grind [Aw,BV,Df]
 |cons y Y ih=>
  intro P h hN;simp only[AX]at h;rw[Aw,hB];simp only[Df];rw[BV (by omega) (by omega),Ac (by omega:(P.length:Int)<(v2:Int)-1),Ap,ad1 (by omega),Ct,AAT,Aa];simp only;have:=ih (P++ [y]) (by simp;omega) hN;simp_all
theorem ADF (a:γ->Int) (P S:List γ) (y:γ) (B:Int×List γ->Option ((Int×List γ)⊕(List γ))) (hB:∀k l,B (k,l)=De (NC a) (P.length:Int) k l):∀(n:Nat) (X S:List γ),X.length=n->P.length+X.length<=1152921504606846976->
  Ah B (((P.length+X.length:Nat):Int),P++X++y::S)=some (P++y::(X++S)):=by
 intro n
 induction n with
 |zero=>grind [Aw,De]
 |succ n ih=>
  intro X S hX hN
  rcases GZ X with rfl|⟨X0,z,rfl⟩
  ·simp at hX
  rw[Km]at hX hN⊢;simp only[AD,CY]at hX hN;have hl:P.length+(X0++ [z]).length=(P++X0).length+1:=by simp;omega
  have e0:P++(X0++ [z])++y::S=(P++X0)++z::y::S:=by simp
  have ej:sb (((P++X0).length+1:Nat):Int) 1=((P++X0).length:Nat):=by grind [BV]
  rw[Aw,hB];simp only[De];rw[hl,e0,Ac (by grind:(((P++X0).length+1:Nat):Int)>(P.length:Int)),Ap,ej,wF,Aa];simp_all;grind
section
variable (key:γ->Int)
set_option maxHeartbeats 1000000 in
theorem XG:∀(n:Nat) (P X Y S:List γ),X≠ []->Y≠ []->srt key X->srt key Y->X.length+Y.length<=n->P.length+X.length+Y.length+S.length<=1152921504606846976->
  ∃Z,Cw (NC key) n (P++X++Y++S) (P.length:Nat) ((P.length+X.length:Nat):Int) ((P.length+X.length+Y.length:Nat):Int)=some (P++Z++S)/\srt key Z/\BC key (X++Y) Z:=by
 intro n
 induction n with
 |zero=>simp_all
 |succ n ih=>
  intro P X Y S hX hY sX sY hn hN;have lX:=MN.2 hX;have lY:=MN.2 hY;have eXA:sb ((P.length+X.length:Nat):Int) (P.length:Nat)=(X.length:Int):=by grind [BV]
  have eYB:sb ((P.length+X.length+Y.length:Nat):Int) ((P.length+X.length:Nat):Int)=(Y.length:Int):=by grind [BV]
  rw[Cw,eXA,eYB];by_cases h5:X.length=1
  ·obtain⟨x,rfl⟩:=List.length_eq_one_iff.1 h5;have:(((([x]:List γ).length:Nat):Int)==1)=true:=rfl;simp only[CY]at hn hN⊢;obtain⟨r,r1,r2,r3,r4,r5⟩:=nG (B:=λs:Int×Int=>DS (NC key) (P++ [x]++Y++S) (P.length:Nat) s.1 s.2) (λc=>match Y[c-(P.length+1)]? with|some y=>decide (key y<key x)|none=>false) (P.length+1) (P.length+1+Y.length)
    (λi j hi o hj=>by
     simp only[DS];rw[Ac (by omega:(i:Int)<j),Ap];have hm:e9 (i:Int) (j:Int)=(((i+j)/2:Nat):Int):=mA i j (by omega);unfold e9 at hm;rw[hm];have hk:(i+j)/2-(P.length+1)<Y.length:=by omega
     have g1:gi (P++ [x]++Y++S) (((i+j)/2:Nat):Int)=some Y[(i+j)/2-(P.length+1)]:=by
      have:=m7 (P++ [x]) Y S ((i+j)/2-(P.length+1)) hk
      grind
     grind [b9,ad1,gi2,NC])
    (λi=>by grind [DS])
    (Y.length) (P.length+1) (P.length+1+Y.length) (by omega) (A0 _) (by omega) (A0 _) (λh=>absurd h<|by omega) (λh=>absurd h<|by omega)
   rw[r1,Aa];have k:Y.take (r-(P.length+1))++Y.drop (r-(P.length+1))=Y:=BE _ _;have a8:(Y.take<|r-(P.length+1)).length=r-(P.length+1):=by simp;omega
   have a9:∀y∈Y.take (r-(P.length+1)),key y<key x:=by
    intro y hy;have h0:0<r-(P.length+1):=by grind
    have:=VJ key sY h0 (by omega) y hy;have hp:=r4 (by omega);rw[show r-1-(P.length+1)=r-(P.length+1)-1 by omega,Ab<|by omega]at hp
    grind
   have h6:∀y∈Y.drop (r-(P.length+1)),key x<=key y:=by
    intro y hy;have h0:r-(P.length+1)<Y.length:=by grind
    grind [VK]
   have hm:=ABj key (Y.drop (r-(P.length+1))++S) x r (λs=>Df (NC key) (r:Int) s.1 s.2) (λ_ _=>rfl) (Y.take<|r-(P.length+1)) P (by omega) (by omega);have e:P++ [x]++Y++S=P++x::(Y.take (r-(P.length+1))++(Y.drop (r-(P.length+1))++S)):=by grind
   rw[e,hm,Aa];refine⟨Y.take (r-(P.length+1))++x::Y.drop (r-(P.length+1)),by simp,?_,?_⟩
   ·have sY':=sY;rw[<-k]at sY';obtain⟨q1,q2,q3⟩:=Bk.1 sY';refine Bk.2 ⟨q1,Cj.2 ⟨h6,q2⟩,λu hu v hv=>?_⟩
    grind
   have:=BC.swap key (a:=[x]) (b:=Y.take<|r-(P.length+1)) (λu hu y hy=>by simp at hu;grind);have:=G0 key this<|BC.refl key<|Y.drop<|r-(P.length+1)
   grind
  have:((X.length:Int)==1)=false:=by grind
  rw[this,Ad];by_cases k:Y.length=1
  ·obtain⟨y,rfl⟩:=List.length_eq_one_iff.1 k;have:(((([y]:List γ).length:Nat):Int)==1)=true:=rfl;have gY:gi (P++X++ [y]++S) ((P.length+X.length:Nat):Int)=some y:=by grind [b9]
   obtain⟨r,r1,r2,r3,r4,r5⟩:=nG (B:=λs:Int×Int=>DR (NC key) (P++X++ [y]++S) ((P.length+X.length:Nat):Int) s.1 s.2) (λc=>match X[c-P.length]? with|some x=>!decide (key y<key x)|none=>false) P.length (P.length+X.length)
    (λi j hi o hj=>by
     simp only[DR];rw[Ac (by omega:(i:Int)<j),Ap];have hm:e9 (i:Int) (j:Int)=(((i+j)/2:Nat):Int):=mA i j (by omega);unfold e9 at hm;rw[hm];have hk:(i+j)/2-P.length<X.length:=by omega
     have g1:gi (P++X++ [y]++S) (((i+j)/2:Nat):Int)=some X[(i+j)/2-P.length]:=by
      have:=m7 P X ([y]++S) ((i+j)/2-P.length) hk
      grind
     grind [ad1,gi2,NC])
    (λi=>by grind [DR])
    (X.length) P.length (P.length+X.length) (by omega) (A0 _) (by omega) (A0 _) (λh=>absurd h<|by omega) (λh=>absurd h<|by omega)
   rw[r1,Aa];have hX1':X.take (r-P.length)++X.drop (r-P.length)=X:=BE _ _;have h7:(X.drop<|r-P.length).length=X.length-(r-P.length):=by simp
   have b0:∀x∈X.take (r-P.length),key x<=key y:=by
    intro x hx;have h0:0<r-P.length:=by grind
    have:=VJ key sX h0 (by omega) x hx;have hp:=r4 (by omega);rw[show r-1-P.length=r-P.length-1 by omega,Ab<|by omega]at hp
    grind
   have p:∀x∈X.drop (r-P.length),key y<key x:=by
    intro x hx;have h0:r-P.length<X.length:=by grind
    grind [VK]
   have q:(P++X.take (r-P.length)).length=r:=by grind
   have hm:=ADF key (P++X.take (r-P.length)) S y (λs=>De (NC key) (r:Int) s.1 s.2) (λ_ _=>by rw[q]) (X.drop<|r-P.length).length (X.drop<|r-P.length) S rfl (by grind);have e:P++X++ [y]++S=P++X.take (r-P.length)++X.drop (r-P.length)++y::S:=by simp
   rw[q,h7,show r+(X.length-(r-P.length))=P.length+X.length by omega]at hm;rw[e,hm,Aa];refine⟨X.take (r-P.length)++y::X.drop (r-P.length),by simp,?_,?_⟩
   ·have sX':=sX;rw[<-hX1']at sX';obtain⟨q1,q2,q3⟩:=Bk.1 sX';refine Bk.2 ⟨q1,Cj.2 ⟨λv hv=>Int.le_of_lt<|p v hv,q2⟩,λu hu v hv=>?_⟩
    grind
   have:=BC.swap key (a:=X.drop<|r-P.length) (b:=[y]) (λu hu v hv=>by simp at hv;grind)
   grind [G0,BC.refl]
  have:((Y.length:Int)==1)=false:=by grind
  rw[this,Ad];have f:e9 (P.length:Nat) ((P.length+X.length+Y.length:Nat):Int)=(((P.length+(P.length+X.length+Y.length))/2:Nat):Int):=mA _ _ (by omega);unfold e9 at f;rw[f];obtain⟨mid,t⟩:∃mid,mid=(P.length+(P.length+X.length+Y.length))/2:=⟨_,rfl⟩;rw[<-t];have en:ad (mid:Int) ((P.length+X.length:Nat):Int)=((mid+(P.length+X.length):Nat):Int):=by grind [Ch]
  rw[en];obtain⟨lo,hi,h8,b1,b2,l,h4⟩:∃lo hi:Nat,((cond (decide<|((P.length+X.length:Nat):Int)>(mid:Int)) (some (sb ((mid+(P.length+X.length):Nat):Int) ((P.length+X.length+Y.length:Nat):Int),(mid:Int))) (some (((P.length:Nat):Int),((P.length+X.length:Nat):Int))):Option (Int×Int))=some ((lo:Int),(hi:Int)))/\
    P.length<=lo/\hi<=P.length+X.length/\lo<=hi/\(P.length+X.length>mid/\lo=mid+(P.length+X.length)-(P.length+X.length+Y.length)/\hi=mid\/P.length+X.length<=mid/\lo=P.length/\hi=P.length+X.length):=by
   by_cases p:P.length+X.length>mid
   ·rw[Ac (by omega),Ap,BV (by omega)<|by omega]
    grind
   exact⟨P.length,P.length+X.length,by grind,by omega,by omega,by omega,.inr ⟨by omega,rfl,rfl⟩⟩
  rw[h8,Aa];simp only;have h9:sb ((mid+(P.length+X.length):Nat):Int) 1=((mid+(P.length+X.length)-1:Nat):Int):=by grind [BV]
  obtain⟨r,r1,r2,r3,r4,r5⟩:=nG (B:=λs:Int×Int=>DQ (NC key) (P++X++Y++S) (P.length:Nat) ((P.length+X.length:Nat):Int) ((P.length+X.length+Y.length:Nat):Int) s.1 s.2)
   (λc=>match Y[mid+(P.length+X.length)-1-c-(P.length+X.length)]?,X[c-P.length]? with|some y,some x=>!decide (key y<key x)|_,_=>false) lo hi
   (λi j hi' o hj=>by
    simp only[DQ];rw[Ac (by omega:(i:Int)<j),Ap,f,<-t,en,h9];have hm:e9 (i:Int) (j:Int)=(((i+j)/2:Nat):Int):=mA i j (by omega);unfold e9 at hm;rw[hm];have hk:(i+j)/2-P.length<X.length:=by omega
    have d:mid+(P.length+X.length)-1-(i+j)/2-(P.length+X.length)<Y.length:=by omega
    have g1:gi (P++X++Y++S) (((i+j)/2:Nat):Int)=some X[(i+j)/2-P.length]:=by
     have:=m7 P X (Y++S) ((i+j)/2-P.length) hk
     grind
    have es:sb ((mid+(P.length+X.length)-1:Nat):Int) (((i+j)/2:Nat):Int)=(((P++X).length+(mid+(P.length+X.length)-1-(i+j)/2-(P.length+X.length)):Nat):Int):=by grind [BV]
    have g2:gi (P++X++Y++S) (((P++X).length+(mid+(P.length+X.length)-1-(i+j)/2-(P.length+X.length)):Nat):Int)=some Y[mid+(P.length+X.length)-1-(i+j)/2-(P.length+X.length)]:=m7 (P++X) Y S _ d;unfold gi2;rw[es,g2,Aa,g1,Aa,Aa,Ab hk,Ab d]
    grind [ad1,NC])
   (λi=>by grind [DQ])
   (hi-lo) lo hi (A0 _) (A0 _) l (A0 _) (λh=>absurd h<|by omega) (λh=>absurd h<|by omega)
  rw[r1,Aa];obtain⟨fin,a7⟩:∃fin,fin=mid+(P.length+X.length)-r:=⟨_,rfl⟩;have w:sb ((mid+(P.length+X.length):Nat):Int) (r:Int)=(fin:Int):=by rw[BV (by omega)<|by omega];omega
  simp only[w];have b3:P.length+X.length<=fin/\fin<=P.length+X.length+Y.length:=by omega
  obtain⟨A1,A2,hA⟩:∃A1 A2,A1=X.take (r-P.length)/\A2=X.drop (r-P.length):=⟨_,_,rfl,rfl⟩;obtain⟨B1,B2,hB⟩:∃B1 B2,B1=Y.take (fin-(P.length+X.length))/\B2=Y.drop (fin-(P.length+X.length)):=⟨_,_,rfl,rfl⟩;have a0:A1++A2=X:=by rw[hA.1,hA.2];simp
  have a1:B1++B2=Y:=by rw[hB.1,hB.2];simp
  have lA1:A1.length=r-P.length:=by rw[hA.1];simp;omega
  have lA2:A2.length=P.length+X.length-r:=by grind
  have lB1:B1.length=fin-(P.length+X.length):=by rw[hB.1];simp;omega
  have lB2:B2.length=P.length+X.length+Y.length-fin:=by grind
  have sX':=sX;rw[<-a0]at sX';obtain⟨sA1,sA2,sA⟩:=Bk.1 sX';have sY':=sY;rw[<-a1]at sY';obtain⟨sB1,sB2,sB⟩:=Bk.1 sY';have b4:∀u∈A1,∀v∈B2,key u<=key v:=by
   intro u hu v hv;have l1:=OC hu;have l2:=OC hv;have hp:=r4 (by omega);have d:mid+(P.length+X.length)-1-(r-1)-(P.length+X.length)<Y.length:=by omega
   have g:r-1-P.length<X.length:=by omega
   rw[Ab d,Ab g]at hp;simp only[CH,decide_eq_false_iff_not]at hp;rw[hA.1]at hu;have k1:=VJ key sX (r:=r-P.length) (by omega) (by omega) u hu;rw[hB.2]at hv;have k2:=VK key sY (r:=fin-(P.length+X.length)) (by omega) v hv;have i1:X[r-P.length-1]'(by omega)=X[r-1-P.length]'g:=by congr 1;omega
   have i2:Y[fin-(P.length+X.length)]'(by omega)=Y[mid+(P.length+X.length)-1-(r-1)-(P.length+X.length)]'d:=by congr 1;omega
   grind
  have a2:∀x∈A2,∀y∈B1,key y<key x:=by
   intro x hx y hy;have l1:=OC hx;have l2:=OC hy;have hp:=r5 (by omega);have d:mid+(P.length+X.length)-1-r-(P.length+X.length)<Y.length:=by omega
   have g:r-P.length<X.length:=by omega
   rw[Ab d,Ab g]at hp;simp only[Bool.not_eq_false',Bm]at hp;rw[hA.2]at hx;have k1:=VK key sX g x hx;rw[hB.1]at hy;have k2:=VJ key sY (r:=fin-(P.length+X.length)) (by omega) (by omega) y hy;have i2:Y[fin-(P.length+X.length)-1]'(by omega)=Y[mid+(P.length+X.length)-1-r-(P.length+X.length)]'d:=by congr 1;omega
   grind
  have z:(((bif decide ((r:Int)<((P.length+X.length:Nat):Int))then some (decide<|((P.length+X.length:Nat):Int)<(fin:Int))else some false:Option Bool).bind λj2=>
    (bif j2 then((EW (NC key) (P++X++Y++S) (r:Int) ((P.length+X.length:Nat):Int) (fin:Int)).bind λv11=>some v11)else some (P++X++Y++S):Option (List γ))))=some (P++A1++B1++A2++B2++S):=by
   have e:P++X++Y++S=(P++A1)++A2++B1++(B2++S):=by grind
   by_cases c1:r<P.length+X.length
   ·rw[Ac (by omega:(r:Int)<((P.length+X.length:Nat):Int)),Ap,Aa];by_cases c2:P.length+X.length<fin
    ·rw[Ac (by omega:((P.length+X.length:Nat):Int)<(fin:Int)),Ap];have hr:=zO (lt:=NC key) (P++A1) A2 B1 (B2++S) (by grind) (by grind) (by grind);rw[show(P++A1).length=r by rw[AD];omega]at hr
     grind
    rw[Ai (by omega:¬((P.length+X.length:Nat):Int)<(fin:Int)),Ad,e];have:B1=[]:=Bo (by omega);rw[this];simp
   grind
  rw[<-Option.bind_assoc,z,Aa]
  have h1:∃Z1,(((bif decide (((P.length:Nat):Int)<(r:Int))then some (decide<|(r:Int)<(mid:Int))else some false:Option Bool).bind λj4=>
    (bif j4 then((Cw (NC key) n (P++A1++B1++A2++B2++S) (P.length:Nat) (r:Int) (mid:Int)).bind λv12=>some v12)else some (P++A1++B1++A2++B2++S):Option (List γ))))=some (P++Z1++A2++B2++S)/\srt key Z1/\BC key (A1++B1) Z1:=by
   by_cases c1:P.length<r/\r<mid
   ·rw[Ac (by omega:((P.length:Nat):Int)<(r:Int)),Ap,Aa,Ac (by omega:(r:Int)<(mid:Int)),Ap];obtain⟨Z,z1,z2,z3⟩:=ih P A1 B1 (A2++B2++S) (by grind) (by intro e;rw[e]at lB1;simp at lB1;omega) sA1 sB1 (by omega) (by grind);rw[show P.length+A1.length=r by omega,show r+B1.length=mid by omega]at z1;refine⟨Z,?_,z2,z3⟩
    grind
   refine⟨A1++B1,?_,?_,BC.refl key _⟩
   ·have:((bif decide (((P.length:Nat):Int)<(r:Int))then some (decide<|(r:Int)<(mid:Int))else some false:Option Bool))=some false:=by
     by_cases c:P.length<r
     ·grind
     grind
    grind
   by_cases c:P.length<r
   ·have:B1=[]:=Bo (by omega);rw[this,AU];exact sA1
   have:A1=[]:=Bo (by omega);rw[this,Ax];exact sB1
  obtain⟨Z1,a3,a4,m⟩:=h1;rw[<-Option.bind_assoc,a3,Aa];have lZ1:Z1.length=A1.length+B1.length:=by have:=m.len key;grind
  have h2:∃Z2,(bif decide ((mid:Int)<(fin:Int))then(bif decide ((fin:Int)<((P.length+X.length+Y.length:Nat):Int))then((Cw (NC key) n (P++Z1++A2++B2++S) (mid:Int) (fin:Int) ((P.length+X.length+Y.length:Nat):Int)).bind λv13=>some v13)else some<|P++Z1++A2++B2++S)else some (P++Z1++A2++B2++S):Option (List γ))=some (P++Z1++Z2++S)/\srt key Z2/\BC key (A2++B2) Z2:=by
   by_cases c1:mid<fin
   ·rw[Ac (by omega:(mid:Int)<(fin:Int)),Ap];by_cases c2:fin<P.length+X.length+Y.length
    ·rw[Ac (by omega:(fin:Int)<((P.length+X.length+Y.length:Nat):Int)),Ap];obtain⟨Z,z1,z2,z3⟩:=ih (P++Z1) A2 B2 S (by intro e;rw[e]at lA2;simp at lA2;omega) (by grind) sA2 sB2 (by omega) (by grind);rw[show(P++Z1).length=mid by rw[AD];omega,show mid+A2.length=fin by omega,show fin+B2.length=P.length+X.length+Y.length by omega]at z1
     grind
    rw[Ai (by omega:¬(fin:Int)<((P.length+X.length+Y.length:Nat):Int)),Ad];have:B2=[]:=Bo (by omega);refine⟨A2++B2,by simp,?_,BC.refl key _⟩;rw[this,AU];exact sA2
   rw[Ai (by omega:¬(mid:Int)<(fin:Int)),Ad];have:A2=[]:=Bo (by omega);refine⟨A2++B2,by simp,?_,BC.refl key _⟩;rw[this,Ax];exact sB2
  obtain⟨Z2,a5,a6,h3⟩:=h2;rw[a5];refine⟨Z1++Z2,by simp,Bk.2 ⟨a4,a6,λu hu v hv=>?_⟩,?_⟩
  ·have hu':=(m.mem key).1 hu;have hv':=(h3.mem key).1 hv
   rcases A6.1 hu' with hu'|hu'<;>rcases A6.1 hv' with hv'|hv'
   ·grind
   ·grind
   ·grind
   grind
  have e1:=G0 key (BC.refl key A1)<|G0 key (BC.swap key a2)<|BC.refl key B2;have e2:=G0 key m h3
  grind [BC.trans]
end
section
variable {γ:Type} (key:γ->Int)
inductive Blocks (bs:Nat):List γ->Prop
 |last {l:List γ} (h:l.length<=bs) (hs:srt key l):Blocks bs l
 |cons {X l:List γ} (h:X.length=bs) (hs:srt key X) (hl:Blocks bs l):Blocks bs (X++l)
end
theorem nI (c:γ->Int) (N:Nat) (hN:N<=1073741824) (B:Int×Int×List γ->Option ((Int×Int×List γ)⊕(Int×List γ))) (hB:∀a b l,B (a,b,l)=CE (NC c) (N:Int) a b l):
  ∀(k:Nat) (P T:List γ),T.length<=k->P.length+T.length=N->
   ∃Q R,Ah B ((P.length:Int),((P.length+20:Nat):Int),P++T)=some (((P.length+Q.length:Nat):Int),P++Q++R)/\BC c T (Q++R)/\R.length<20/\(∀R',srt c R'->R'.length=R.length->Blocks c 20 (Q++R')):=by
 intro k
 induction k with
 |zero=>
  intro P T hT hP;have:=Bo<|Nat.le_zero.1 hT;subst this;refine⟨[],[],?_,BC.refl c _,by simp,λR' h h2=>?_⟩
  ·grind [Aw,CE]
  rw[Ax];exact .last (by omega) h
 |succ k ih=>
  intro P T hT hP;by_cases h20:T.length<20
  ·refine⟨[],T,?_,by exact BC.refl c _,h20,λR' h h2=>by rw[Ax];exact .last (by omega) h⟩;rw[Aw,hB];simp_all [CE];grind
  have d:T=T.take 20++T.drop 20:=(BE _ _).symm;have l1:(T.take 20).length=20:=by simp;omega
  have l2:(T.drop 20).length=T.length-20:=by simp
  obtain⟨X',x1,x2,x3⟩:=IH c P (T.take 20) (T.drop 20) (by omega);have lX:X'.length=20:=by have:=x3.len c;omega
  rw[l1]at x1;obtain⟨Q,R,q1,q2,q3,q4⟩:=ih (P++X') (T.drop 20) (by omega) (by rw[AD];omega);refine⟨X'++Q,R,?_,?_,q3,λR' h h2=>?_⟩
  ·rw[Aw,hB];simp only[CE];rw[Ac (by omega:((P.length+20:Nat):Int)<=(N:Int)),Ap];have e:P++T=P++T.take 20++T.drop 20:=by grind
   rw[e,x1,Aa];simp only;have e2:ad ((P.length+20:Nat):Int) 20=(((P++X').length+20:Nat):Int):=by rw[Ch (by omega) (by omega),AD];omega
   rw[e2,show P.length+20=(P++X').length by rw[AD];omega,q1];simp[WK]
  ·grind [G0]
  rw[BR];exact .cons lX x2<|q4 R' h h2
theorem nH (c:γ->Int) (N bs:Nat) (hN:N<=1073741824) (e:0<bs) (f:bs<N) (B:Int×Int×List γ->Option ((Int×Int×List γ)⊕(Int×List γ))) (hB:∀a b l,B (a,b,l)=CZ (NC c) (N:Int) (bs:Int) a b l):
  ∀(k:Nat) (P T:List γ),T.length<=k->P.length+T.length=N->Blocks c bs T->
   ∃Q R,Ah B ((P.length:Int),((P.length+2*bs:Nat):Int),P++T)=some (((P.length+Q.length:Nat):Int),P++Q++R)/\BC c T (Q++R)/\R.length<2*bs/\Blocks c bs R/\(∀R',srt c R'->R'.length=R.length->Blocks c (2*bs) (Q++R')):=by
 intro k
 induction k with
 |zero=>
  intro P T hT hP hb;have:=Bo<|Nat.le_zero.1 hT;subst this;refine⟨[],[],?_,BC.refl c _,by simp;omega,hb,λR' h h2=>?_⟩
  ·grind [Aw,CZ]
  rw[Ax];exact .last (by omega) h
 |succ k ih=>
  intro P T hT hP hb;by_cases h2:T.length<2*bs
  ·refine⟨[],T,?_,by exact BC.refl c _,h2,hb,λR' h h3=>by rw[Ax];exact .last (by omega) h⟩;rw[Aw,hB];simp only[CZ]
   grind
  
  obtain⟨X,Y,T2,rfl,lX,lY,sX,sY,d⟩:∃X Y T2,T=X++Y++T2/\X.length=bs/\Y.length=bs/\srt c X/\srt c Y/\Blocks c bs T2:=by
   cases hb with
   |last h hs=>omega
   | @cons X l h hs hl=>
    cases hl with
    |last h' hs'=>
     simp only[AD]at h2;exact⟨X,l,[],by simp,h,by omega,hs,hs',.last (by simp) List.Pairwise.nil⟩
    | @cons Y l' h' hs' hl'=>grind
  simp only[AD]at hP hT h2;obtain⟨Z,z1,z2,z3⟩:=XG c ((P++(X++Y++T2)).length+1) P X Y T2 (by grind) (by grind) sX sY (by grind [AD]) (by omega);have lZ:Z.length=2*bs:=by have:=z3.len c;grind
  obtain⟨Q,R,q1,q2,q3,q4,q5⟩:=ih (P++Z) T2 (by omega) (by rw[AD];omega) d;refine⟨Z++Q,R,?_,?_,q3,q4,λR' h h3=>?_⟩
  ·rw[Aw,hB];simp only[CZ];rw[Ac (by omega:((P.length+2*bs:Nat):Int)<=(N:Int)),Ap];have e1:ad (P.length:Int) (bs:Int)=((P.length+X.length:Nat):Int):=by rw[Ch (by omega)<|by omega];omega
   have e2:((P.length+2*bs:Nat):Int)=((P.length+X.length+Y.length:Nat):Int):=by omega
   have e3:ad ((P.length+2*bs:Nat):Int) (ml 2 (bs:Int))=(((P++Z).length+2*bs:Nat):Int):=by
    rw[PP (by omega) (by omega),Ch (by omega) (by omega),AD];omega
   have e4:P++(X++Y++T2)=P++X++Y++T2:=by simp
   rw[e3,e1,e2,e4];rw[e4]at z1;rw[z1,Aa];simp only;rw[show P.length+X.length+Y.length=(P++Z).length by rw[AD];omega,q1];simp[WK]
  ·have:=G0 c z3 q2
   grind
  rw[BR];exact .cons lZ z2<|q5 R' h h3
section
variable (key:γ->Int)
theorem gM (l:List γ) (hN:l.length<=1073741824):∃r,CS (NC key) l (ln l)=some r/\srt key r/\BC key l r:=by
 have rounds:∀(B:Int×List γ->Option ((Int×List γ)⊕(List γ))),(∀b l',B (b,l')=Da (NC key) (l.length:Int) b l')->∀(k bs:Nat) (T:List γ),l.length<=bs+k->0<bs->bs<=2147483648->T.length=l.length->Blocks key bs T->∃r,Ah B ((bs:Int),T)=some r/\srt key r/\BC key T r:=by
  intro B hB k
  induction k with
  |zero=>
   intro bs T hk c d hT hb;rw[Aw,hB];simp only[Da];rw[Ai (by omega:¬(bs:Int)<(l.length:Int)),Ad];refine⟨T,rfl,?_,BC.refl key _⟩
   cases hb with
   |last h hs=>exact hs
   | @cons X l' h hs hl=>
    simp only[AD]at hT;have:l'=[]:=Bo<|by omega
    grind
  |succ k ih=>
   intro bs T hk c d hT hb;by_cases e:bs<l.length
   ·rw[Aw,hB];simp only[Da];rw[Ac (by omega:(bs:Int)<(l.length:Int)),Ap];obtain⟨Q,R,q1,q2,q3,q4,q5⟩:=nH key l.length bs hN c e (λs=>CZ (NC key) (l.length:Int) (bs:Int) s.1 s.2.1 s.2.2) (λ_ _ _=>rfl) T.length [] T (A0 _) (by simp[hT]) hb;simp only[Nf,Ax,LI]at q1;have a:Q.length+R.length=l.length:=by have:=q2.len key;grind
    have e2:ml 2 (bs:Int)=((2*bs:Nat):Int):=by grind [PP]
    have e2':ml (bs:Int) 2=((2*bs:Nat):Int):=by grind [PP]
    rw[e2,e2'];rw[show((0:Nat):Int)=0 from rfl]at q1;rw[q1,Aa];simp only;have em:ad (Q.length:Int) (bs:Int)=((Q.length+bs:Nat):Int):=by grind [Ch]
    rw[em];by_cases hm:Q.length+bs<l.length
    ·rw[Ac (by omega:((Q.length+bs:Nat):Int)<(l.length:Int)),Ap];obtain⟨X,Y,rfl,lX,sX,sY⟩:∃X Y,R=X++Y/\X.length=bs/\srt key X/\srt key Y:=by
      cases q4 with
      |last h hs=>omega
      | @cons X l' h hs hl=>
       refine⟨X,l',rfl,h,hs,?_⟩
       cases hl with
       |last h' hs'=>exact hs'
       | @cons Y l'' h' hs' hl'=>grind
     simp only[AD]at a q3;obtain⟨Z,z1,z2,z3⟩:=XG key ((Q++(X++Y)).length+1) Q X Y [] (by grind) (by grind) sX sY (by grind) (by grind);have e5:Q++X++Y++ []=Q++(X++Y):=by simp
     rw[e5,AU,lX,show Q.length+bs+Y.length=l.length by omega]at z1;rw[z1,Aa];have lZ:Z.length=(X++Y).length:=(z3.len key).symm;obtain⟨r,r1,r2,r3⟩:=ih (2*bs) (Q++Z) (by omega) (by omega) (by omega) (by grind)<|q5 Z z2 lZ
     grind [BC.trans,G0,BC.refl]
    rw[Ai (by omega:¬((Q.length+bs:Nat):Int)<(l.length:Int)),Ad];have sR:srt key R:=by
     cases q4 with
     |last h hs=>exact hs
     | @cons X l' h hs hl=>
      simp only[AD]at a;have:l'=[]:=Bo<|by omega
      grind
    obtain⟨r,r1,r2,r3⟩:=ih (2*bs) (Q++R) (by omega) (by omega) (by omega) (by grind)<|q5 R sR rfl
    grind [BC.trans]
   grind
 unfold CS;rw[Bc];obtain⟨Q,R,q1,q2,q3,q4⟩:=nI key l.length hN (λs=>CE (NC key) (l.length:Int) s.1 s.2.1 s.2.2) (λ_ _ _=>rfl) l.length [] l (A0 _) (by simp);simp only[Nf,Ax,LI]at q1;rw[show((0:Nat):Int)=0 from rfl,show((20:Nat):Int)=20 from rfl]at q1;rw[q1,Aa];have a:Q.length+R.length=l.length:=by have:=q2.len key;grind
 obtain⟨R',r1,r2,r3⟩:=IH key Q R [] (by grind);rw[AU,AU,a]at r1;simp only;rw[r1,Aa];have lR:R'.length=R.length:=(r3.len key).symm;obtain⟨r,w1,w2,w3⟩:=rounds (λs=>Da (NC key) (l.length:Int) s.1 s.2) (λ_ _=>rfl) l.length 20 (Q++R') (by omega) (by omega) (by omega) (by grind)<|q4 R' r2 lR
 grind [BC.trans,G0,BC.refl]
end
end Go.TI
