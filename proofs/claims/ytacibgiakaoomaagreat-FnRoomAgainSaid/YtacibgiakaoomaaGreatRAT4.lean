/- What walks of Go code need. No condition. -/
import Derived.Test.YtacibgiakaoomaaGreatRAT3
import Derived.Laws.BitsLemmas
set_option linter.unusedSimpArgs false
set_option linter.unusedVariables false
namespace Go.TI
open Go
def aS (i j:Int):Int:=IntKind.i64.wrap<|Int.fdiv (IntKind.u64.wrap<|ad i j)<|2^(min (1:Int).toNat IntKind.u64.bits)
theorem gE (i j:Nat) (h:i+j<=4611686018427387904):aS (i:Int) (j:Int)=(((i+j)/2:Nat):Int):=by
 unfold aS;rw[BZ (by omega)<|by omega];have e1:IntKind.u64.wrap ((i:Int)+(j:Int))=((i+j:Nat):Int):=by
  have:IntKind.u64.wrap ((i:Int)+(j:Int))=((i:Int)+(j:Int)) %18446744073709551616:=by rfl
  grind
 grind [O0,IntKind.bits]
theorem iJ {B:Int×Int->Option ((Int×Int)⊕Int)} (p:Nat->Bool) (lo hi:Nat) (h1:∀i j:Nat,lo<=i->i<j->j<=hi->B ((i:Int),(j:Int))=some (.inl (cond (p ((i+j)/2)) ((((i+j)/2+1:Nat):Int),(j:Int)) ((i:Int),(((i+j)/2:Nat):Int))))) (h2:∀i:Nat,B ((i:Int),(i:Int))=some (.inr (i:Int))):
  ∀(n i j:Nat),j-i<=n->lo<=i->i<=j->j<=hi->(lo<i->p (i-1)=true)->(j<hi->p j=false)->∃r:Nat,Ai B ((i:Int),(j:Int))=some (r:Int)/\lo<=r/\r<=hi/\(lo<r->p (r-1)=true)/\(r<hi->p r=false):=by
 intro n
 induction n with
 |zero=>
  intro i j hn hl a hh k1 k2;have:i=j:=by omega
  simp_all [Ax];grind
 |succ n ih=>
  intro i j hn hl a hh k1 k2;by_cases he:i=j
  ·subst he;exact⟨i,by rw[Ax,h2],hl,hh,k1,k2⟩
  rw[Ax,h1 i j hl (by omega) hh]
  cases hp:p ((i+j)/2)with
  |true=>
   exact ih ((i+j)/2+1) j (by omega) (by omega) (by omega) hh (λ_=>by grind) k2
  |false=>
   exact ih i ((i+j)/2) (by omega) hl (by omega) (by omega) k1 λ_=>hp
variable {γ:Type} {r:Nat} {X:List γ}
theorem hZ (P X T:List γ) (k:Nat) (hk:k<X.length):gi (P++X++T) ((P.length+k:Nat):Int)=some X[k]:=by
 rw[Ap,BA,Dt (by omega),Nat.add_sub_cancel_left,L8 hk,Ab hk]
theorem Ue (a:γ->Int) (h:srt a X) (h0:0<r) (hr:r<=X.length):∀u∈X.take r,a u<=a (X[r-1]'(by omega)):=by
 intro u hu;obtain⟨i,hi,e⟩:=Au hu;rw[List.getElem_take]at e;simp only[I2]at hi;rw[<-e];by_cases b:i=r-1
 ·grind
 exact Cc.1 h i (r-1) (by omega) (by omega)<|by omega
theorem Uf (a:γ->Int) (h:srt a X) (hr:r<X.length):∀v∈X.drop r,a X[r]<=a v:=by
 intro v hv;obtain⟨i,hi,e⟩:=Au hv;rw[List.getElem_drop]at e;simp only[OX]at hi;rw[<-e];by_cases b:i=0
 ·subst b;simp
 exact Cc.1 h r (r+i) (by omega) (by omega)<|by omega
theorem xK (a:γ->Int) (S:List γ) (x:γ) (v2:Nat) (B:Int×List γ->Option ((Int×List γ)⊕(List γ))) (hB:∀k l,B (k,l)=Dk (MM a) (v2:Int) k l):∀(Y P:List γ),P.length+Y.length+1=v2->v2<=1152921504606846976->
  Ai B ((P.length:Int),P++x::(Y++S))=some (P++Y++x::S):=by
 intro Y
 induction Y with
 |nil=>grind [Ax,BL,Dk]
 |cons y Y ih=>
  intro P h hN;simp only[AD]at h;rw[Ax,hB];simp only[Dk];rw[BL (by omega) (by omega),Ac (by omega:(P.length:Int)<(v2:Int)-1),Al,ad1 (by omega),Cl,wC,Aa];simp only;have:=ih (P++ [y]) (by simp;omega) hN;simp_all
theorem ABj (a:γ->Int) (P S:List γ) (y:γ) (B:Int×List γ->Option ((Int×List γ)⊕(List γ))) (hB:∀k l,B (k,l)=Dj (MM a) (P.length:Int) k l):∀(n:Nat) (X S:List γ),X.length=n->P.length+X.length<=1152921504606846976->
  Ai B (((P.length+X.length:Nat):Int),P++X++y::S)=some (P++y::(X++S)):=by
 intro n
 induction n with
 |zero=>grind [Ax,Dj]
 |succ n ih=>
  intro X S hX hN
  rcases GM X with rfl|⟨X0,z,rfl⟩
  ·simp at hX
  rw[JN]at hX hN⊢;simp only[A9,Db]at hX hN;have hl:P.length+(X0++ [z]).length=(P++X0).length+1:=by simp;omega
  have e0:P++(X0++ [z])++y::S=(P++X0)++z::y::S:=by simp
  have ej:sb (((P++X0).length+1:Nat):Int) 1=((P++X0).length:Nat):=by grind [BL]
  rw[Ax,hB];simp only[Dj];rw[hl,e0,Ac (by grind:(((P++X0).length+1:Nat):Int)>(P.length:Int)),Al,ej,rF,Aa];simp_all;grind
section
variable (key:γ->Int)
set_option maxHeartbeats 1000000 in
theorem Wl:∀(n:Nat) (P X Y S:List γ),X≠ []->Y≠ []->srt key X->srt key Y->X.length+Y.length<=n->P.length+X.length+Y.length+S.length<=1152921504606846976->
  ∃Z,Cp (MM key) n (P++X++Y++S) (P.length:Nat) ((P.length+X.length:Nat):Int) ((P.length+X.length+Y.length:Nat):Int)=some (P++Z++S)/\srt key Z/\Bx key (X++Y) Z:=by
 intro n
 induction n with
 |zero=>simp_all
 |succ n ih=>
  intro P X Y S hX hY sX sY hn hN;have lX:=Il.2 hX;have lY:=Il.2 hY;have eXA:sb ((P.length+X.length:Nat):Int) (P.length:Nat)=(X.length:Int):=by grind [BL]
  have eYB:sb ((P.length+X.length+Y.length:Nat):Int) ((P.length+X.length:Nat):Int)=(Y.length:Int):=by grind [BL]
  rw[Cp,eXA,eYB];by_cases h5:X.length=1
  ·obtain⟨x,rfl⟩:=List.length_eq_one_iff.1 h5;have:(((([x]:List γ).length:Nat):Int)==1)=true:=rfl;simp only[Db]at hn hN⊢;obtain⟨r,r1,r2,r3,r4,r5⟩:=iJ (B:=λs:Int×Int=>DP (MM key) (P++ [x]++Y++S) (P.length:Nat) s.1 s.2) (λc=>match Y[c-(P.length+1)]? with|some y=>decide (key y<key x)|none=>false) (P.length+1) (P.length+1+Y.length)
    (λi j hi o hj=>by
     simp only[DP];rw[Ac (by omega:(i:Int)<j),Al];have hm:aS (i:Int) (j:Int)=(((i+j)/2:Nat):Int):=gE i j (by omega);unfold aS at hm;rw[hm];have hk:(i+j)/2-(P.length+1)<Y.length:=by omega
     have g1:gi (P++ [x]++Y++S) (((i+j)/2:Nat):Int)=some Y[(i+j)/2-(P.length+1)]:=by
      have:=hZ (P++ [x]) Y S ((i+j)/2-(P.length+1)) hk
      grind
     grind [Zg,ad1,vR,MM])
    (λi=>by grind [DP])
    (Y.length) (P.length+1) (P.length+1+Y.length) (by omega) (A3 _) (by omega) (A3 _) (λh=>absurd h<|by omega) (λh=>absurd h<|by omega)
   rw[r1,Aa];have k:Y.take (r-(P.length+1))++Y.drop (r-(P.length+1))=Y:=Cs _ _;have a8:(Y.take<|r-(P.length+1)).length=r-(P.length+1):=by simp;omega
   have a9:∀y∈Y.take (r-(P.length+1)),key y<key x:=by
    intro y hy;have h0:0<r-(P.length+1):=by grind
    have:=Ue key sY h0 (by omega) y hy;have hp:=r4 (by omega);rw[show r-1-(P.length+1)=r-(P.length+1)-1 by omega,Ab<|by omega]at hp
    grind
   have h6:∀y∈Y.drop (r-(P.length+1)),key x<=key y:=by
    intro y hy;have h0:r-(P.length+1)<Y.length:=by grind
    grind [Uf]
   have hm:=xK key (Y.drop (r-(P.length+1))++S) x r (λs=>Dk (MM key) (r:Int) s.1 s.2) (λ_ _=>rfl) (Y.take<|r-(P.length+1)) P (by omega) (by omega);have e:P++ [x]++Y++S=P++x::(Y.take (r-(P.length+1))++(Y.drop (r-(P.length+1))++S)):=by grind
   rw[e,hm,Aa];refine⟨Y.take (r-(P.length+1))++x::Y.drop (r-(P.length+1)),by simp,?_,?_⟩
   ·have sY':=sY;rw[<-k]at sY';obtain⟨q1,q2,q3⟩:=Bc.1 sY';refine Bc.2 ⟨q1,Ca.2 ⟨h6,q2⟩,λu hu v hv=>?_⟩
    grind
   have:=Bx.swap key (a:=[x]) (b:=Y.take<|r-(P.length+1)) (λu hu y hy=>by simp at hu;grind);have:=Gl key this<|Bx.refl key<|Y.drop<|r-(P.length+1)
   grind
  have:((X.length:Int)==1)=false:=by grind
  rw[this,Ad];by_cases k:Y.length=1
  ·obtain⟨y,rfl⟩:=List.length_eq_one_iff.1 k;have:(((([y]:List γ).length:Nat):Int)==1)=true:=rfl;have gY:gi (P++X++ [y]++S) ((P.length+X.length:Nat):Int)=some y:=by grind [Zg]
   obtain⟨r,r1,r2,r3,r4,r5⟩:=iJ (B:=λs:Int×Int=>DO (MM key) (P++X++ [y]++S) ((P.length+X.length:Nat):Int) s.1 s.2) (λc=>match X[c-P.length]? with|some x=>!decide (key y<key x)|none=>false) P.length (P.length+X.length)
    (λi j hi o hj=>by
     simp only[DO];rw[Ac (by omega:(i:Int)<j),Al];have hm:aS (i:Int) (j:Int)=(((i+j)/2:Nat):Int):=gE i j (by omega);unfold aS at hm;rw[hm];have hk:(i+j)/2-P.length<X.length:=by omega
     have g1:gi (P++X++ [y]++S) (((i+j)/2:Nat):Int)=some X[(i+j)/2-P.length]:=by
      have:=hZ P X ([y]++S) ((i+j)/2-P.length) hk
      grind
     grind [ad1,vR,MM])
    (λi=>by grind [DO])
    (X.length) P.length (P.length+X.length) (by omega) (A3 _) (by omega) (A3 _) (λh=>absurd h<|by omega) (λh=>absurd h<|by omega)
   rw[r1,Aa];have hX1':X.take (r-P.length)++X.drop (r-P.length)=X:=Cs _ _;have h7:(X.drop<|r-P.length).length=X.length-(r-P.length):=by simp
   have b0:∀x∈X.take (r-P.length),key x<=key y:=by
    intro x hx;have h0:0<r-P.length:=by grind
    have:=Ue key sX h0 (by omega) x hx;have hp:=r4 (by omega);rw[show r-1-P.length=r-P.length-1 by omega,Ab<|by omega]at hp
    grind
   have p:∀x∈X.drop (r-P.length),key y<key x:=by
    intro x hx;have h0:r-P.length<X.length:=by grind
    grind [Uf]
   have q:(P++X.take (r-P.length)).length=r:=by grind
   have hm:=ABj key (P++X.take (r-P.length)) S y (λs=>Dj (MM key) (r:Int) s.1 s.2) (λ_ _=>by rw[q]) (X.drop<|r-P.length).length (X.drop<|r-P.length) S rfl (by grind);have e:P++X++ [y]++S=P++X.take (r-P.length)++X.drop (r-P.length)++y::S:=by simp
   rw[q,h7,show r+(X.length-(r-P.length))=P.length+X.length by omega]at hm;rw[e,hm,Aa];refine⟨X.take (r-P.length)++y::X.drop (r-P.length),by simp,?_,?_⟩
   ·have sX':=sX;rw[<-hX1']at sX';obtain⟨q1,q2,q3⟩:=Bc.1 sX';refine Bc.2 ⟨q1,Ca.2 ⟨λv hv=>Int.le_of_lt<|p v hv,q2⟩,λu hu v hv=>?_⟩
    grind
   have:=Bx.swap key (a:=X.drop<|r-P.length) (b:=[y]) (λu hu v hv=>by simp at hv;grind)
   grind [Gl,Bx.refl]
  have:((Y.length:Int)==1)=false:=by grind
  rw[this,Ad];have f:aS (P.length:Nat) ((P.length+X.length+Y.length:Nat):Int)=(((P.length+(P.length+X.length+Y.length))/2:Nat):Int):=gE _ _ (by omega);unfold aS at f;rw[f];obtain⟨mid,t⟩:∃mid,mid=(P.length+(P.length+X.length+Y.length))/2:=⟨_,rfl⟩;rw[<-t];have en:ad (mid:Int) ((P.length+X.length:Nat):Int)=((mid+(P.length+X.length):Nat):Int):=by grind [BZ]
  rw[en];obtain⟨lo,hi,h8,b1,b2,l,h4⟩:∃lo hi:Nat,((cond (decide<|((P.length+X.length:Nat):Int)>(mid:Int)) (some (sb ((mid+(P.length+X.length):Nat):Int) ((P.length+X.length+Y.length:Nat):Int),(mid:Int))) (some (((P.length:Nat):Int),((P.length+X.length:Nat):Int))):Option (Int×Int))=some ((lo:Int),(hi:Int)))/\
    P.length<=lo/\hi<=P.length+X.length/\lo<=hi/\(P.length+X.length>mid/\lo=mid+(P.length+X.length)-(P.length+X.length+Y.length)/\hi=mid\/P.length+X.length<=mid/\lo=P.length/\hi=P.length+X.length):=by
   by_cases p:P.length+X.length>mid
   ·rw[Ac (by omega),Al,BL (by omega)<|by omega]
    grind
   exact⟨P.length,P.length+X.length,by grind,by omega,by omega,by omega,.inr ⟨by omega,rfl,rfl⟩⟩
  rw[h8,Aa];simp only;have h9:sb ((mid+(P.length+X.length):Nat):Int) 1=((mid+(P.length+X.length)-1:Nat):Int):=by grind [BL]
  obtain⟨r,r1,r2,r3,r4,r5⟩:=iJ (B:=λs:Int×Int=>DN (MM key) (P++X++Y++S) (P.length:Nat) ((P.length+X.length:Nat):Int) ((P.length+X.length+Y.length:Nat):Int) s.1 s.2)
   (λc=>match Y[mid+(P.length+X.length)-1-c-(P.length+X.length)]?,X[c-P.length]? with|some y,some x=>!decide (key y<key x)|_,_=>false) lo hi
   (λi j hi' o hj=>by
    simp only[DN];rw[Ac (by omega:(i:Int)<j),Al,f,<-t,en,h9];have hm:aS (i:Int) (j:Int)=(((i+j)/2:Nat):Int):=gE i j (by omega);unfold aS at hm;rw[hm];have hk:(i+j)/2-P.length<X.length:=by omega
    have d:mid+(P.length+X.length)-1-(i+j)/2-(P.length+X.length)<Y.length:=by omega
    have g1:gi (P++X++Y++S) (((i+j)/2:Nat):Int)=some X[(i+j)/2-P.length]:=by
     have:=hZ P X (Y++S) ((i+j)/2-P.length) hk
     grind
    have es:sb ((mid+(P.length+X.length)-1:Nat):Int) (((i+j)/2:Nat):Int)=(((P++X).length+(mid+(P.length+X.length)-1-(i+j)/2-(P.length+X.length)):Nat):Int):=by grind [BL]
    have g2:gi (P++X++Y++S) (((P++X).length+(mid+(P.length+X.length)-1-(i+j)/2-(P.length+X.length)):Nat):Int)=some Y[mid+(P.length+X.length)-1-(i+j)/2-(P.length+X.length)]:=hZ (P++X) Y S _ d;unfold vR;rw[es,g2,Aa,g1,Aa,Aa,Ab hk,Ab d]
    grind [ad1,MM])
   (λi=>by grind [DN])
   (hi-lo) lo hi (A3 _) (A3 _) l (A3 _) (λh=>absurd h<|by omega) (λh=>absurd h<|by omega)
  rw[r1,Aa];obtain⟨fin,a7⟩:∃fin,fin=mid+(P.length+X.length)-r:=⟨_,rfl⟩;have w:sb ((mid+(P.length+X.length):Nat):Int) (r:Int)=(fin:Int):=by rw[BL (by omega)<|by omega];omega
  simp only[w];have b3:P.length+X.length<=fin/\fin<=P.length+X.length+Y.length:=by omega
  obtain⟨A1,A2,hA⟩:∃A1 A2,A1=X.take (r-P.length)/\A2=X.drop (r-P.length):=⟨_,_,rfl,rfl⟩;obtain⟨B1,B2,hB⟩:∃B1 B2,B1=Y.take (fin-(P.length+X.length))/\B2=Y.drop (fin-(P.length+X.length)):=⟨_,_,rfl,rfl⟩;have a0:A1++A2=X:=by rw[hA.1,hA.2];simp
  have a1:B1++B2=Y:=by rw[hB.1,hB.2];simp
  have lA1:A1.length=r-P.length:=by rw[hA.1];simp;omega
  have lA2:A2.length=P.length+X.length-r:=by grind
  have lB1:B1.length=fin-(P.length+X.length):=by rw[hB.1];simp;omega
  have lB2:B2.length=P.length+X.length+Y.length-fin:=by grind
  have sX':=sX;rw[<-a0]at sX';obtain⟨sA1,sA2,sA⟩:=Bc.1 sX';have sY':=sY;rw[<-a1]at sY';obtain⟨sB1,sB2,sB⟩:=Bc.1 sY';have b4:∀u∈A1,∀v∈B2,key u<=key v:=by
   intro u hu v hv;have l1:=N9 hu;have l2:=N9 hv;have hp:=r4 (by omega);have d:mid+(P.length+X.length)-1-(r-1)-(P.length+X.length)<Y.length:=by omega
   have g:r-1-P.length<X.length:=by omega
   rw[Ab d,Ab g]at hp;simp only[D6,decide_eq_false_iff_not]at hp;rw[hA.1]at hu;have k1:=Ue key sX (r:=r-P.length) (by omega) (by omega) u hu;rw[hB.2]at hv;have k2:=Uf key sY (r:=fin-(P.length+X.length)) (by omega) v hv;have i1:X[r-P.length-1]'(by omega)=X[r-1-P.length]'g:=by congr 1;omega
   have i2:Y[fin-(P.length+X.length)]'(by omega)=Y[mid+(P.length+X.length)-1-(r-1)-(P.length+X.length)]'d:=by congr 1;omega
   grind
  have a2:∀x∈A2,∀y∈B1,key y<key x:=by
   intro x hx y hy;have l1:=N9 hx;have l2:=N9 hy;have hp:=r5 (by omega);have d:mid+(P.length+X.length)-1-r-(P.length+X.length)<Y.length:=by omega
   have g:r-P.length<X.length:=by omega
   rw[Ab d,Ab g]at hp;simp only[Bool.not_eq_false',AZ]at hp;rw[hA.2]at hx;have k1:=Uf key sX g x hx;rw[hB.1]at hy;have k2:=Ue key sY (r:=fin-(P.length+X.length)) (by omega) (by omega) y hy;have i2:Y[fin-(P.length+X.length)-1]'(by omega)=Y[mid+(P.length+X.length)-1-r-(P.length+X.length)]'d:=by congr 1;omega
   grind
  have z:(((bif decide ((r:Int)<((P.length+X.length:Nat):Int))then some (decide<|((P.length+X.length:Nat):Int)<(fin:Int))else some false:Option Bool).bind λj2=>
    (bif j2 then((EJ (MM key) (P++X++Y++S) (r:Int) ((P.length+X.length:Nat):Int) (fin:Int)).bind λv11=>some v11)else some (P++X++Y++S):Option (List γ))))=some (P++A1++B1++A2++B2++S):=by
   have e:P++X++Y++S=(P++A1)++A2++B1++(B2++S):=by grind
   by_cases c1:r<P.length+X.length
   ·rw[Ac (by omega:(r:Int)<((P.length+X.length:Nat):Int)),Al,Aa];by_cases c2:P.length+X.length<fin
    ·rw[Ac (by omega:((P.length+X.length:Nat):Int)<(fin:Int)),Al];have hr:=uC (lt:=MM key) (P++A1) A2 B1 (B2++S) (by grind) (by grind) (by grind);rw[show(P++A1).length=r by rw[A9];omega]at hr
     grind
    rw[Ah (by omega:¬((P.length+X.length:Nat):Int)<(fin:Int)),Ad,e];have:B1=[]:=Bf (by omega);rw[this];simp
   grind
  rw[<-Option.bind_assoc,z,Aa]
  have h1:∃Z1,(((bif decide (((P.length:Nat):Int)<(r:Int))then some (decide<|(r:Int)<(mid:Int))else some false:Option Bool).bind λj4=>
    (bif j4 then((Cp (MM key) n (P++A1++B1++A2++B2++S) (P.length:Nat) (r:Int) (mid:Int)).bind λv12=>some v12)else some (P++A1++B1++A2++B2++S):Option (List γ))))=some (P++Z1++A2++B2++S)/\srt key Z1/\Bx key (A1++B1) Z1:=by
   by_cases c1:P.length<r/\r<mid
   ·rw[Ac (by omega:((P.length:Nat):Int)<(r:Int)),Al,Aa,Ac (by omega:(r:Int)<(mid:Int)),Al];obtain⟨Z,z1,z2,z3⟩:=ih P A1 B1 (A2++B2++S) (by grind) (by intro e;rw[e]at lB1;simp at lB1;omega) sA1 sB1 (by omega) (by grind);rw[show P.length+A1.length=r by omega,show r+B1.length=mid by omega]at z1;refine⟨Z,?_,z2,z3⟩
    grind
   refine⟨A1++B1,?_,?_,Bx.refl key _⟩
   ·have:((bif decide (((P.length:Nat):Int)<(r:Int))then some (decide<|(r:Int)<(mid:Int))else some false:Option Bool))=some false:=by
     by_cases c:P.length<r
     ·grind
     grind
    grind
   by_cases c:P.length<r
   ·have:B1=[]:=Bf (by omega);rw[this,AO];exact sA1
   have:A1=[]:=Bf (by omega);rw[this,A5];exact sB1
  obtain⟨Z1,a3,a4,m⟩:=h1;rw[<-Option.bind_assoc,a3,Aa];have lZ1:Z1.length=A1.length+B1.length:=by have:=m.len key;grind
  have h2:∃Z2,(bif decide ((mid:Int)<(fin:Int))then(bif decide ((fin:Int)<((P.length+X.length+Y.length:Nat):Int))then((Cp (MM key) n (P++Z1++A2++B2++S) (mid:Int) (fin:Int) ((P.length+X.length+Y.length:Nat):Int)).bind λv13=>some v13)else some<|P++Z1++A2++B2++S)else some (P++Z1++A2++B2++S):Option (List γ))=some (P++Z1++Z2++S)/\srt key Z2/\Bx key (A2++B2) Z2:=by
   by_cases c1:mid<fin
   ·rw[Ac (by omega:(mid:Int)<(fin:Int)),Al];by_cases c2:fin<P.length+X.length+Y.length
    ·rw[Ac (by omega:(fin:Int)<((P.length+X.length+Y.length:Nat):Int)),Al];obtain⟨Z,z1,z2,z3⟩:=ih (P++Z1) A2 B2 S (by intro e;rw[e]at lA2;simp at lA2;omega) (by grind) sA2 sB2 (by omega) (by grind);rw[show(P++Z1).length=mid by rw[A9];omega,show mid+A2.length=fin by omega,show fin+B2.length=P.length+X.length+Y.length by omega]at z1
     grind
    rw[Ah (by omega:¬(fin:Int)<((P.length+X.length+Y.length:Nat):Int)),Ad];have:B2=[]:=Bf (by omega);refine⟨A2++B2,by simp,?_,Bx.refl key _⟩;rw[this,AO];exact sA2
   rw[Ah (by omega:¬(mid:Int)<(fin:Int)),Ad];have:A2=[]:=Bf (by omega);refine⟨A2++B2,by simp,?_,Bx.refl key _⟩;rw[this,A5];exact sB2
  obtain⟨Z2,a5,a6,h3⟩:=h2;rw[a5];refine⟨Z1++Z2,by simp,Bc.2 ⟨a4,a6,λu hu v hv=>?_⟩,?_⟩
  ·have hu':=(m.mem key).1 hu;have hv':=(h3.mem key).1 hv
   rcases Az.1 hu' with hu'|hu'<;>rcases Az.1 hv' with hv'|hv'
   ·grind
   ·grind
   ·grind
   grind
  have e1:=Gl key (Bx.refl key A1)<|Gl key (Bx.swap key a2)<|Bx.refl key B2;have e2:=Gl key m h3
  grind [Bx.trans]
end
section
variable {γ:Type} (key:γ->Int)
inductive Blocks (bs:Nat):List γ->Prop
 |last {l:List γ} (h:l.length<=bs) (hs:srt key l):Blocks bs l
 |cons {X l:List γ} (h:X.length=bs) (hs:srt key X) (hl:Blocks bs l):Blocks bs (X++l)
end
theorem iL (c:γ->Int) (N:Nat) (hN:N<=1073741824) (B:Int×Int×List γ->Option ((Int×Int×List γ)⊕(Int×List γ))) (hB:∀a b l,B (a,b,l)=CI (MM c) (N:Int) a b l):
  ∀(k:Nat) (P T:List γ),T.length<=k->P.length+T.length=N->
   ∃Q R,Ai B ((P.length:Int),((P.length+20:Nat):Int),P++T)=some (((P.length+Q.length:Nat):Int),P++Q++R)/\Bx c T (Q++R)/\R.length<20/\(∀R',srt c R'->R'.length=R.length->Blocks c 20 (Q++R')):=by
 intro k
 induction k with
 |zero=>
  intro P T hT hP;have:=Bf<|Nat.le_zero.1 hT;subst this;refine⟨[],[],?_,Bx.refl c _,by simp,λR' h h2=>?_⟩
  ·grind [Ax,CI]
  rw[A5];exact .last (by omega) h
 |succ k ih=>
  intro P T hT hP;by_cases h20:T.length<20
  ·refine⟨[],T,?_,by exact Bx.refl c _,h20,λR' h h2=>by rw[A5];exact .last (by omega) h⟩;rw[Ax,hB];simp_all [CI];grind
  have d:T=T.take 20++T.drop 20:=(Cs _ _).symm;have l1:(T.take 20).length=20:=by simp;omega
  have l2:(T.drop 20).length=T.length-20:=by simp
  obtain⟨X',x1,x2,x3⟩:=Iu c P (T.take 20) (T.drop 20) (by omega);have lX:X'.length=20:=by have:=x3.len c;omega
  rw[l1]at x1;obtain⟨Q,R,q1,q2,q3,q4⟩:=ih (P++X') (T.drop 20) (by omega) (by rw[A9];omega);refine⟨X'++Q,R,?_,?_,q3,λR' h h2=>?_⟩
  ·rw[Ax,hB];simp only[CI];rw[Ac (by omega:((P.length+20:Nat):Int)<=(N:Int)),Al];have e:P++T=P++T.take 20++T.drop 20:=by grind
   rw[e,x1,Aa];simp only;have e2:ad ((P.length+20:Nat):Int) 20=(((P++X').length+20:Nat):Int):=by rw[BZ (by omega) (by omega),A9];omega
   rw[e2,show P.length+20=(P++X').length by rw[A9];omega,q1];simp[Nat.add_assoc]
  ·grind [Gl]
  rw[BA];exact .cons lX x2<|q4 R' h h2
theorem iK (c:γ->Int) (N bs:Nat) (hN:N<=1073741824) (e:0<bs) (f:bs<N) (B:Int×Int×List γ->Option ((Int×Int×List γ)⊕(Int×List γ))) (hB:∀a b l,B (a,b,l)=Dc (MM c) (N:Int) (bs:Int) a b l):
  ∀(k:Nat) (P T:List γ),T.length<=k->P.length+T.length=N->Blocks c bs T->
   ∃Q R,Ai B ((P.length:Int),((P.length+2*bs:Nat):Int),P++T)=some (((P.length+Q.length:Nat):Int),P++Q++R)/\Bx c T (Q++R)/\R.length<2*bs/\Blocks c bs R/\(∀R',srt c R'->R'.length=R.length->Blocks c (2*bs) (Q++R')):=by
 intro k
 induction k with
 |zero=>
  intro P T hT hP hb;have:=Bf<|Nat.le_zero.1 hT;subst this;refine⟨[],[],?_,Bx.refl c _,by simp;omega,hb,λR' h h2=>?_⟩
  ·grind [Ax,Dc]
  rw[A5];exact .last (by omega) h
 |succ k ih=>
  intro P T hT hP hb;by_cases h2:T.length<2*bs
  ·refine⟨[],T,?_,by exact Bx.refl c _,h2,hb,λR' h h3=>by rw[A5];exact .last (by omega) h⟩;rw[Ax,hB];simp only[Dc]
   grind
  
  obtain⟨X,Y,T2,rfl,lX,lY,sX,sY,d⟩:∃X Y T2,T=X++Y++T2/\X.length=bs/\Y.length=bs/\srt c X/\srt c Y/\Blocks c bs T2:=by
   cases hb with
   |last h hs=>omega
   | @cons X l h hs hl=>
    cases hl with
    |last h' hs'=>
     simp only[A9]at h2;exact⟨X,l,[],by simp,h,by omega,hs,hs',.last (by simp) List.Pairwise.nil⟩
    | @cons Y l' h' hs' hl'=>grind
  simp only[A9]at hP hT h2;obtain⟨Z,z1,z2,z3⟩:=Wl c ((P++(X++Y++T2)).length+1) P X Y T2 (by grind) (by grind) sX sY (by grind [A9]) (by omega);have lZ:Z.length=2*bs:=by have:=z3.len c;grind
  obtain⟨Q,R,q1,q2,q3,q4,q5⟩:=ih (P++Z) T2 (by omega) (by rw[A9];omega) d;refine⟨Z++Q,R,?_,?_,q3,q4,λR' h h3=>?_⟩
  ·rw[Ax,hB];simp only[Dc];rw[Ac (by omega:((P.length+2*bs:Nat):Int)<=(N:Int)),Al];have e1:ad (P.length:Int) (bs:Int)=((P.length+X.length:Nat):Int):=by rw[BZ (by omega)<|by omega];omega
   have e2:((P.length+2*bs:Nat):Int)=((P.length+X.length+Y.length:Nat):Int):=by omega
   have e3:ad ((P.length+2*bs:Nat):Int) (ml 2 (bs:Int))=(((P++Z).length+2*bs:Nat):Int):=by
    rw[OI (by omega) (by omega),BZ (by omega) (by omega),A9];omega
   have e4:P++(X++Y++T2)=P++X++Y++T2:=by simp
   rw[e3,e1,e2,e4];rw[e4]at z1;rw[z1,Aa];simp only;rw[show P.length+X.length+Y.length=(P++Z).length by rw[A9];omega,q1];simp[Nat.add_assoc]
  ·have:=Gl c z3 q2
   grind
  rw[BA];exact .cons lZ z2<|q5 R' h h3
section
variable (key:γ->Int)
theorem cG (l:List γ) (hN:l.length<=1073741824):∃r,CU (MM key) l (ln l)=some r/\srt key r/\Bx key l r:=by
 have rounds:∀(B:Int×List γ->Option ((Int×List γ)⊕(List γ))),(∀b l',B (b,l')=Dd (MM key) (l.length:Int) b l')->∀(k bs:Nat) (T:List γ),l.length<=bs+k->0<bs->bs<=2147483648->T.length=l.length->Blocks key bs T->∃r,Ai B ((bs:Int),T)=some r/\srt key r/\Bx key T r:=by
  intro B hB k
  induction k with
  |zero=>
   intro bs T hk c d hT hb;rw[Ax,hB];simp only[Dd];rw[Ah (by omega:¬(bs:Int)<(l.length:Int)),Ad];refine⟨T,rfl,?_,Bx.refl key _⟩
   cases hb with
   |last h hs=>exact hs
   | @cons X l' h hs hl=>
    simp only[A9]at hT;have:l'=[]:=Bf<|by omega
    grind
  |succ k ih=>
   intro bs T hk c d hT hb;by_cases e:bs<l.length
   ·rw[Ax,hB];simp only[Dd];rw[Ac (by omega:(bs:Int)<(l.length:Int)),Al];obtain⟨Q,R,q1,q2,q3,q4,q5⟩:=iK key l.length bs hN c e (λs=>Dc (MM key) (l.length:Int) (bs:Int) s.1 s.2.1 s.2.2) (λ_ _ _=>rfl) T.length [] T (A3 _) (by simp[hT]) hb;simp only[Jq,A5,Ln]at q1;have a:Q.length+R.length=l.length:=by have:=q2.len key;grind
    have e2:ml 2 (bs:Int)=((2*bs:Nat):Int):=by grind [OI]
    have e2':ml (bs:Int) 2=((2*bs:Nat):Int):=by grind [OI]
    rw[e2,e2'];rw[show((0:Nat):Int)=0 from rfl]at q1;rw[q1,Aa];simp only;have em:ad (Q.length:Int) (bs:Int)=((Q.length+bs:Nat):Int):=by grind [BZ]
    rw[em];by_cases hm:Q.length+bs<l.length
    ·rw[Ac (by omega:((Q.length+bs:Nat):Int)<(l.length:Int)),Al];obtain⟨X,Y,rfl,lX,sX,sY⟩:∃X Y,R=X++Y/\X.length=bs/\srt key X/\srt key Y:=by
      cases q4 with
      |last h hs=>omega
      | @cons X l' h hs hl=>
       refine⟨X,l',rfl,h,hs,?_⟩
       cases hl with
       |last h' hs'=>exact hs'
       | @cons Y l'' h' hs' hl'=>grind
     simp only[A9]at a q3;obtain⟨Z,z1,z2,z3⟩:=Wl key ((Q++(X++Y)).length+1) Q X Y [] (by grind) (by grind) sX sY (by grind) (by grind);have e5:Q++X++Y++ []=Q++(X++Y):=by simp
     rw[e5,AO,lX,show Q.length+bs+Y.length=l.length by omega]at z1;rw[z1,Aa];have lZ:Z.length=(X++Y).length:=(z3.len key).symm;obtain⟨r,r1,r2,r3⟩:=ih (2*bs) (Q++Z) (by omega) (by omega) (by omega) (by grind)<|q5 Z z2 lZ
     grind [Bx.trans,Gl,Bx.refl]
    rw[Ah (by omega:¬((Q.length+bs:Nat):Int)<(l.length:Int)),Ad];have sR:srt key R:=by
     cases q4 with
     |last h hs=>exact hs
     | @cons X l' h hs hl=>
      simp only[A9]at a;have:l'=[]:=Bf<|by omega
      grind
    obtain⟨r,r1,r2,r3⟩:=ih (2*bs) (Q++R) (by omega) (by omega) (by omega) (by grind)<|q5 R sR rfl
    grind [Bx.trans]
   grind
 unfold CU;rw[Bh];obtain⟨Q,R,q1,q2,q3,q4⟩:=iL key l.length hN (λs=>CI (MM key) (l.length:Int) s.1 s.2.1 s.2.2) (λ_ _ _=>rfl) l.length [] l (A3 _) (by simp);simp only[Jq,A5,Ln]at q1;rw[show((0:Nat):Int)=0 from rfl,show((20:Nat):Int)=20 from rfl]at q1;rw[q1,Aa];have a:Q.length+R.length=l.length:=by have:=q2.len key;grind
 obtain⟨R',r1,r2,r3⟩:=Iu key Q R [] (by grind);rw[AO,AO,a]at r1;simp only;rw[r1,Aa];have lR:R'.length=R.length:=(r3.len key).symm;obtain⟨r,w1,w2,w3⟩:=rounds (λs=>Dd (MM key) (l.length:Int) s.1 s.2) (λ_ _=>rfl) l.length 20 (Q++R') (by omega) (by omega) (by omega) (by grind)<|q4 R' r2 lR
 grind [Bx.trans,Gl,Bx.refl]
end
end Go.TI
