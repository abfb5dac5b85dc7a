/- Worlds are sound for both sides alike. No condition; no program is in sight. -/
import Derived.Test.YtnlbnbfafkgldaaGreatSWP0
set_option linter.unusedVariables false
set_option linter.unusedSimpArgs false
namespace Go.TI
open Go
theorem mQ (s:ByteArray) (f a:Int):PU s f a=Aq (λn:Int=>DW s a f n) 0:=by
 show(Aq (λn:Int=>DW s a f n) 0).bind _=_;cases Aq (λn:Int=>DW s a f n) 0<;>rfl
theorem mP (s:ByteArray) (f a:Nat) (hf:f<a) (ha:a<=(L s).length) (hs:(L s).length<=64):∃k:Nat,Aq (λn:Int=>DW s (a:Int) (f:Int) n) 0=some (k:Int)/\k<=31/\a+k<=(L s).length:=by
 obtain⟨b,h1,k,rfl,h2,h3⟩:=Bx (body:=λn:Int=>DW s (a:Int) (f:Int) n) (λ(_:Unit) i=>i) 31 (λi _=>a+i<=(L s).length) (λb=>∃k:Nat,b=(k:Int)/\k<=31/\a+k<=(L s).length)
  (λ_ i hi hs=>by
   simp only[DW];rw[Ab (by omega:(i:Int)<31),Af,DZ (by omega) (by omega),DZ (by omega) (by omega),CX];by_cases c:a+i<(L s).length
   ·rw[Ab (by omega:((a:Int)+(i:Int))<((L s).length:Int)),Af];have e1:((f:Int)+(i:Int))=((f+i:Nat):Int):=by omega
    have e2:((a:Int)+(i:Int))=((a+i:Nat):Int):=by omega
    rw[e1,e2,I1 s (by omega),I1 s c];simp only[Aa]
    cases((((L s)[f+i]).toNat:Int)==(((L s)[a+i]).toNat:Int))with
    |true=>
     simp only[Af];rw[ad1 (by omega)];exact .inl ⟨(),rfl,by omega⟩
    |false=>exact .inr ⟨_,rfl,i,rfl,by omega,hs⟩
   rw[Ae (by omega:¬((a:Int)+(i:Int))<((L s).length:Int)),Ac]
   exact .inr ⟨_,rfl,i,rfl,by omega,hs⟩)
  (λ_ hs=>by
   simp only[DW];rw[Ae (by omega:¬((31:Nat):Int)<31),Ac]
   exact⟨_,rfl,31,rfl,by omega,hs⟩) (s:=()) (by omega)
 exact⟨k,h1,h2,h3⟩
theorem dR (s:ByteArray) (a:Nat) (ha:a<=(L s).length) (hs:(L s).length<=64):∃z b:Nat,OX s (a:Int)=some ((z:Int),(b:Int))/\Aq (λq:Int×Int×Int=>Hk s (a:Int) q.1 q.2.1 q.2.2) (0,0,sb (a:Int) 1)=some ((z:Int),(b:Int))/\z<=31/\a+z<=(L s).length/\(z=0\/4<=z/\1<=b/\b<=a):=by
 have c:(λq:Int×Int×Int=>Hk s (a:Int) q.1 q.2.1 q.2.2)=λq:Int×Int×Int=>FP s (a:Int) q.1 q.2.1 q.2.2:=by
  funext ⟨x,y,z⟩;simp only[Hk,FP,mQ]
 rw[c,CB (by omega) (by omega)];obtain⟨r,h1,z,b,rfl,h2,h3,h4⟩:=Bx (body:=λq:Int×Int×Int=>FP s (a:Int) q.1 q.2.1 q.2.2) (λ(q:Nat×Nat) i=>((q.1:Int),(q.2:Int),(a:Int)-1-i)) a (λi q=>q.1<=31/\a+q.1<=(L s).length/\(q.1=0\/4<=q.1/\1<=q.2/\q.2<=a)) (λr=>∃z b:Nat,r=((z:Int),(b:Int))/\z<=31/\a+z<=(L s).length/\(z=0\/4<=z/\1<=b/\b<=a))
  (λq i hi hq=>by
   obtain⟨k,m1,m2,m3⟩:=mP s (a-1-i) a (by omega) ha hs;have e1:((a:Int)-1-(i:Int))=((a-1-i:Nat):Int):=by omega
   simp only[FP,e1];rw[Ab (by omega:(((a-1-i:Nat)):Int)>=0),Af,m1];simp only[Aa];rw[CB (by omega) (by omega),CB (by omega) (by omega)];refine .inl ?_;have e2:(((a-1-i:Nat):Int)-1)=(a:Int)-1-((i+1:Nat):Int):=by omega
   have e3:((a:Int)-((a-1-i:Nat):Int))=((1+i:Nat):Int):=by omega
   rw[e2,e3];by_cases h4:4<=k
   ·rw[Ab (by omega:(k:Int)>=4),Af];by_cases h5:q.1<k
    ·rw[Ab (by omega:(k:Int)>(q.1:Int))];exact⟨(k,1+i),rfl,m2,m3,.inr ⟨h4,by omega,by omega⟩⟩
    rw[Ae (by omega:¬(k:Int)>(q.1:Int))];exact⟨q,rfl,hq⟩
   rw[Ae (by omega:¬(k:Int)>=4),Ac]
   exact⟨q,rfl,hq⟩)
  (λq hq=>by
   simp only[FP];rw[Ae (by omega:¬((a:Int)-1-(a:Int))>=0),Ac]
   exact⟨_,rfl,q.1,q.2,rfl,hq⟩) (s:=(0,0)) ⟨by omega,by omega,.inl rfl⟩
 have e0:(((0:Nat):Int),((0:Nat):Int),(a:Int)-1-0)=((0:Int),(0:Int),(a:Int)-1):=by simp
 simp only[e0]at h1;refine⟨z,b,?_,h1,h2,h3,h4⟩;unfold OX;rw[CB (by omega) (by omega),h1];rfl
def QJ (t:Bw):Prop:=(t.Back=0/\t.Size=0/\1<=(L t.Text).length/\(L t.Text).length<=31)\/(1<=t.Back/\t.Back<=64/\4<=t.Size/\t.Size<=31/\L t.Text=[])
variable {s:Store} {v:Vol} {α:Type} {r:List AE} {i k:Nat} {f:Flash} {l R:List Int} {n x:Int} {y:AE} {K:Ks}
theorem J8 (l:List α) (x:α):gi (l++ [x]) (l.length:Int)=some x:=by
 rw[AA];simp
theorem Lf (l:List α) (x y:α):si (l++ [x]) (l.length:Int) y=l++ [y]:=by
 rw[EO];simp
theorem aX (s:ByteArray) (hs:(L s).length<=64):∃l,My s=some l/\ML s=some l/\l.length<=64/\∀t∈l,QJ t:=by
 unfold My ML;rw[CX,Ae (by omega:¬((L s).length:Int)>64),Ac,Ac];obtain⟨l,h1,h2,h3,h4⟩:=OU (body:=λq:List Bw×Int=>IS s q.1 q.2) (body':=λq:List Bw×Int=>Ja s q.1 q.2) (λq=>(L s).length-q.2.toNat)
  (λq=>∃a:Nat,q.2=(a:Int)/\a<=(L s).length/\q.1.length<=a/\∀t∈q.1,QJ t) (λl=>l.length<=64/\∀t∈l,QJ t)
  (by
   rintro⟨f,at_⟩ ⟨a,ha,h1,h2,h3⟩;simp only at ha h2 h3;subst ha;simp only[IS,Ja];rw[CX];by_cases i:a<(L s).length
   ·rw[Ab (by omega:(a:Int)<((L s).length:Int)),Af,Af];obtain⟨z,b,m1,m2,m3,m4,m5⟩:=dR s a h1 hs;rw[m1,m2];simp only[Aa]
    have c:∀x:Bw,ap 32 f [x]=some (f++ [x]):=λx=>C4 (by simp only[Aj];omega)
    refine .inl ?_;by_cases hz:z=0
    ·subst hz;rw[Ae (by omega:¬((0:Nat):Int)>0),Ac,Ac];have esub:sub s (a:Int) (ad (a:Int) 1)=some (s.extract a (a+1)):=by rw[ad1 (by omega)];exact IQ s (by omega) (by omega)
     have elen:(L (s.extract a (a+1))).length=1:=by rw[KS];simp;omega
     rw[esub,ad1 (by omega),CB (by rw[BT];omega) (by rw[BT];omega),BT]
     have ecat:∀x:ByteArray,(L x).length<=31->T9 x (s.extract a (a+1))=some (x++s.extract a (a+1)):=λx hx=>JK _ _ (by rw[elen];omega)
     have e0:T9 (bs []) (s.extract a (a+1))=some (s.extract a (a+1)):=by
      rw[ecat _ (by rw[Mi];simp)];exact Cq some (R9 (by rw[Fu,Mi];rfl))
     have enew:QJ (Bw.mk 0 0 (s.extract a (a+1))):= .inl ⟨rfl,rfl,by simp only;rw[elen];omega,by simp only;rw[elen];omega⟩
     have d:∀(o:List Bw) (x:Bw),(∀t∈o,QJ t)->QJ x->∀t∈o++ [x],QJ t:=λo x ho hx t ht=>by
      rcases Al.1 ht with ht|ht
      ·exact ho t ht
      rw[A7]at ht;subst ht;exact hx
     have fin:∀o:List Bw,o.length<=a+1->(∀t∈o,QJ t)->(∃a':Nat,((a+1:Nat):Int)=(a':Int)/\a'<=(L s).length/\o.length<=a'/\∀t∈o,QJ t)/\(L s).length-(((a+1:Nat)):Int).toNat<(L s).length-((a:Int)).toNat:=λo g h=>⟨⟨a+1,rfl,by omega,g,h⟩,by omega⟩
     rcases List.eq_nil_or_concat f with rfl|⟨o,x,rfl⟩
     ·simp only[Bf,Int.ofNat_zero,Int.zero_sub];rw[Ab (by omega:(-1:Int)<0),Ae (by omega:¬(-1:Int)>=0)];simp only[Af,Ac,Aa,c];rw[show ad (-1) 1=(([]:List Bw).length:Int)from rfl];simp only[J8,Aa,e0,Lf];exact⟨_,rfl,rfl,fin _ (by simp) (d _ _ (by simp) enew)⟩
     rw[List.concat_eq_append]at h2 h3 c⊢;simp only[Ah,Aj]at h2⊢;have ek:(((o.length+1:Nat):Int)-1)=(o.length:Int):=by omega
     rw[ek,Ae (by omega:¬(o.length:Int)<0),Ab (by omega:(o.length:Int)>=0)];simp only[Af,Ac,J8,Aa];have hx:=h3 x (by simp);have e:=d (o++ [x]) _ h3 enew;have elast:ad (o.length:Int) 1=((o++ [x]).length:Int):=by rw[ad1 (by omega)];simp
     rcases hx with⟨x1,x2,x3,x4⟩|⟨x1,x2,x3,x4,x5⟩
     ·rw[x1];simp only[show((0:Int)==0)=true from rfl,Af,show decide ((0:Int)>0)=false from rfl,Ac];rw[CX];by_cases h31:(L x.Text).length<31
      ·rw[Ab (by omega:((L x.Text).length:Int)<31),Ae (by omega:¬((L x.Text).length:Int)>=31)];simp only[Af,Ac,Aa,J8,ecat _ x4,Lf];simp only[x1];refine⟨_,rfl,rfl,fin _ (by simp;omega) (d _ _ (λt ht=>h3 t (by simp[ht])) (.inl ⟨rfl,x2,?_,?_⟩))⟩
       ·simp only;rw[Fu,Ah,elen];omega
       simp only;rw[Fu,Ah,elen];omega
      rw[Ae (by omega:¬((L x.Text).length:Int)<31),Ab (by omega:((L x.Text).length:Int)>=31)];simp only[Af,Ac,Aa,c,elast,J8,e0,Lf];exact⟨_,rfl,rfl,fin _ (by simp;omega) e⟩
     have hb:(x.Back==0)=false:=by simp;omega
     rw[hb,Ab (by omega:x.Back>0)];simp only[Af,Ac,Aa,c,elast,J8,e0,Lf];exact⟨_,rfl,rfl,fin _ (by simp;omega) e⟩
    rw[Ab (by omega:(z:Int)>0),Af,Af,c];simp only[Aa];rw[DZ (by omega) (by omega)];refine⟨_,rfl,rfl,⟨a+z,by simp,by omega,by simp;omega,?_⟩,by simp only;omega⟩;intro t ht
    rcases Al.1 ht with ht|ht
    ·exact h3 t ht
    rw[A7]at ht;subst ht;refine .inr ⟨?_,?_,?_,?_,by simp only;rw[Mi]⟩<;>simp only<;>omega
   rw[Ae (by omega:¬(a:Int)<((L s).length:Int)),Ac,Ac]
   exact .inr ⟨_,rfl,rfl,by omega,h3⟩) ((L s).length) ([],0) (by simp) ⟨0,rfl,by omega,by simp,by simp⟩
 rw[h1,h2];exact⟨l,rfl,rfl,h3,h4⟩
theorem QM (l m:List Int):L (H3 (l++m))=L (H3 l)++L (H3 m):=by rw[LC,LC,LC,Dt]
theorem LL (l:List Int):(L (H3 l)).length=l.length:=by rw[LC,AQ]
theorem kX (b:ByteArray):L (H3 (f0 b))=L b:=by
 rw[LC,f0,Gm];have:((λn:Int=>UInt8.ofNat n.toNat)∘λc:UInt8=>(c.toNat:Int))=id:=by
  funext c;simp
 rw[this,kK];rfl
theorem nW (l:List Int) (b:ByteArray):tJ l b=ap 1 l (f0 b):=by
 have:(f0 b).length=b.size:=by simp[f0]
 unfold tJ ap;rw[this,Qs]
theorem Xv (b:ByteArray):(f0 b).length=(L b).length:=by simp[f0,L]
theorem bE (s:ByteArray):∃z ok,K6 s=some (z,ok)/\KL s=some (z,ok)/\(ok=false->z=bs [])/\(ok=true->(L s).length<=64/\((L z)[0]?=some 122\/(L z)[0]?=some 114)):=by
 unfold K6 KL;rw[CX];by_cases hs:(L s).length<=64
 ·rw[Ae (by omega:¬((L s).length:Int)>64),Ac,Ac];obtain⟨l,t1,t2,t3,t4⟩:=aX s hs;rw[t1,t2];simp only[Aa];obtain⟨z,v,h1,h2,rfl,h3,h4⟩:=jF (body:=λq:ByteArray×Int=>Hl l q.1 q.2) (body':=λq:List Int×Int=>Hs l q.1 q.2) (λv i=>(H3 v,i)) (λv i=>(v,i)) l.length (λi v=>v.length<=1+33*i/\(L (H3 v))[0]?=some 122) (λz v=>z=H3 v/\v.length<=4000/\(L (H3 v))[0]?=some 122)
   (λv i hi hv=>by
    have hg:l[i]?=some l[i]:=Ad hi;have c:=hv.1;have ht:=t4 _ (Bm hi);refine .inl ?_;simp only[Hl,Hs,AD,Ab hi,Af,AA,hg,Aa]
    have b:∀(a:ByteArray) (m:List Int),(L a).length<=4000->m.length<=2->T9 a (H3 m)=some (a++H3 m):=λa m h1 h2=>JK _ _ (by rw[LL];omega)
    have h0:∀m:List Int,(L (H3 (v++m)))[0]?=some 122:=λm=>by
     rw[QM,AS]
     ·exact hv.2
     rcases Fy (L (H3 v)).length with h|h
     ·have:=hv.2;rw[Ay h]at this;cases this
     exact h
    rcases ht with⟨x1,x2,x3,x4⟩|⟨x1,x2,x3,x4,x5⟩
    ·rw[x1];simp only[show((0:Int)==0)=true from rfl,Af,show decide ((0:Int)>0)=false from rfl,Ac];rw[b _ _ (by rw[LL];omega) (by simp),C4 (by simp only[Aj];omega)];simp only[Aa];rw[JK _ _ (by rw[Fu,Ah,LL,LL];simp only[Aj];omega),nW,C4 (by rw[Xv];simp only[Ah,Aj];omega)];simp only[Aa];rw[ad1 (by omega)];refine⟨v++([IntKind.u8.wrap (EU l[i].Text)]++f0 l[i].Text),?_,by rw[Av],?_,h0 _⟩
     ·congr 4;apply R9;rw[Fu,Fu,QM,QM,kX,Av]
     simp only[Ah,Aj,Xv];omega
    have hb:(l[i].Back==0)=false:=by simp;omega
    rw[hb,Ab (by omega:l[i].Back>0)];simp only[Af,Ac];rw[b _ _ (by rw[LL];omega) (by simp),C4 (by simp only[AH,Bf];omega)];simp only[Aa];rw[ad1 (by omega)];refine⟨v++ [IntKind.u8.wrap (ad 128 l[i].Size),IntKind.u8.wrap l[i].Back],?_,rfl,?_,h0 _⟩
    ·congr 4;apply R9;rw[Fu,QM]
    simp only[Ah,AH,Bf];omega)
   (λv hv=>⟨_,_,by simp only[Hl,AD,An,As,Ac],by simp only[Hs,AD,An,As,Ac],rfl,by have:=hv.1;omega,hv.2⟩) (s:=[122]) ⟨by simp,by rw[LC];rfl⟩
  have e0:(H3 [122],(0:Int))=(bs [122],(0:Int)):=by rw[show H3 [122]=bs [122]from R9 (by rw[LC,Mi];rfl)]
  simp only[e0]at h1;rw[h1,h2];simp only[Aa];rw[CX,LL,BT,DZ (by omega) (by omega)];by_cases hc:((L s).length:Int)+1<=(v.length:Int)
  ·rw[Ab hc,Af,JK _ _ (by rw[Mi];simp only[Aj];omega)];refine⟨_,true,rfl,rfl,by simp,λ_=>⟨hs,.inr ?_⟩⟩;rw[Fu,Mi];rfl
  rw[Ae hc,Ac];exact⟨_,true,rfl,rfl,by simp,λ_=>⟨hs,.inl h4⟩⟩
 rw[Ab (by omega:((L s).length:Int)>64),Af,Af];exact⟨_,false,rfl,rfl,by simp,by simp⟩
def Ni (t:Bw):Prop:=(t.Back=0/\t.Size=0/\1<=(L t.Text).length/\(L t.Text).length<=31)\/(t.Back≠0/\1<=t.Size/\t.Size<=31/\L t.Text=[])
theorem Y6:Md=Ga:=by
 funext l;unfold Md Ga;have hb:Kd l=FJ l:=by
  funext out y;unfold Kd FJ
  cases decide (y<ln l)with
  |false=>rfl
  |true=>
   simp only[Af]
   cases gi l y with
   |none=>rfl
   |some t=>
    simp only[Aa,aK,UI,nW]
    have h2:(λs:List Int×Int=>MQ t s.1 s.2)=λs:List Int×Int=>GM t s.1 s.2:=rfl
    rw[h2]
    cases t.Back==0 with
    |false=>rfl
    |true=>
     simp only[Af];cases t.Size !=0<;>cases(decide (1<=EU t.Text)&&decide (EU t.Text<=31))<;>rfl
 rw[hb]
theorem Nh (l:List Bw) (hl:l.length<=1048576):∃p ok,Ga l=some (p,ok)/\(ok=true->∀t∈l,Ni t):=by
 unfold Ga;obtain⟨r,h1,h2⟩:=Bx (body:=λq:List Int×Int=>FJ l q.1 q.2) (λ(o:List Int) i=>(o,i)) l.length (λi o=>o.length<=64/\∀(j:Nat) t,j<i->l[j]?=some t->Ni t) (λr=>(∃o,r= .inl o/\∀t∈l,Ni t)\/r= .inr (bs [],false))
  (λo i hi ho=>by
   have hg:l[i]?=some l[i]:=Ad hi;obtain⟨h,d⟩:=ho;simp only[FJ,AD,Ab hi,Af,AA,hg,Aa,UI];have bad:∀k:(List Int)⊕((List Int×Int)⊕(List Int)⊕(ByteArray×Bool)),k= .inr (.inr (.inr (bs [],false)))->∃b,(some k).bind (Sum.elim (λj1=>cond (decide ((ln j1)>64)) (some (.inr (.inr (bs [],false)))) (some (.inl (j1,ad (i:Int) 1)))) some)=some (.inr b)/\((∃o,b= .inl o/\∀t∈l,Ni t)\/b= .inr (bs [],false)):=by
    rintro k rfl;exact⟨_,rfl,.inr rfl⟩
   have good:∀(o':List Int),Ni l[i]->(∃s',(some (.inl o':(List Int)⊕(List Int×Int)⊕(List Int)⊕(ByteArray×Bool))).bind (Sum.elim (λj1=>cond (decide ((ln j1)>64)) (some (.inr (.inr (bs [],false)))) (some (.inl (j1,ad (i:Int) 1)))) some)=some (.inl (s',((i+1:Nat):Int)))/\s'.length<=64/\∀(j:Nat) t,j<i+1->l[j]?=some t->Ni t)\/∃b,(some (.inl o':(List Int)⊕(List Int×Int)⊕(List Int)⊕(ByteArray×Bool))).bind (Sum.elim (λj1=>cond (decide ((ln j1)>64)) (some (.inr (.inr (bs [],false)))) (some (.inl (j1,ad (i:Int) 1)))) some)=some (.inr b)/\((∃o,b= .inl o/\∀t∈l,Ni t)\/b= .inr (bs [],false)):=by
    intro o' ht;simp only[Aa,B3];by_cases h64:o'.length<=64
    ·rw[Ae (by rw[BT];omega),Ac,ad1 (by omega)];refine .inl ⟨o',rfl,h64,λj t hj a=>?_⟩;by_cases e:j=i
     ·subst e;rw[hg]at a
      injection a with a
      rw[<-a];exact ht
     exact d j t (by omega) a
    rw[Ab (by rw[BT];omega),Af];exact .inr ⟨_,rfl,.inr rfl⟩
   by_cases hb:l[i].Back=0
   ·rw[hb];simp only[show((0:Int)==0)=true from rfl,Af];rw[CX];by_cases hx:(1<=(L l[i].Text).length/\(L l[i].Text).length<=31)/\l[i].Size=0
    ·obtain⟨⟨f,g⟩,c⟩:=hx;rw[Ab (by omega:(1:Int)<=((L l[i].Text).length:Int)),Ab (by omega:((L l[i].Text).length:Int)<=31),c];simp only[Gs,Ap,Ac,Aa,show((0:Int) !=0)=false from rfl];rw[C4 (by rw[Xv];omega)];simp only[Aa];exact good _ (.inl ⟨hb,c,f,g⟩)
    by_cases h1:1<=(L l[i].Text).length/\(L l[i].Text).length<=31
    ·have hs:(l[i].Size !=0)=true:=by simp;intro e;exact hx ⟨h1,e⟩
     rw[Ab (by omega:(1:Int)<=((L l[i].Text).length:Int)),Ab (by omega:((L l[i].Text).length:Int)<=31),hs];simp only[Gs,Ap,Ac,Af,Aa];exact .inr (bad _ rfl)
    have hd:(decide ((1:Int)<=((L l[i].Text).length:Int))&&decide (((L l[i].Text).length:Int)<=31))=false:=by
     rw[FC,AX,AX];omega
    rw[hd];simp only[AM,Af,Aa];exact .inr (bad _ rfl)
   have hb':(l[i].Back==0)=false:=by simpa using hb
   rw[hb'];simp only[Ac];rw[BT,QU,Mi];by_cases hx:(1<=l[i].Back/\l[i].Back<=(o.length:Int))/\(1<=l[i].Size/\l[i].Size<=31)/\L l[i].Text=[]
   ·obtain⟨⟨y1,y2⟩,⟨y3,y4⟩,y5⟩:=hx;rw[Ab y1,Ab y2,Ab y3,Ab y4,Ab y5];simp only[Gs,Ap,Ac,Aa];obtain⟨o',q1,q2⟩:=Bx (body:=λq:List Int×Int=>GM l[i] q.1 q.2) (λ(o:List Int) k=>(o,k)) l[i].Size.toNat (λk u=>u.length=o.length+k) (λ_=>True)
     (λu k hk hu=>by
      simp only[GM];rw[Ab (by omega:(k:Int)<l[i].Size),Af,CB (by rw[BT];omega) (by rw[BT];omega),BT,SM (by omega) (by omega)];simp only[Aa];rw[C4 (by simp only[Aj];omega),ad1 (by omega)]
      exact .inl ⟨_,rfl,by simp only[Ah,Aj];omega⟩)
     (λu hu=>⟨u,by simp only[GM];rw[Ae (by omega),Ac],trivial⟩) (s:=o) (by omega)
    rw[q1];simp only[Aa];exact good _ (.inr ⟨hb,y3,y4,y5⟩)
   refine .inr ?_
   cases c1:(decide (1<=l[i].Back)&&decide (l[i].Back<=(o.length:Int)))with
   |false=>
    simp only[AM,Af,Aa];exact bad _ rfl
   |true=>
    simp only[Ap,Ac,Aa]
    cases c2:(decide (1<=l[i].Size)&&decide (l[i].Size<=31))with
    |false=>
     simp only[AM,Af,Aa];exact bad _ rfl
    |true=>
     simp only[Ap,Ac,Aa];have c3:decide (L l[i].Text=[])=false:=by
      rw[AX];intro e;simp only[Ai,A4]at c1 c2;exact hx ⟨c1,c2,e⟩
     rw[c3];simp only[AM,Af]
     exact bad _ rfl)
  (λo ho=>⟨_,by simp only[FJ,AD,An,As,Ac],.inl ⟨o,rfl,λt ht=>by
   obtain⟨j,hj,rfl⟩:=AI ht
   exact ho.2 j _ hj (Ad hj)⟩⟩) (s:=[]) ⟨by simp,λj t hj=>by omega⟩
 rw[h1]
 rcases h2 with⟨o,rfl,h2⟩|rfl
 ·exact⟨_,true,rfl,λ_=>h2⟩
 exact⟨_,false,rfl,by simp⟩
theorem To (c:UInt8):IntKind.i64.wrap (c.toNat:Int)=(c.toNat:Int):=TE (by omega) (by have:=c.toNat_lt;omega)
theorem Wf (rem:ByteArray) (a:List Bw) (h:0<(L rem).length) (ho:a.length<=1048576) (hr:(L rem).length<=1048576):
  Db rem a=some (if 128<=(L rem)[0].toNat/\2<=(L rem).length then .inl (rem.extract 2 (L rem).length,a++ [Bw.mk (((L rem)[1]?.getD 0).toNat:Int) (((L rem)[0].toNat:Int)-128) (bs [])])
   else if(L rem)[0].toNat<128/\(L rem)[0].toNat<(L rem).length then .inl (rem.extract (1+(L rem)[0].toNat) (L rem).length,a++ [Bw.mk 0 0 (rem.extract 1 (1+(L rem)[0].toNat))])
   else .inr (.inr ([],false))):=by
 have d:=(L rem)[0].toNat_lt;have b:seq rem (bs [])=false:=by
  rw[QU,Mi,AX];intro e;rw[e]at h;simp at h
 have c:∀x:Bw,ap 32 a [x]=some (a++ [x]):=λx=>C4 (by simp only[Aj];omega)
 unfold Db;rw[b];have s0:sx rem 0=some ((L rem)[0].toNat:Int):=I1 rem (i:=0) h;simp only[AM,Af,s0,Aa,To,CX,c];have c0:ad 1 ((L rem)[0].toNat:Int)=((1+(L rem)[0].toNat:Nat):Int):=by rw[DZ (by omega) (by omega)];omega
 rw[c0];by_cases h1:128<=(L rem)[0].toNat
 ·rw[Ab (by omega:((L rem)[0].toNat:Int)>=128),Ae (by omega:¬((L rem)[0].toNat:Int)<128)];simp only[Af,Ac,Aa];by_cases h2:2<=(L rem).length
  ·rw[Ab (by omega:((L rem).length:Int)>=2),Af,Ar ⟨h1,h2⟩];have s1:sx rem 1=some ((L rem)[1].toNat:Int):=I1 rem (i:=1) (by omega);have s2:sub rem 2 ((L rem).length:Int)=some (rem.extract 2 (L rem).length):=IQ rem (i:=2) h2 (A5 _);rw[s1,s2,CB (by omega) (by omega)];simp only[Aa,To];rw[Ad (by omega:1<(L rem).length)];rfl
  rw[Ae (by omega:¬((L rem).length:Int)>=2),Ac,Au (λe=>h2 e.2),Au (λe=>by omega)]
 rw[Ae (by omega:¬((L rem)[0].toNat:Int)>=128),Ab (by omega:((L rem)[0].toNat:Int)<128),Au (λe=>h1 e.1)];simp only[Af,Ac,Aa];by_cases h2:(L rem)[0].toNat<(L rem).length
 ·rw[Ab (by omega:((L rem)[0].toNat:Int)<((L rem).length:Int)),Af,Ar ⟨by omega,h2⟩];have s1:sub rem 1 ((1+(L rem)[0].toNat:Nat):Int)=some (rem.extract 1 (1+(L rem)[0].toNat)):=IQ rem (i:=1) (by omega) (by omega);have s2:sub rem ((1+(L rem)[0].toNat:Nat):Int) ((L rem).length:Int)=some (rem.extract (1+(L rem)[0].toNat) (L rem).length):=IQ rem (by omega) (A5 _);rw[s1,s2];rfl
 rw[Ae (by omega:¬((L rem)[0].toNat:Int)<((L rem).length:Int)),Ac,Au (λe=>h2 e.2)]
theorem TT (rem:ByteArray) (a:List Bw) (h:(L rem).length=0):Db rem a=some (.inr (.inl a)):=by
 have b:seq rem (bs [])=true:=by
  rw[QU,Mi,A4];exact Ay h
 unfold Db;rw[b];rfl
theorem We (t:ByteArray) (b:List Bw) (a:Nat) (h:a<(L t).length) (ho:b.length<=1048576) (hr:(L t).length<=1048576):
  CO t b (a:Int)=some (if 128<(L t)[a].toNat then(if a+2<=(L t).length then .inl (b++ [Bw.mk (((L t)[a+1]?.getD 0).toNat:Int) (((L t)[a].toNat:Int)-128) (bs [])],((a+2:Nat):Int))else .inr (.inr (b,false)))
   else if a+1+(L t)[a].toNat<=(L t).length then .inl (b++ [Bw.mk 0 0 (t.extract (a+1) (a+1+(L t)[a].toNat))],((a+1+(L t)[a].toNat:Nat):Int))
   else .inr (.inr (b,false))):=by
 have d:=(L t)[a].toNat_lt
 have c:∀x:Bw,ap 32 b [x]=some (b++ [x]):=λx=>C4 (by simp only[Aj];omega)
 have c2:ad (a:Int) 2=((a+2:Nat):Int):=by rw[DZ (by omega) (by omega)];omega
 have c3:ad ((a+1:Nat):Int) ((L t)[a].toNat:Int)=((a+1+(L t)[a].toNat:Nat):Int):=by rw[DZ (by omega) (by omega)];omega
 unfold CO;rw[CX,Ab (by omega:(a:Int)<((L t).length:Int)),Af,I1 t h];simp only[Aa,To,c];rw[c2,ad1 (by omega),c3];by_cases h1:128<(L t)[a].toNat
 ·rw[Ab (by omega:((L t)[a].toNat:Int)>128),Af,Ar h1];by_cases h2:a+2<=(L t).length
  ·rw[Ae (by omega:¬((a+2:Nat):Int)>((L t).length:Int)),Ac,Ar h2,I1 t (by omega:a+1<(L t).length),CB (by omega) (by omega)];simp only[Aa,To];rw[Ad (by omega:a+1<(L t).length)];rfl
  rw[Ab (by omega:((a+2:Nat):Int)>((L t).length:Int)),Af,Au h2]
 rw[Ae (by omega:¬((L t)[a].toNat:Int)>128),Ac,Au h1];by_cases h2:a+1+(L t)[a].toNat<=(L t).length
 ·rw[Ae (by omega:¬((a+1+(L t)[a].toNat:Nat):Int)>((L t).length:Int)),Ac,Ar h2,IQ t (by omega) h2];rfl
 rw[Ab (by omega:((a+1+(L t)[a].toNat:Nat):Int)>((L t).length:Int)),Af,Au h2]
theorem TS (t:ByteArray) (b:List Bw) (a:Nat) (h:(L t).length<=a):CO t b (a:Int)=some (.inr (.inl b)):=by
 unfold CO;rw[CX,Ae (by omega:¬(a:Int)<((L t).length:Int)),Ac]
theorem kQ (rem:ByteArray) (a:List Bw) (h:a.length+(L rem).length<=1048576):∃r,Aq (λq:ByteArray×List Bw=>Db q.1 q.2) (rem,a)=some r/\((∃l,r= .inl l/\l.length<=1048576/\∀t∈a,t∈l)\/r= .inr ([],false)):=by
 obtain⟨r,h1,_,h2⟩:=OU (body:=λq:ByteArray×List Bw=>Db q.1 q.2) (body':=λq:ByteArray×List Bw=>Db q.1 q.2) (λq=>(L q.1).length) (λq=>q.2.length+(L q.1).length<=1048576/\∀t∈a,t∈q.2) (λr=>(∃l,r= .inl l/\l.length<=1048576/\∀t∈a,t∈l)\/r= .inr ([],false))
  (by
   rintro⟨rem,o⟩ ⟨hl,ho⟩;simp only at hl ho;simp only
   rcases Fy (L rem).length with h0|h0
   ·rw[TT rem o h0];exact .inr ⟨_,rfl,rfl,.inl ⟨o,rfl,by omega,ho⟩⟩
   rw[Wf rem o h0 (by omega) (by omega)];split
   ·rename_i hc;refine .inl ⟨_,rfl,rfl,⟨?_,λt ht=>Ax _ (ho t ht)⟩,?_⟩
    ·simp only[Ah,Aj,KS,AK,C7];omega
    simp only[KS,AK,C7];omega
   split
   ·rename_i hc;refine .inl ⟨_,rfl,rfl,⟨?_,λt ht=>Ax _ (ho t ht)⟩,?_⟩
    ·simp only[Ah,Aj,KS,AK,C7];omega
    simp only[KS,AK,C7];omega
   exact .inr ⟨_,rfl,rfl,.inr rfl⟩) _ (rem,a) (A5 _) ⟨h,λt ht=>ht⟩
 exact⟨r,h1,h2⟩
theorem kP (t:ByteArray) (b:List Bw) (a:Nat) (ha:a<=(L t).length) (h:b.length<=a) (hr:(L t).length<=1048576):∃r,Aq (λq:List Bw×Int=>CO t q.1 q.2) (b,(a:Int))=some r/\((∃l,r= .inl l/\l.length<=1048576/\∀x∈b,x∈l)\/∃l,r= .inr (l,false)/\l.length<=1048576):=by
 obtain⟨r,h1,_,h2⟩:=OU (body:=λq:List Bw×Int=>CO t q.1 q.2) (body':=λq:List Bw×Int=>CO t q.1 q.2) (λq=>(L t).length-q.2.toNat) (λq=>∃a:Nat,q.2=(a:Int)/\a<=(L t).length/\q.1.length<=a/\∀x∈b,x∈q.1) (λr=>(∃l,r= .inl l/\l.length<=1048576/\∀x∈b,x∈l)\/∃l,r= .inr (l,false)/\l.length<=1048576)
  (by
   rintro⟨o,at_⟩ ⟨a,ha,hl,hb,ho⟩;simp only at ha hb ho;subst ha;simp only
   rcases Cv a (L t).length with h0|h0
   ·rw[We t o a h0 (by omega) hr];split
    ·split
     ·refine .inl ⟨_,rfl,rfl,⟨a+2,rfl,by omega,by simp only[Ah,Aj];omega,λt ht=>Ax _ (ho t ht)⟩,by simp only;omega⟩
     exact .inr ⟨_,rfl,rfl,.inr ⟨o,rfl,by omega⟩⟩
    split
    ·refine .inl ⟨_,rfl,rfl,⟨_,rfl,by assumption,by simp only[Ah,Aj];omega,λt ht=>Ax _ (ho t ht)⟩,by simp only;omega⟩
    exact .inr ⟨_,rfl,rfl,.inr ⟨o,rfl,by omega⟩⟩
   rw[TS t o a h0]
   exact .inr ⟨_,rfl,rfl,.inl ⟨o,rfl,by omega,ho⟩⟩) _ (b,(a:Int)) (A5 _) ⟨a,rfl,ha,h,λt ht=>ht⟩
 exact⟨r,h1,h2⟩
theorem kO (t:ByteArray) (hr:(L t).length<=1048576):∀(n a:Nat) (rem:ByteArray) (d:List Bw),(L t).length-a<=n->a<=(L t).length->L rem=(L t).drop a->d.length<=a->
  ∃ri rs,Aq (λq:ByteArray×List Bw=>Db q.1 q.2) (rem,d)=some ri/\Aq (λq:List Bw×Int=>CO t q.1 q.2) (d,(a:Int))=some rs/\
   ((∃l,ri= .inl l/\rs= .inl l/\l.length<=1048576)\/((ri= .inr ([],false)\/∃l,ri= .inl l/\l.length<=1048576/\∃x∈l,¬Ni x)/\((∃l,rs= .inr (l,false)/\l.length<=1048576)\/∃l,rs= .inl l/\l.length<=1048576/\∃x∈l,¬Ni x))):=by
 intro n
 induction n with
 |zero=>
  intro a rem d h1 h2 h3 h4;have ha:a=(L t).length:=by omega
  have g:(L rem).length=0:=by rw[h3,ha];simp
  refine⟨_,_,by rw[A9];simp only[TT rem d g],by rw[A9];simp only[TS t d a (by omega)],.inl ⟨d,rfl,rfl,by omega⟩⟩
 |succ n ih=>
  intro a rem d h1 h2 h3 h4
  rcases Cv a (L t).length with h0|h0
  ·have o:(L rem).length=(L t).length-a:=by rw[h3];simp
   have h:0<(L rem).length:=by omega
   have i:(L rem)[0]=(L t)[a]:=by simp only[h3];simp
   have j:(L rem)[1]?.getD 0=(L t)[a+1]?.getD 0:=by rw[h3,BJ]
   have c:=Wf rem d h (by omega) (by omega);have b:=We t d a h0 (by omega) hr
   have f:∀k,L (rem.extract k (L rem).length)=(L t).drop (a+k):=λk=>by
    rw[KS,h3,DG,AT];simp only[C7];omega
   rw[i,j]at c
   rcases KY (L t)[a].toNat 128 with hc|hc|hc
   ·rw[Au (by omega)]at c;rw[Au (by omega)]at b;by_cases hk:a+1+(L t)[a].toNat<=(L t).length
    ·rw[Ar (by omega)]at c;rw[Ar hk]at b;obtain⟨ri,rs,q1,q2,q3⟩:=ih (a+1+(L t)[a].toNat) (rem.extract (1+(L t)[a].toNat) (L rem).length) (d++ [Bw.mk 0 0 (t.extract (a+1) (a+1+(L t)[a].toNat))]) (by omega) hk (by rw[f,Gr]) (by simp only[Ah,Aj];omega);have etx:rem.extract 1 (1+(L t)[a].toNat)=t.extract (a+1) (a+1+(L t)[a].toNat):=by
      apply R9;rw[KS,KS,h3,DG];congr 1;omega
     refine⟨ri,rs,?_,?_,q3⟩
     ·rw[A9];simp only[c];rw[etx];exact q1
     rw[A9];simp only[b];exact q2
    rw[Au (by omega)]at c;rw[Au hk]at b;exact⟨_,_,by rw[A9];simp only[c],by rw[A9];simp only[b],.inr ⟨.inl rfl,.inl ⟨d,rfl,by omega⟩⟩⟩
   ·
    have hI:∃ri,Aq (λq:ByteArray×List Bw=>Db q.1 q.2) (rem,d)=some ri/\(ri= .inr ([],false)\/∃l,ri= .inl l/\l.length<=1048576/\∃x∈l,¬Ni x):=by
     by_cases hk:2<=(L rem).length
     ·rw[Ar ⟨by omega,hk⟩]at c;obtain⟨r,q1,q2⟩:=kQ (rem.extract 2 (L rem).length) (d++ [Bw.mk (((L t)[a+1]?.getD 0).toNat:Int) (((L t)[a].toNat:Int)-128) (bs [])]) (by rw[f];simp only[Ah,Aj,C7];omega);refine⟨r,by rw[A9];simp only[c];exact q1,?_⟩
      rcases q2 with⟨l,rfl,q3,q4⟩|rfl
      ·refine .inr ⟨l,rfl,q3,_,q4 _ (A8 _ (A7.2 rfl)),?_⟩;intro hk
       rcases hk with⟨_,_,k3,_⟩|⟨_,k2,_⟩
       ·simp only[Mi,Bf]at k3;omega
       simp only at k2;omega
      exact .inl rfl
     rw[Au (λe=>hk e.2),Au (by omega)]at c;exact⟨_,by rw[A9];simp only[c],.inl rfl⟩
    have hS:∃rs,Aq (λq:List Bw×Int=>CO t q.1 q.2) (d,(a:Int))=some rs/\((∃l,rs= .inr (l,false)/\l.length<=1048576)\/∃l,rs= .inl l/\l.length<=1048576/\∃x∈l,¬Ni x):=by
     rw[Au (by omega)]at b;by_cases hk:a+1+(L t)[a].toNat<=(L t).length
     ·rw[Ar hk]at b;obtain⟨r,q1,q2⟩:=kP t (d++ [Bw.mk 0 0 (t.extract (a+1) (a+1+(L t)[a].toNat))]) (a+1+(L t)[a].toNat) hk (by simp only[Ah,Aj];omega) hr;refine⟨r,by rw[A9];simp only[b];exact q1,?_⟩
      rcases q2 with⟨l,rfl,q3,q4⟩|⟨l,rfl,q3⟩
      ·refine .inr ⟨l,rfl,q3,_,q4 _ (A8 _ (A7.2 rfl)),?_⟩;intro m
       rcases m with⟨_,_,_,k4⟩|⟨k1,_⟩
       ·simp only[KS,AK,C7]at k4;omega
       exact k1 rfl
      exact .inl ⟨l,rfl,q3⟩
     rw[Au hk]at b;exact⟨_,by rw[A9];simp only[b],.inl ⟨d,rfl,by omega⟩⟩
    obtain⟨ri,q1,q2⟩:=hI;obtain⟨rs,q3,q4⟩:=hS;exact⟨ri,rs,q1,q3,.inr ⟨q2,q4⟩⟩
   rw[Ar hc]at b;by_cases hk:a+2<=(L t).length
   ·rw[Ar ⟨by omega,by omega⟩]at c;rw[Ar hk]at b;obtain⟨ri,rs,q1,q2,q3⟩:=ih (a+2) (rem.extract 2 (L rem).length) (d++ [Bw.mk (((L t)[a+1]?.getD 0).toNat:Int) (((L t)[a].toNat:Int)-128) (bs [])]) (by omega) hk (f 2) (by simp only[Ah,Aj];omega);exact⟨ri,rs,by rw[A9];simp only[c];exact q1,by rw[A9];simp only[b];exact q2,q3⟩
   rw[Au (by omega),Au (by omega)]at c;rw[Au hk]at b;exact⟨_,_,by rw[A9];simp only[c],by rw[A9];simp only[b],.inr ⟨.inl rfl,.inl ⟨d,rfl,by omega⟩⟩⟩
  have ha:a=(L t).length:=by omega
  have g:(L rem).length=0:=by rw[h3,ha];simp
  refine⟨_,_,by rw[A9];simp only[TT rem d g],by rw[A9];simp only[TS t d a (by omega)],.inl ⟨d,rfl,rfl,by omega⟩⟩
theorem mB (t:ByteArray) (hr:(L t).length<=1048576):∃li oi ls os pi ki ps ks,MF t=some (li,oi)/\Ll t=some (ls,os)/\Md li=some (pi,ki)/\Ga ls=some (ps,ks)/\((oi=os/\pi=ps/\ki=ks)\/((oi=false\/ki=false)/\(os=false\/ks=false))):=by
 obtain⟨ri,rs,q1,q2,q3⟩:=kO t hr ((L t).length) 0 t [] (by omega) (by omega) (by simp) (by simp);have e0:(([]:List Bw),((0:Nat):Int))=([],0):=rfl;simp only[e0]at q2;unfold MF Ll;rw[q1,q2,Y6];have none:∀l:List Bw,l.length<=1048576->(∃x∈l,¬Ni x)->∃p,Ga l=some (p,false):=by
  rintro l hl ⟨x,hx,hn⟩;obtain⟨p,ok,h1,h2⟩:=Nh l hl
  cases ok with
  |false=>exact⟨p,h1⟩
  |true=>exact absurd (h2 rfl x hx) hn
 rcases q3 with⟨l,rfl,rfl,hl⟩|⟨hi,hs⟩
 ·obtain⟨p,ok,h1,_⟩:=Nh l hl;exact⟨l,true,l,true,p,ok,p,ok,rfl,rfl,h1,h1,.inl ⟨rfl,rfl,rfl⟩⟩
 have hI:∃li oi pi ki,(some ri).bind (Sum.elim (λv1=>some (v1,true)) some)=some (li,oi)/\Ga li=some (pi,ki)/\(oi=false\/ki=false):=by
  rcases hi with rfl|⟨l,rfl,hl,hb⟩
  ·obtain⟨p,ok,h1,_⟩:=Nh [] (by simp);exact⟨[],false,p,ok,rfl,h1,.inl rfl⟩
  obtain⟨p,h1⟩:=none l hl hb;exact⟨l,true,p,false,rfl,h1,.inr rfl⟩
 have hS:∃li oi pi ki,(some rs).bind (Sum.elim (λv1=>some (v1,true)) some)=some (li,oi)/\Ga li=some (pi,ki)/\(oi=false\/ki=false):=by
  rcases hs with⟨l,rfl,hl⟩|⟨l,rfl,hl,hb⟩
  ·obtain⟨p,ok,h1,_⟩:=Nh l hl;exact⟨l,false,p,ok,rfl,h1,.inl rfl⟩
  obtain⟨p,h1⟩:=none l hl hb;exact⟨l,true,p,false,rfl,h1,.inr rfl⟩
 obtain⟨li,oi,pi,ki,a1,a2,a3⟩:=hI;obtain⟨ls,os,ps,ks,b1,b2,b3⟩:=hS;exact⟨li,oi,ls,os,pi,ki,ps,ks,a1,b1,a2,b2,.inr ⟨a3,b3⟩⟩
theorem VS (t:ByteArray) (hr:(L t).length<=1048576):∃u ok,Ie t=some (u,ok)/\Ka t=some (u,ok)/\(ok=false->u=bs [])/\(ok=true->(L u).length<=64):=by
 unfold Ie Ka;rw[CX,QU,Mi];by_cases h0:L t=[]
 ·rw[h0];exact⟨_,false,rfl,rfl,by simp,by simp⟩
 have a:0<(L t).length:=by
  rcases Fy (L t).length with h|h
  ·exact absurd (Ay h) h0
  exact h
 have e1:(((L t).length:Int)==0)=false:=by simp;exact h0
 rw[e1,Ae h0,Ac,Ac];have s1:sub t 1 ((L t).length:Int)=some (t.extract 1 (L t).length):=IQ t (i:=1) (by omega) (A5 _);have s0:sx t 0=some ((L t)[0].toNat:Int):=I1 t (i:=0) a;rw[s1,s0];simp only[Aa];generalize hx:t.extract 1 (L t).length=x;have b:(L x).length<=1048576:=by rw[<-hx,KS];simp;omega
 obtain⟨li,oi,ls,os,pi,ki,ps,ks,a1,a2,a3,a4,a5⟩:=mB x b;rw[a1,a2];simp only[Aa];rw[a3,a4];simp only[Aa];have back:∀j:ByteArray,∃u ok,((K6 j).bind λv3=>(cond (!v3.2) (some true) (some (!(seq v3.1 t))):Option Bool).bind λj2=>cond j2 (some (bs [],false)) (some (j,true)):Option (ByteArray×Bool))=some (u,ok)/\
   ((KL j).bind λv3=>(cond (!v3.2) (some true) (some (!(seq v3.1 t))):Option Bool).bind λj2=>cond j2 (some (bs [],false)) (some (j,true)):Option (ByteArray×Bool))=some (u,ok)/\(ok=false->u=bs [])/\(ok=true->(L u).length<=64/\((L t)[0].toNat=122\/(L t)[0].toNat=114)):=by
  intro j;obtain⟨z,ok,p1,p2,p3,p4⟩:=bE j;rw[p1,p2];simp only[Aa]
  cases ok with
  |false=>exact⟨_,false,rfl,rfl,by simp,by simp⟩
  |true=>
   simp only[Ap,Ac,Aa]
   cases hz:seq z t with
   |false=>exact⟨_,false,rfl,rfl,by simp,by simp⟩
   |true=>
    have c:z=t:=by rw[NK,A4]at hz;exact hz
    obtain⟨p5,p6⟩:=p4 rfl;refine⟨_,true,rfl,rfl,by simp,λ_=>⟨p5,?_⟩⟩;rw[c,Ad a]at p6
    rcases p6 with p6|p6
    ·injection p6 with p6;left;rw[p6];rfl
    injection p6 with p6;right;rw[p6];rfl
 by_cases h122:(L t)[0].toNat=122
 ·have c1:((((L t)[0].toNat:Nat):Int)==122)=true:=by simp[h122]
  have c2:((((L t)[0].toNat:Nat):Int) !=114)=true:=by simp[h122]
  rw[c1,c2];simp only[Af]
  rcases a5 with⟨rfl,rfl,rfl⟩|⟨hi,hs⟩
  ·cases oi with
   |false=>exact⟨_,false,rfl,rfl,by simp,by simp⟩
   |true=>
    cases ki with
    |false=>exact⟨_,false,rfl,rfl,by simp,by simp⟩
    |true=>
     simp only[Ap,Ac,Aa,B3];obtain⟨u,ok,b1,b2,b3,b4⟩:=back pi;exact⟨u,ok,b1,b2,b3,λh=>(b4 h).1⟩
  refine⟨bs [],false,?_,?_,by simp,by simp⟩
  ·rcases hs with rfl|rfl
   ·rfl
   cases os<;>rfl
  rcases hi with rfl|rfl
  ·rfl
  cases oi<;>rfl
 have c1:((((L t)[0].toNat:Nat):Int)==122)=false:=by simp;omega
 rw[c1];simp only[Ac,Aa,B3];by_cases h114:(L t)[0].toNat=114
 ·have c2:((((L t)[0].toNat:Nat):Int) !=114)=false:=by simp[h114]
  rw[c2];simp only[Ac,Aa,B3];obtain⟨u,ok,b1,b2,b3,b4⟩:=back x;exact⟨u,ok,b1,b2,b3,λh=>(b4 h).1⟩
 have c2:((((L t)[0].toNat:Nat):Int) !=114)=true:=by simp;omega
 rw[c2];simp only[Af];have nope:∀(j u:ByteArray) (ok:Bool),(ok=true->(L u).length<=64/\((L t)[0].toNat=122\/(L t)[0].toNat=114))->ok=false:=by
  intro j u ok d
  cases ok with
  |false=>rfl
  |true=>rcases(d rfl).2 with h|h<;>omega
 obtain⟨u,ok,b1,b2,b3,b4⟩:=back x;have k1:=nope x u ok b4;subst k1;have k2:=b3 rfl;subst k2;refine⟨bs [],false,b1,?_,by simp,by simp⟩
 cases oi with
 |false=>rfl
 |true=>
  cases ki with
  |false=>rfl
  |true=>
   simp only[Ap,Ac,Aa,B3];obtain⟨u,ok,d1,d2,d3,d4⟩:=back pi;have k1:=nope pi u ok d4;subst k1;have k2:=d3 rfl;subst k2;exact d2
def KX (a:Arena):Prop:=a.Knots.length<=1048576
theorem hD (x a b:Int):BV x a b=some (decide (a<=x/\x<=b)):=by
 rw[UI];congr 1;rw[Ck];simp
theorem RF (a:Arena):GX a=Fi a:=by
 unfold GX Fi;have hb:Ki a=Do a:=by
  funext y;unfold Ki Do
  cases decide (y<ln a.Knots)with
  |false=>rfl
  |true=>
   simp only[Af]
   cases gi a.Knots y with
   |none=>rfl
   |some k=>
    simp only[Aa]
    cases h:(ln k.Kids !=4)with
    |true=>rfl
    |false=>
     simp only[Ac];have h4:ln k.Kids=4:=by simpa using h
     have:(λs:Int=>Kh a y k s)=λs:Int=>Dn a y k s:=by
      funext s;unfold Kh Dn;rw[h4,aK]
     rw[this]
 rw[hb]
def Og (a:Arena) (i:Nat) (k:Knot) (n:Int):Prop:=if k.Leaf=true then 0<=n else n= -1\/(0<=n/\n<i/\∃k',gi a.Knots n=some k'/\k'.Leaf=true)
theorem fK (a:Arena) (ha:KX a):∃v,Fi a=some v/\(v=true->∀(i:Nat) k,a.Knots[i]?=some k->k.Kids.length=4/\∀n∈k.Kids,Og a i k n):=by
 unfold KX at ha;unfold Fi;obtain⟨r,h1,h2⟩:=Bx (body:=λs:Int=>Do a s) (λ(_:Unit) i=>i) a.Knots.length (λi _=>∀(j:Nat) k,j<i->a.Knots[j]?=some k->k.Kids.length=4/\∀n∈k.Kids,Og a j k n) (λr=>r= .inr false\/r= .inl ()/\∀(i:Nat) k,a.Knots[i]?=some k->k.Kids.length=4/\∀n∈k.Kids,Og a i k n)
  (λ_ i hi hs=>by
   obtain⟨k,hk⟩:∃k,a.Knots[i]?=some k:=⟨_,Ad hi⟩;simp only[Do,AD,Ab hi,Af,AA,hk,Aa];by_cases h4:k.Kids.length=4
   ·have e1:(ln k.Kids !=4)=false:=by simp[ln,h4]
    simp only[e1,Ac];obtain⟨r,q1,q2⟩:=Bx (body:=λs:Int=>Dn a (i:Int) k s) (λ(_:Unit) j=>j) 4 (λj _=>∀(m:Nat) n,m<j->k.Kids[m]?=some n->Og a i k n) (λr=>r= .inr (.inr (.inr false))\/r= .inl ()/\∀n∈k.Kids,Og a i k n)
     (λ_ j hj d=>by
      obtain⟨n,hn⟩:∃n,k.Kids[j]?=some n:=⟨_,Ad (by omega)⟩;simp only[Dn];rw[Ab (by omega:(j:Int)<4),Af,AA,hn];simp only[Aa]
      have good:Og a i k n->(∃s':Unit,(cond false (some (.inr (.inr (.inr (.inr false))))) (some (.inl (ad (j:Int) 1))):Option (Int⊕Unit⊕Int⊕Unit⊕Bool))=some (.inl ((j+1:Nat):Int))/\∀(m:Nat) n,m<j+1->k.Kids[m]?=some n->Og a i k n):=λf=>by
       refine⟨(),by rw[Ac,ad1 (by omega)],λm n' hm b=>?_⟩;by_cases e:m=j
       ·subst e;rw[hn]at b
        injection b with b
        rw[<-b];exact f
       exact d m n' (by omega) b
      cases hl:k.Leaf with
      |true=>
       simp only[Af,Ap,Ac];by_cases h0:n<0
       ·rw[Ab h0,Af];exact .inr ⟨_,rfl,.inl rfl⟩
       rw[Ae h0,Ac];simp only[Aa];exact .inl (good (by unfold Og;rw[Ar hl];omega))
      |false=>
       simp only[Ac,AM,Af];by_cases h1:n= -1
       ·have:(n != -1)=false:=by simp[h1]
        rw[this];simp only[Ac,Aa];exact .inl (good (by unfold Og;rw[Au (by rw[hl];simp)];exact .inl h1))
       have:(n != -1)=true:=by simp[h1]
       rw[this];simp only[Af];rw[CB (by omega) (by omega),hD];simp only[Aa];by_cases h2:0<=n/\n<=(i:Int)-1
       ·rw[Ab h2];simp only[Ap,Ac];rw[SM h2.1 (by omega)];simp only[Aa]
        cases g:(a.Knots[n.toNat]'(by omega)).Leaf with
        |true=>
         simp only[Ap];refine .inl (good ?_);unfold Og;rw[Au (by rw[hl];simp)];exact .inr ⟨h2.1,by omega,_,SM h2.1 (by omega),g⟩
        |false=>
         simp only[AM,Af];exact .inr ⟨_,rfl,.inl rfl⟩
       rw[Ae h2];simp only[AM,Af,Aa]
       exact .inr ⟨_,rfl,.inl rfl⟩)
     (λ_ d=>⟨_,by simp only[Dn];rw[Ae (by omega:¬((4:Nat):Int)<4),Ac],.inr ⟨rfl,λn hn=>by
      obtain⟨m,hm,rfl⟩:=AI hn
      exact d m _ (by omega) (Ad hm)⟩⟩) (s:=()) (λm n hm=>by omega)
    have q1':Aq (λs:Int=>Dn a (i:Int) k s) 0=some r:=q1;rw[q1']
    rcases q2 with rfl|⟨rfl,q2⟩
    ·exact .inr ⟨_,rfl,.inl rfl⟩
    simp only[Aa,B3];rw[ad1 (by omega)];refine .inl ⟨(),rfl,λj k' hj c=>?_⟩;by_cases e:j=i
    ·subst e;rw[hk]at c
     injection c with c
     rw[<-c];exact⟨h4,q2⟩
    exact hs j k' (by omega) c
   have e1:(ln k.Kids !=4)=true:=by simp[ln];omega
   simp only[e1,Af]
   exact .inr ⟨_,rfl,.inl rfl⟩)
  (λ_ hs=>⟨_,by simp only[Do,AD,An,As,Ac],.inr ⟨rfl,λi k hk=>hs i k (Ag.1 hk).1 hk⟩⟩) (s:=()) (λj k hj=>by omega)
 have h1':Aq (λs:Int=>Do a s) 0=some r:=h1;rw[h1']
 rcases h2 with rfl|⟨rfl,h2⟩
 ·exact⟨_,rfl,by simp⟩
 exact⟨_,rfl,λ_=>h2⟩
theorem bG (a:Arena) (ha:KX a) (root:Int) (s:Nat) (hs:s<16):∃v,Rc a root (s:Int)=some v/\Rw a root (s:Int)=some v:=by
 have f:a.Knots.length<=1048576:=ha;obtain⟨ok,h1,h2⟩:=fK a ha;unfold Rc Rw;rw[RF,h1,aK];simp only[Aa,hD];rw[Ab (by omega:(0:Int)<=(s:Int)/\(s:Int)<=15)];simp only[Ap,Ac,Aa];have d:∃b,EF a root=some b/\FZ a root=some (b||root== -1)/\(b=true->0<=root/\∃k,gi a.Knots root=some k/\k.Leaf=false):=by
  unfold EF FZ;rw[aK,CB (by rw[BT];omega) (by rw[BT];omega),BT,hD];simp only[Aa];by_cases hr:0<=root/\root<=(a.Knots.length:Int)-1
  ·have e1:(root== -1)=false:=by simp;omega
   rw[Ab hr,e1];simp only[Af,Ac,Mj];rw[SM hr.1 (by omega)];exact⟨_,rfl,rfl,λhb=>⟨hr.1,_,rfl,by simpa using hb⟩⟩
  rw[Ae hr];simp only[Ac];refine⟨false,rfl,?_,by simp⟩;cases root== -1<;>rfl
 obtain⟨b,r1,r2,r3⟩:=d;rw[r1,r2];simp only[Aa]
 cases ok with
 |false=>
  simp only[AM,Af,Aa];cases b<;>exact⟨0,rfl,rfl⟩
 |true=>
  simp only[Ap,Ac]
  cases b with
  |false=>
   simp only[HS,AM,Af,Aa]
   cases hm:(root== -1)with
   |false=>exact⟨0,rfl,rfl⟩
   |true=>
    have hr:root= -1:=by simpa using hm
    simp only[Ap,Ac,Aa,K2,hr];rw[Ab (by omega:(-1:Int)<0)];exact⟨0,rfl,rfl⟩
  |true=>
   obtain⟨hr,k,hk,hl⟩:=r3 rfl;simp only[fJ,Ap,Ac,Aa,K2,Qh,hk];rw[Ae (by omega:¬root<0),Ac];obtain⟨g1,g2⟩:=HA hk;obtain⟨k4,kk⟩:=h2 rfl root.toNat k g2;have eq4:qu (s:Int) 4=((s/4:Nat):Int):=by
    unfold qu;rw[show Int.tdiv (s:Int) 4=((s/4:Nat):Int)from rfl,TE (by omega) (by omega)]
   have em:Int.tmod (s:Int) 4=((s %4:Nat):Int):=rfl;rw[eq4,em,SM (by omega) (by omega)];simp only[Aa,AZ];have e:k.Kids[s/4]'(by omega)∈k.Kids:=Bm _;have c:=kk _ e;unfold Og at c;rw[Au (by rw[hl];simp)]at c
   rcases c with c|⟨c1,c2,k',c3,c4⟩
   ·rw[c,Ab (by omega:(-1:Int)<0)];exact⟨0,rfl,rfl⟩
   rw[Ae (by omega),Ac,c3];simp only[Aa];obtain⟨g3,g4⟩:=HA c3;obtain⟨k4',_⟩:=h2 rfl _ k' g4;rw[SM (by omega) (by omega)];exact⟨_,rfl,rfl⟩
theorem KT (a:Arena) (ha:KX a) (root:Int):∃l,IT a root=some l/\Pe a root=some l/\l.length=16:=by
 unfold IT Pe;obtain⟨l,h1,h2,h3⟩:=LW (body:=λs:List Int×Int=>K7 a root s.1 s.2) (body':=λs:List Int×Int=>KM a root s.1 s.2) (λ(o:List Int) i=>(o,i)) (λ(o:List Int) i=>(o,i)) 16 (λi o=>o.length=i) (λo=>o.length=16)
  (λo i hi ho=>by
   obtain⟨v,g1,g2⟩:=bG a ha root i hi;simp only[K7,KM];rw[Ab (by omega:(i:Int)<16),Af,Af,g1,g2];simp only[Aa];rw[C4 (by simp only[Aj];omega),ad1 (by omega)]
   exact .inl ⟨_,rfl,rfl,by simp only[Ah,Aj];omega⟩)
  (λo ho=>⟨o,by simp only[K7];rw[Ae (by omega:¬((16:Nat):Int)<16),Ac],by simp only[KM];rw[Ae (by omega:¬((16:Nat):Int)<16),Ac],ho⟩) (s:=[]) rfl
 rw[h1,h2];exact⟨l,rfl,rfl,h3⟩
theorem Zc (s:Store) (id:Int) (hs:s.Vols.length<=1048576):∃v:Int,DI s id=some v/\IW s id=some v/\(v<0\/0<=v/\v<s.Vols.length):=by
 have e:IW s id=DI s id:=rfl;rw[e];unfold DI;obtain⟨r,h1,h2⟩:=Bx (body:=λq:Int=>FH s id q) (λ(_:Unit) i=>i) s.Vols.length (λ_ _=>True) (λr=>r= .inl ()\/∃v:Int,r= .inr v/\0<=v/\v<s.Vols.length)
  (λ_ i hi _=>by
   have hg:s.Vols[i]?=some s.Vols[i]:=Ad hi;simp only[FH,AD,Ab hi,Af,AA,hg,Aa]
   cases s.Vols[i].Id==id with
   |true=>exact .inr ⟨_,rfl,.inr ⟨_,rfl,by omega,by omega⟩⟩
   |false=>
    simp only[Ac];rw[ad1 (by omega)]
    exact .inl ⟨(),rfl,trivial⟩)
  (λ_ _=>⟨_,by simp only[FH,AD,An,As,Ac],.inl rfl⟩) (s:=()) trivial
 have h1':Aq (λq:Int=>FH s id q) 0=some r:=h1;rw[h1']
 rcases h2 with rfl|⟨v,rfl,h2⟩
 ·exact⟨-1,rfl,rfl,.inl (by omega)⟩
 exact⟨v,rfl,rfl,.inr h2⟩
theorem fI (s:Store) (hv:s.Vols.length<=1048576) (ha:KX s.Arena) (id:Int) (k:Nat) (hk:k<16):∃v,OP s id (k:Int)=some v/\Pd s id (k:Int)=some v:=by
 unfold OP Pd;obtain⟨v,h1,h2,h3⟩:=Zc s id hv;rw[h1,h2];simp only[Aa]
 rcases h3 with h3|⟨h3,h4⟩
 ·rw[Ab h3];exact⟨0,rfl,rfl⟩
 rw[Ae (by omega),Ac,Ac,SM h3 h4];simp only[Aa];obtain⟨u,g1,g2⟩:=bG s.Arena ha (s.Vols[v.toNat]'(by omega)).Root k hk;rw[g1,g2];exact⟨u,rfl,rfl⟩
def nG:AE:=AE.mk 0 0 (Page.mk 0 0 0 0 0 (bs []))
def Oi (c:Int) (y:AE):Bool:=y.Page.Kind==1&&y.Page.Tx==c
def J9 (r:List AE) (o:Option Nat):AE:=match o with
 |some j=>r[j]?.getD nG
 |none=>nG
def PD (c:Int) (r:List AE) (n:Nat) (o:Option Nat):Prop:=match o with
 |none=>∀(k:Nat) y,k<n->r[k]?=some y->Oi c y=false
 |some j=>j<n/\(∃y,r[j]?=some y/\Oi c y=true)/\∀(k:Nat) y,j<k->k<n->r[k]?=some y->Oi c y=false
theorem jH {c:Int} {o o':Option Nat} (h:PD c r r.length o) (h':PD c r r.length o'):o=o':=by
 cases o with
 |none=>
  cases o' with
  |none=>rfl
  |some j=>
   obtain⟨h1,⟨y,h2,h3⟩,_⟩:=h';rw[h j y h1 h2]at h3;cases h3
 |some j=>
  obtain⟨h1,⟨y,h2,h3⟩,h4⟩:=h
  cases o' with
  |none=>
   rw[h' j y h1 h2]at h3;cases h3
  |some i=>
   obtain⟨k1,⟨z,k2,k3⟩,k4⟩:=h'
   rcases KY i j with e|e|e
   ·rw[k4 j y e h1 h2]at h3;cases h3
   ·rw[e]
   rw[h4 i z e k1 k2]at k3;cases k3
theorem jE (r:List AE) (hr:r.length<=1048576) (c:Int):∃o,Lj r c=some (J9 r o,o.isSome)/\PD c r r.length o:=by
 unfold Lj;rw[CB (by rw[BT];omega) (by rw[BT];omega),BT];obtain⟨b,h1,h2⟩:=Bx (body:=λs:Int=>Gz r c s) (λ(_:Unit) i=>(r.length:Int)-1-i) r.length (λi _=>∀(k:Nat) y,r.length-i<=k->k<r.length->r[k]?=some y->Oi c y=false) (λb=>(b= .inl ()/\PD c r r.length none)\/∃j,b= .inr (J9 r (some j),true)/\PD c r r.length (some j))
  (λ_ i hi hs=>by
   have e1:((r.length:Int)-1-(i:Int))=((r.length-1-i:Nat):Int):=by omega
   have a:r.length-1-i<r.length:=by omega
   have hg:r[r.length-1-i]?=some r[r.length-1-i]:=Ad a;simp only[Gz,e1];rw[Ab (by omega:((r.length-1-i:Nat):Int)>=0),Af];simp only[AA,hg,Aa]
   have next:Oi c r[r.length-1-i]=false->∃s':Unit,(some (.inl (sb ((r.length-1-i:Nat):Int) 1)):Option (Int⊕Unit⊕(AE×Bool)))=some (.inl ((r.length:Int)-1-((i+1:Nat):Int)))/\∀(k:Nat) y,r.length-(i+1)<=k->k<r.length->r[k]?=some y->Oi c y=false:=λd=>by
    refine⟨(),by rw[CB (by omega) (by omega)];congr 2;omega,λk y h1 h2 h3=>?_⟩;by_cases e:k=r.length-1-i
    ·subst e;rw[hg]at h3
     injection h3 with h3
     rw[<-h3];exact d
    exact hs k y (by omega) h2 h3
   cases hk:r[r.length-1-i].Page.Kind==1 with
   |false=>
    simp only[Ac,Aa];exact .inl (next (by unfold Oi;rw[hk];rfl))
   |true=>
    simp only[Af,Aa]
    cases ht:r[r.length-1-i].Page.Tx==c with
    |false=>
     simp only[Ac];exact .inl (next (by unfold Oi;rw[ht,Bool.and_false]))
    |true=>
     simp only[Af];refine .inr ⟨_,rfl,.inr ⟨r.length-1-i,?_,a,⟨_,hg,by unfold Oi;rw[hk,ht];rfl⟩,λk y h1 h2 h3=>hs k y (by omega) h2 h3⟩⟩
     simp only[J9,hg,Bu])
  (λ_ hs=>⟨_,by simp only[Gz];rw[Ae (by omega),Ac],.inl ⟨rfl,λk y h1 h2=>hs k y (by omega) h1 h2⟩⟩) (s:=()) (λk y h1 h2=>by omega)
 have e0:((r.length:Int)-1-0)=(r.length:Int)-1:=by omega
 rw[e0]at h1;rw[h1]
 rcases h2 with⟨rfl,h2⟩|⟨j,rfl,h2⟩
 ·exact⟨none,rfl,h2⟩
 exact⟨some j,rfl,h2⟩
theorem oT {j:Nat} {x:AE} (h:srt Bz r) (a:j<i) (hx:r[j]?=some x) (hy:r[i]?=some y):x.Page.Seq<=y.Page.Seq:=by
 unfold srt at h;obtain⟨h1,h2⟩:=Ag.1 hx;obtain⟨h3,h4⟩:=Ag.1 hy;rw[<-h2,<-h4];exact CL.1 h j i h1 h3 a
theorem j6 (f:Flash) (r:List AE) (l:Ge f=some r) (hr:r.length<=1048576) (m:srt Bz r) (c:Int):∃o,Rq f c=some (J9 r o,o.isSome)/\PD c r r.length o:=by
 unfold Rq;rw[l];simp only[Aa];obtain⟨b,h1,o,rfl,h2⟩:=Bx (body:=λs:Bool×Int×Int×Int×Int×Int×Int×Int×Int×ByteArray=>HL c r s.1 s.2.1 s.2.2.1 s.2.2.2.1 s.2.2.2.2.1 s.2.2.2.2.2.1 s.2.2.2.2.2.2.1 s.2.2.2.2.2.2.2.1 s.2.2.2.2.2.2.2.2.1 s.2.2.2.2.2.2.2.2.2)
  (λ(o:Option Nat) i=>(o.isSome,i,(J9 r o).Block,(J9 r o).Leaf,(J9 r o).Page.Kind,(J9 r o).Page.Seq,(J9 r o).Page.Tx,(J9 r o).Page.Part,(J9 r o).Page.Count,(J9 r o).Page.Text)) r.length (λi o=>PD c r i o)
  (λb=>∃o,b=(o.isSome,(J9 r o).Block,(J9 r o).Leaf,(J9 r o).Page.Kind,(J9 r o).Page.Seq,(J9 r o).Page.Tx,(J9 r o).Page.Part,(J9 r o).Page.Count,(J9 r o).Page.Text)/\PD c r r.length o)
  (λo i hi ho=>by
   have hg:r[i]?=some r[i]:=Ad hi;refine .inl ?_;simp only[HL,AD,Ab hi,Af,AA,hg,Aa]
   have keep:Oi c r[i]=false->PD c r (i+1) o:=λd=>by
    cases o with
    |none=>
     intro k y h1 h2;by_cases e:k=i
     ·subst e;rw[hg]at h2;injection h2 with h2;rw[<-h2];exact d
     exact ho k y (by omega) h2
    |some j=>
     obtain⟨h1,h2,h3⟩:=ho;refine⟨by omega,h2,λk y h4 h5 h6=>?_⟩;by_cases e:k=i
     ·subst e;rw[hg]at h6;injection h6 with h6;rw[<-h6];exact d
     exact h3 k y h4 (by omega) h6
   cases hk:r[i].Page.Kind==1 with
   |false=>
    simp only[Ac,Aa];rw[ad1 (by omega)];exact⟨o,rfl,keep (by unfold Oi;rw[hk];rfl)⟩
   |true=>
    simp only[Af]
    cases ht:r[i].Page.Tx==c with
    |false=>
     simp only[Ac,Aa];rw[ad1 (by omega)];exact⟨o,rfl,keep (by unfold Oi;rw[ht,Bool.and_false])⟩
    |true=>
     simp only[Af];have g:Oi c r[i]=true:=by unfold Oi;rw[hk,ht];rfl
     have a:PD c r (i+1) (some i):=⟨by omega,⟨_,hg,g⟩,λk y h1 h2=>by omega⟩;have h:J9 r (some i)=r[i]:=by simp only[J9,hg,Bu]
     cases o with
     |none=>
      simp only[Hv,AM,Af,Aa];rw[ad1 (by omega)];exact⟨some i,by rw[h];rfl,a⟩
     |some j=>
      obtain⟨h1,⟨y,h2,h3⟩,_⟩:=ho;have n:J9 r (some j)=y:=by simp only[J9,h2,Bu]
      have p:=oT m h1 h2 hg;simp only[Option.isSome_some,Ap,Ac,Aa,n];rw[Ab (by omega:r[i].Page.Seq>=y.Page.Seq)];simp only[Af];rw[ad1 (by omega)]
      exact⟨some i,by rw[h];rfl,a⟩)
  (λo ho=>⟨_,by simp only[HL,AD,An,As,Ac],o,rfl,ho⟩) (s:=none) (λk y h1=>by omega)
 have h1':Aq (λs:Bool×Int×Int×Int×Int×Int×Int×Int×Int×ByteArray=>HL c r s.1 s.2.1 s.2.2.1 s.2.2.2.1 s.2.2.2.2.1 s.2.2.2.2.2.1 s.2.2.2.2.2.2.1 s.2.2.2.2.2.2.2.1 s.2.2.2.2.2.2.2.2.1 s.2.2.2.2.2.2.2.2.2) (false,0,0,0,0,0,0,0,0,bs [])=_:=h1;rw[h1'];exact⟨o,rfl,h2⟩
theorem ZB (hT:∀b∈f.Blocks,∀x∈b.Leaves,(L x.Text).length<=1048576) (h:Oh f y):(L y.Page.Text).length<=90:=by
 obtain⟨b,x,h1,h2,_,h3⟩:=h;obtain⟨_,g1⟩:=HA h1;obtain⟨_,g2⟩:=HA h2;obtain⟨p,ok,k1,_,_,k2⟩:=HR x.Text (by have:=hT b (A6 g1) x (A6 g2);omega);rw[h3]at k1
 injection k1 with k1
 injection k1 with k1 k3
 have hp:=k2 k3.symm;obtain⟨v,q1,_,q2⟩:=Sv p;rw[hp]at q1
 injection q1 with q1
 obtain⟨_,_,_,_,_,q3⟩:=q2 q1.symm;rw[k1];rw[CX]at q3;omega
structure fB (f:Flash) (r:List AE):Prop where
 s:I7 f=some r
 i:Ge f=some r
 len:r.length<=1048576
 page:∀y∈r,Oh f y
 text:∀y∈r,(L y.Page.Text).length<=90
 srt:srt Bz r
theorem iD (f:Flash) (hz:JE f<=1048576):∃r,fB f r:=by
 obtain⟨hf,hT⟩:=qA f hz;have hn:nl f.Blocks<=1048576:=Hw (uC f) hz;obtain⟨r,h1,h2,h3,h4,h5⟩:=Vu f hf hT hn;exact⟨r,h1,h2,by omega,h4,λy hy=>ZB hT (h4 y hy),h5⟩
theorem RE (h:fB f r) (c:Int):∃u ok,LM r c=some (u,ok)/\J6 f c=some (u,ok):=by
 obtain⟨o,h1,h2⟩:=jE r h.len c;obtain⟨o',h3,h4⟩:=j6 f r h.i h.len h.srt c;obtain rfl:=jH h2 h4;unfold LM J6;rw[h1,h3];simp only[Aa]
 cases o with
 |none=>exact⟨_,_,rfl,rfl⟩
 |some j=>
  simp only[Option.isSome_some,Ap,Ac];obtain⟨_,⟨y,k1,_⟩,_⟩:=h2;have a:J9 r (some j)=y:=by simp only[J9,k1,Bu]
  obtain⟨u,ok,p1,p2,_⟩:=VS y.Page.Text (by have:=h.text y (A6 k1);omega);rw[a,p1,p2];exact⟨_,_,rfl,rfl⟩
theorem Oj (x a b:Int):Hp x a b=some (decide (a<=x/\x<=b)):=by
 unfold Hp;by_cases h:x>=a
 ·rw[Ab h,Af];by_cases h2:x<=b
  ·rw[Ab h2,Ab ⟨h,h2⟩]
  rw[Ae h2,Ae λhh=>h2 hh.2]
 rw[Ae h,Ac,Ae λhh=>h hh.1]
theorem JA (h:l.length<=1048576):GB l=some l:=by
 unfold GB;rw[IK (by omega)];rfl
theorem Oo (a:Arena) (h:nS a.Knots):GD a=some a:=by
 unfold GD;have q:=UD (body:=λs:Int×List Knot=>GC a s.1 s.2) a.Knots (λk=>k)
  (λi x b hx ho=>by
   have hi:=(Ag.1 hx).1;have hk:=h.2 x (A6 hx);simp only[GC,AD,Ab hi,Af,AA,hx,Aa];rw[JA hk];simp only[Aa];have:=h.1;rw[C4 (by simp;omega),ad1 (by omega)]
   rfl)
  (λb=>by simp only[GC,AD,An,As,Ac])
 rw[q];simp
theorem Ol (s:Store) (h:nS s.Arena.Knots) (hv:s.Vols.length<=1048576):GA s=some s:=by
 unfold GA;rw[IK (by omega),Oo _ h];rfl
theorem GW (a:Arena) (ha:a.Knots.length<=1048576):GX a=some (Cr a.Knots):=by rw[RF,FM a ha]
theorem Lt (a:Arena) (ha:a.Knots.length<=1048576) (r:Int):EF a r=some (decide (0<=r/\r<(a.Knots.length:Int))&&!(Bo a.Knots r).Leaf):=by
 unfold EF;rw[Oj,BT,CB (by omega) (by omega)];simp only[Aa];by_cases h:0<=r/\r<(a.Knots.length:Int)
 ·rw[Ab (by omega:0<=r/\r<=(a.Knots.length:Int)-1),Ab h,Af,FR h.1 h.2];simp
 rw[Ae (by omega:¬(0<=r/\r<=(a.Knots.length:Int)-1)),Ae h,Ac];simp
theorem ZM {a:Arena} {r:Int} (ha:a.Knots.length<=1048576) (hr:CC a.Knots r=true):(cond (r !=(-1)) ((EF a r).bind λv2=>some (!v2)) (some false):Option Bool)=some false:=by
 rcases BE hr with rfl|⟨h0,h1,hl⟩
 ·rfl
 rw[show(r !=(-1))=true by simp;omega,Af,Lt a ha,Ab ⟨h0,h1⟩,hl];rfl
theorem d7 {r:Int} {s:Nat} (a:Arena) (ha:a.Knots.length<=1048000) (hK:Cr a.Knots=true) (hr:CC a.Knots r=true) (hs:s<16) (hn:0<=n):
  T1 a r (s:Int) n=some (Arena.mk (Hn a.Knots r s n),(a.Knots.length:Int)+1):=by
 unfold T1;rw[Oo _ (Kj hK (by omega)),GW a (by omega),Oj,hK];simp only[Aa,Ap,Ac];rw[Ab (by omega:0<=(s:Int)/\(s:Int)<=15),Ae (by omega:¬n<0)];simp only[Ap,Ac,Aa];have hq:(cond (r !=(-1)) ((EF a r).bind λv2=>cond (!v2) (some true) (some false)) (some false):Option Bool)=some false:=by
  rcases BE hr with rfl|⟨h0,h1,hl⟩
  ·rfl
  rw[show(r !=(-1))=true by simp;omega,Af,Lt a (by omega),Ab ⟨h0,h1⟩,hl];rfl
 rw[hq,wL];simp only[Aa,Ac];have fin:∀(lf tp:List Int),lf.length=4->tp.length=4->Hn a.Knots r s n=a.Knots++ [Knot.mk true (lf.set (s %4) n),Knot.mk false (tp.set (s/4) (a.Knots.length:Int))]->
   ((gi lf (Int.tmod (s:Int) 4)).bind λx4=>(gi tp (qu (s:Int) 4)).bind λx5=>(ap 32 a.Knots [Knot.mk true (si lf (Int.tmod (s:Int) 4) n),Knot.mk false (si tp (qu (s:Int) 4) (ln a.Knots))]).bind λq2=>some (Arena.mk q2,ad (ln a.Knots) 1))=some (Arena.mk (Hn a.Knots r s n),(a.Knots.length:Int)+1):=by
  intro lf tp h1 h2 h3;rw[rX hs,kR,AA,AA,Ad (by omega),Ad (by omega)];simp only[Aa];rw[C4 (by simp;omega),EO,EO,BT,<-h3,ad1 (by omega)];rfl
 rcases BE hr with rfl|⟨h0,h1,hl⟩
 ·rw[Ae (by omega:¬(-1:Int)>=0)];simp only[Ac,Aa];have hx:gi [(-1:Int),-1,-1,-1] (qu (s:Int) 4)=some (-1):=by
   rw[rX hs,AA];have:s/4<4:=by omega
   match s/4,this with
   |0,_=>rfl
   |1,_=>rfl
   |2,_=>rfl
   |3,_=>rfl
   |n+4,h=>omega
  rw[hx];simp only[Aa];rw[Ae (by omega:¬(-1:Int)>=0)];simp only[Ac,Aa];have:=fin [0,0,0,0] [-1,-1,-1,-1] rfl rfl rfl;rw[hx]at this;exact this
 rw[Ab (by omega:r>=0),Af,FR h0 h1];have h4:=(DL hK h0 h1).1;simp only[Aa];rw[JA (by omega)];simp only[Aa];have hx:gi (Bo a.Knots r).Kids (qu (s:Int) 4)=some (HT (Bo a.Knots r) (s/4)):=by rw[rX hs,aF (by omega:s/4<(Bo a.Knots r).Kids.length)]
 rw[hx];simp only[Aa]
 rcases Eq hK h0 h1 hl (show s/4<4 by omega)with e|⟨e1,e2,e3⟩
 ·rw[Ae (by omega:¬HT (Bo a.Knots r) (s/4)>=0)];simp only[Ac,Aa];have:=fin [0,0,0,0] (Bo a.Knots r).Kids rfl h4 (by unfold Hn Lr Po;simp only[Au (show¬r<0 by omega),Ar (show HT (Bo a.Knots r) (s/4)<0 by omega)]);rw[hx]at this;exact this
 rw[Ab (by omega:HT (Bo a.Knots r) (s/4)>=0),Af,FR e1 (by omega)];have h5:=(DL hK e1 (by omega)).1;simp only[Aa];rw[JA (by omega)];simp only[Aa];have:=fin (Bo a.Knots (HT (Bo a.Knots r) (s/4))).Kids (Bo a.Knots r).Kids h5 h4 (by unfold Hn Lr Po;simp only[Au (show¬r<0 by omega),Au (show¬HT (Bo a.Knots r) (s/4)<0 by omega)]);rw[hx]at this;exact this
theorem Ry (l:List Int) (n:Int) (hl:l.length<=1048576):KK l n=some (l.contains n):=by
 unfold KK;obtain⟨b,h1,h2⟩:=Bx (body:=λs:Int=>J1 l n s) (λ(_:Unit) i=>i) l.length (λi _=>n∉l.take i) (λb=>(b= .inr true/\n∈l)\/(b= .inl ()/\n∉l))
  (λ_ i hi hs=>by
   have hx:=Ad hi;simp only[J1,AD,Ab hi,Af,AA,hx,Aa];rw[ad1 (by omega)]
   cases e:(l[i]==n)with
   |true=>exact .inr ⟨_,rfl,.inl ⟨rfl,by
    have e2:l[i]=n:=by simpa using e
    rw[<-e2]
    exact Bm hi⟩⟩
   |false=>
    refine .inl ⟨(),by simp only[Ac],?_⟩;rw[Az hi,Al,A7];rintro(h|h)
    ·exact hs h
    rw[h]at e;simp at e)
  (λ_ hs=>⟨.inl (),by simp only[J1,AD,An,As,Ac],.inr ⟨rfl,by rw[Br]at hs;exact hs⟩⟩) (s:=()) (by simp)
 rw[h1]
 rcases h2 with⟨rfl,h⟩|⟨rfl,h⟩
 ·simp[h]
 simp[h]
theorem MG {r:Int} (a:Arena) (ha:a.Knots.length<=1048000) (hK:Cr a.Knots=true) (hr:CC a.Knots r=true):∃l,Mc a r=some l/\l.length<=5/\∀i:Nat,(i:Int)∈l↔KN a.Knots r i=true:=by
 unfold Mc;rw[Lt a (by omega)];simp only[Aa]
 rcases BE hr with rfl|⟨h0,h1,hl⟩
 ·rw[Ae (by omega:¬((0:Int)<= -1/\(-1:Int)<(a.Knots.length:Int)))];exact⟨[],rfl,by simp,λi=>by simp[KN]⟩
 rw[Ab ⟨h0,h1⟩,hl,FR h0 h1];simp only[AM,Gs,Ap,Ac,Aa];obtain⟨h4,hk⟩:=DL hK h0 h1;obtain⟨l,q1,q2,q3⟩:=Bx (body:=λs:List Int×Int=>Il a (Bo a.Knots r) s.1 s.2) (λ(o:List Int) i=>(o,i)) (Bo a.Knots r).Kids.length
  (λi o=>o.length<=1+i/\∀n:Nat,(n:Int)∈o↔(r=(n:Int)\/(n:Int)∈(Bo a.Knots r).Kids.take i)) (λo=>o.length<=5/\∀n:Nat,(n:Int)∈o↔(r=(n:Int)\/(n:Int)∈(Bo a.Knots r).Kids))
  (λo i hi ho=>by
   obtain⟨o1,o2⟩:=ho;have hx:=Ad hi;have et:(Bo a.Knots r).Kids.take (i+1)=(Bo a.Knots r).Kids.take i++ [(Bo a.Knots r).Kids[i]]:=Az hi;refine .inl ?_;simp only[Il,AD,Ab hi,Af,AA,hx,Aa];rw[Oj,BT,CB (by omega) (by omega),ad1 (by omega)];simp only[Aa];have b:(Bo a.Knots r).Kids[i]=HT (Bo a.Knots r) i:=by
    have:=(hk i (by omega)).1;rw[hx]at this;injection this
   rcases Eq hK h0 h1 hl (show i<4 by omega)with e|⟨e1,e2,e3⟩
   ·rw[Ae (by omega),Ac];refine⟨o,rfl,by omega,λn=>?_⟩;rw[o2,et,Al,A7,b,e];constructor
    ·rintro(h|h)
     ·exact .inl h
     exact .inr (.inl h)
    rintro(h|h|h)
    ·exact .inl h
    ·exact .inr h
    omega
   rw[Ab (by omega),Af,Ry o _ (by omega)];simp only[Aa]
   cases hc:o.contains (Bo a.Knots r).Kids[i]with
   |true=>
    have hm:(Bo a.Knots r).Kids[i]∈o:=by simpa using hc
    refine⟨o,rfl,by omega,λn=>?_⟩;rw[o2,et,Al,A7];constructor
    ·rintro(h|h)
     ·exact .inl h
     exact .inr (.inl h)
    rintro(h|h|h)
    ·exact .inl h
    ·exact .inr h
    rw[<-h]at hm;exact(o2 n).1 hm
   |false=>
    simp only[AM,Af];rw[C4 (by simp;omega)];refine⟨_,rfl,by simp;omega,λn=>?_⟩;rw[Al,A7,o2,et,Al,A7];constructor
    ·rintro((h|h)|h)
     ·exact .inl h
     ·exact .inr (.inl h)
     exact .inr (.inr h)
    rintro(h|h|h)
    ·exact .inl (.inl h)
    ·exact .inl (.inr h)
    exact .inr h)
  (λo ho=>⟨o,by simp only[Il,AD,An,As,Ac],by have:=ho.1;omega,by have:=ho.2;rw[Br]at this;exact this⟩) (s:=[r]) ⟨by simp,λn=>by simp[eq_comm]⟩
 rw[q1];refine⟨l,rfl,q2,λi=>?_⟩;rw[q3];unfold KN;rw[Ab h0,BI,BM,A4,C8];constructor
 ·rintro(h|h)
  ·exact .inl h
  exact .inr ⟨_,h,by simp⟩
 rintro(h|⟨x,h,k⟩)
 ·exact .inl h
 right;have:x=(i:Int):=by simpa using k
 rw[<-this];exact h
theorem Ya (a:Arena) (ha:a.Knots.length<=1048000) (hK:Cr a.Knots=true) (R:List Int) (hc:R.length<=1000) (hR:∀r∈R,CC a.Knots r=true) (v:List Int):∃l,Aq (λs:List Int×Int=>E7 a R v s.1 s.2) ([],0)=some (.inl l)/\l.length<=5000/\∀i:Nat,(i:Int)∈l↔BC a.Knots R i=true:=by
 obtain⟨b,h1,l,rfl,h3,h4⟩:=Bx (body:=λs:List Int×Int=>E7 a R v s.1 s.2) (λ(o:List Int) i=>(o,i)) R.length (λi o=>o.length<=5*i/\∀n:Nat,(n:Int)∈o↔BC a.Knots (R.take i) n=true) (λb=>∃l,b= .inl l/\l.length<=5000/\∀i:Nat,(i:Int)∈l↔BC a.Knots R i=true)
  (λo i hi ho=>by
   obtain⟨o1,o2⟩:=ho;have hx:=Ad hi;have hr:=hR _ (Bm hi);obtain⟨m,m1,m2,m3⟩:=MG a ha hK hr;simp only[E7,AD,Ab hi,Af,AA,hx,Aa];rw[ZM (by omega) hr];simp only[Aa,Ac];rw[m1];simp only[Aa];rw[C4 (by omega),ad1 (by omega)];refine .inl ⟨o++m,rfl,by simp;omega,λn=>?_⟩;rw[Al,o2,m3];unfold BC
   rw[ND hx,BM])
  (λo ho=>⟨_,by simp only[E7,AD,An,As,Ac],o,rfl,by have:=ho.1;omega,by have:=ho.2;rw[Br]at this;exact this⟩) (s:=[]) ⟨by simp,λn=>by simp[BC]⟩
 exact⟨l,h1,h3,h4⟩
theorem VH (a:Arena) (ha:a.Knots.length<=1048000) (hK:Cr a.Knots=true) (R:List Int) (hR:∀r∈R,CC a.Knots r=true) (l:List Int) (h7:l.length<=5000) (hl:∀i:Nat,(i:Int)∈l↔BC a.Knots R i=true):
  Aq (λs:List Int×Int×List Knot=>E6 a l s.1 s.2.1 s.2.2) (List.replicate a.Knots.length 0,0,[])=some (Pr a.Knots R a.Knots.length,Np a.Knots R):=by
 have n:∀i:Nat,l.contains (i:Int)=BC a.Knots R i:=λi=>by
  cases hu:BC a.Knots R i with
  |true=>exact List.contains_iff_mem.2 ((hl i).2 hu)
  |false=>
   cases hc:l.contains (i:Int)with
   |false=>rfl
   |true=>have:=(hl i).1 (by simpa using hc);rw[hu]at this;cases this
 obtain⟨b,h1,h2⟩:=Bx (body:=λs:List Int×Int×List Knot=>E6 a l s.1 s.2.1 s.2.2) (λ(o:List Int×List Knot) i=>(o.1,i,o.2)) a.Knots.length
  (λi o=>o=(Pr a.Knots R i,((List.range i).filter (BC a.Knots R)).map (Tr a.Knots R))) (λb=>b=(Pr a.Knots R a.Knots.length,Np a.Knots R))
  (λo i hi ho=>by
   subst ho;have h0:(0:Int)<=(i:Int):=by omega
   have g:(i:Int)<(a.Knots.length:Int):=by omega
   simp only[E6,AD,Ab hi,Af];rw[FR h0 g,Ry l _ (by omega),n];simp only[Aa]
   cases hu:BC a.Knots R i with
   |false=>
    simp only[AM,Af];rw[ad1 (by omega)];refine .inl ⟨(Pr a.Knots R i,((List.range i).filter (BC a.Knots R)).map (Tr a.Knots R)),rfl,?_⟩;congr 1
    ·unfold Pr;apply C5;intro j hj;by_cases e:j=i
     ·subst e;rw[Au (by omega),Au (by rw[hu];simp)]
     by_cases h:j<i/\BC a.Knots R j=true
     ·rw[Ar h,Ar ⟨by omega,h.2⟩]
     rw[Au h,Au (λh3=>h ⟨by omega,h3.2⟩)]
    rw[HB,AO,BZ (by rw[hu];simp)];simp
   |true=>
    simp only[Ap,Ac];obtain⟨h4,hk⟩:=DL hK h0 g;have w:gi (Pr a.Knots R i) (i:Int)=some 0:=by
     unfold Pr;rw[AA,Gc hi,Au (by omega)]
    rw[w,JA (by omega)];simp only[Aa];have h6:=qT (K:=a.Knots) (R:=R) i;have p:(((List.range i).filter (BC a.Knots R)).map (Tr a.Knots R)).length=VE a.Knots R i:=by rw[AQ];rfl
    have f:si (Pr a.Knots R i) (i:Int) (ln (((List.range i).filter (BC a.Knots R)).map (Tr a.Knots R)))=Pr a.Knots R (i+1):=by
     rw[BT,p,EO];unfold Pr;apply LR;intro j hj;by_cases e:j=i
     ·subst e;rw[Ar ⟨by omega,hu⟩,Ar rfl]
     rw[Au e];by_cases h:j<i/\BC a.Knots R j=true
     ·rw[Ar h,Ar ⟨by omega,h.2⟩]
     rw[Au h,Au (λh3=>h ⟨by omega,h3.2⟩)]
    have inner:Aq (λs:Int×List Int=>E5 (Pr a.Knots R i) (i:Int) (((List.range i).filter (BC a.Knots R)).map (Tr a.Knots R)) (Bo a.Knots (i:Int)) s.1 s.2) (0,(Bo a.Knots (i:Int)).Kids)=some (Tr a.Knots R i).Kids:=by
     have q:=KG (body:=λs:Int×List Int=>E5 (Pr a.Knots R i) (i:Int) (((List.range i).filter (BC a.Knots R)).map (Tr a.Knots R)) (Bo a.Knots (i:Int)) s.1 s.2) (λl k=>(k,l)) (λ_ x=>bif(Bo a.Knots (i:Int)).Leaf then x else K9 a.Knots R x) (Bo a.Knots (i:Int)).Kids
      (λk l x y m d=>by
       have z:=(Ag.1 d).1;have t:k<4:=by omega
       have ex:x=HT (Bo a.Knots (i:Int)) k:=by have:=(hk k t).1;rw[d]at this;injection this
       have same:l.set k x=l:=by
        apply Cj;intro j;rw[BY];split
        ·rename_i e5;subst e5;rw[Ar (Ag.1 m).1,m]
        rfl
       simp only[E5,AD,Ab z,Af,AA,d,Aa];rw[f]
       cases u:(Bo a.Knots (i:Int)).Leaf with
       |true=>
        simp only[Ap,Ac,Af,Aa];rw[same,ad1 (by omega)]
       |false=>
        simp only[AM,Af,Ac,Aa]
        rcases Eq hK h0 g u t with e|⟨e1,e2,e3⟩
        ·rw[Ae (by omega:¬x>=0),Ac,ad1 (by omega)];have:K9 a.Knots R x=x:=by unfold K9;rw[Au (by omega)]
         rw[this,same]
        rw[Ab (by omega:x>=0),Af];obtain⟨c,hc⟩:∃c:Nat,x=(c:Int):=⟨x.toNat,by omega⟩;have h5:x∈(Bo a.Knots (i:Int)).Kids:=A6 d;have v:=QF (TQ hK hR hu u) h0 h5 (by omega);rw[hc]at v;rw[hc,AA];unfold Pr;rw[Gc (by omega)];simp only[Aa];rw[Ar ⟨by omega,v⟩,m];simp only[Aa];rw[EO,ad1 (by omega)];unfold K9;rw[Ar (by omega)]
        rfl)
      (λl y=>by simp only[E5,AD,An,As,Ac])
     rw[GQ]at q;rw[q];unfold Tr
     cases(Bo a.Knots (i:Int)).Leaf with
     |true=>simp
     |false=>rfl
    rw[inner];simp only[Aa];rw[C4 (by rw[p];simp;omega)];simp only[Aa];rw[ad1 (by omega),f];refine .inl ⟨(_,_),rfl,?_⟩;congr 1;rw[HB,AO,Cn hu,Gh,Dt]
    rfl)
  (λo ho=>⟨o,by simp only[E6,AD,An,As,Ac],ho⟩) (s:=(List.replicate a.Knots.length 0,[])) (by
   unfold Pr;simp only[Nat.not_lt_zero,false_and,Iu];rw[JS,CG]
   rfl)
 rw[<-h2];exact h1
theorem dW (a:Arena) (ha:a.Knots.length<=1048000) (hK:Cr a.Knots=true) (R:List Int) (hc:R.length<=1000) (hR:∀r∈R,CC a.Knots r=true):Kb a R=some (Arena.mk (Np a.Knots R),R.map (K9 a.Knots R)):=by
 unfold Kb;rw[JA (by omega)];simp only[Aa];obtain⟨l,l1,l2,l3⟩:=Ya a ha hK R hc hR R;rw[l1,GW a (by omega),hK];simp only[Aa,B3,Ap,Ac];rw[BT,U8 (by omega) (by omega)];simp only[Aa];rw[VH a ha hK R hR l l2 l3];simp only[Aa];have hb:(λs:List Int×Int=>DN R (Pr a.Knots R a.Knots.length,Np a.Knots R) s.1 s.2)=(λs:List Int×Int=>DN R (Pr a.Knots R a.Knots.length,Np a.Knots R) s.1 s.2):=rfl;have q:=KG (body:=λs:List Int×Int=>DN R (Pr a.Knots R a.Knots.length,Np a.Knots R) s.1 s.2) (λl k=>(l,k)) (λ_ x=>K9 a.Knots R x) R
  (λk l x h d b=>by
   have hk:=(Ag.1 b).1;simp only[DN,AD,Ab hk,Af,AA,b,Aa]
   rcases BE (hR x (A6 b))with e|⟨e1,e2,e3⟩
   ·rw[Ae (by omega:¬x>=0),Ac,ad1 (by omega)];have:K9 a.Knots R x=x:=by unfold K9;rw[Au (by omega)]
    rw[this,show l.set k x=l from by
     apply Cj;intro j;rw[BY];split
     ·rename_i e5;subst e5;rw[Ar (Ag.1 d).1,d]
     rfl]
   rw[Ab (by omega:x>=0),Af];obtain⟨c,f⟩:∃c:Nat,x=(c:Int):=⟨x.toNat,by omega⟩;have g:=LJ (K:=a.Knots) (A6 b) e1;rw[f]at g;rw[f,AA];unfold Pr;rw[Gc (by omega)];simp only[Aa];rw[Ar ⟨by omega,g⟩,d];simp only[Aa];rw[EO,ad1 (by omega)];unfold K9;rw[Ar (by omega)]
   rfl)
  (λl h=>by simp only[DN,AD,An,As,Ac])
 rw[GQ]at q;rw[q];rfl
theorem KJ (h:StoreR s):Jb s=some (I2 s):=by
 have hl:=h.len;have hf:=h.few;have e:(AR s).length=s.Vols.length:=by unfold AR;rw[AQ]
 unfold Jb;have hr:Aq (λq:List Int×Int=>Ed s q.1 q.2) ([],0)=some (AR s):=by
  obtain⟨b,h1,h2⟩:=Bx (body:=λq:List Int×Int=>Ed s q.1 q.2) (λ(o:List Int) i=>(o,i)) s.Vols.length (λi o=>o=(s.Vols.take i).map Vol.Root) (λb=>b=AR s)
   (λo i hi ho=>by
    have hx:=Ad hi;simp only[Ed,AD,Ab hi,Af,AA,hx,Aa];rw[C4 (by rw[ho];simp;omega)];simp only[Aa];rw[ad1 (by omega)]
    exact .inl ⟨_,rfl,by rw[ho,Gl,hx,Dt];rfl⟩)
   (λo ho=>⟨o,by simp only[Ed,AD,An,As,Ac],by rw[ho,AT (A5 _)];rfl⟩) (s:=[]) rfl
  rw[<-h2];exact h1
 rw[hr];simp only[Aa];rw[dW _ (by omega) h.ar _ (by omega) h.root];simp only[Aa];have q:=KG (body:=λq:Int×List Vol=>Fl s (Arena.mk (Np s.Arena.Knots (AR s)),(AR s).map (K9 s.Arena.Knots (AR s))) q.1 q.2) (λl i=>(i,l)) (λ_ v=>Vol.mk v.Id (K9 s.Arena.Knots (AR s) v.Root)) s.Vols
  (λi l x c d a=>by
   have hi:=(Ag.1 a).1;simp only[Fl,AD,Ab hi,Af];have:gi ((AR s).map (K9 s.Arena.Knots (AR s))) (i:Int)=some (K9 s.Arena.Knots (AR s) x.Root):=by
    rw[AA,AF];unfold AR;rw[AF,a];rfl
   rw[this,AA,d];simp only[Aa]
   rw[EO,ad1 (by omega)])
  (λl c=>by simp only[Fl,AD,An,As,Ac])
 rw[GQ]at q;rw[q];rfl
abbrev Vs:=List (Int×List Int)
def Tg (l:Vs) (id:Int):Option (List Int):=(l.find? λp=>p.1==id).map Prod.snd
def uG (l:Vs) (id:Int) (a:List Int):Vs:=(l.filter λp=>decide (p.1<id))++ [(id,a)]++l.filter λp=>decide (p.1>id)
def vY (l:Vs) (id:Int):Vs:=l.filter λp=>p.1 !=id
def rO (l:Vs) (id:Int) (s:Nat) (n:Int):Vs:=l.map λp=>if p.1=id then(p.1,p.2.set s n)else p
def Ri (r:GZ):Bool:=decide (0<=r.Arg/\r.Arg<=1000000000)&&(bif r.Kind==1 then r.Vol==0&&r.Chunk==0 else decide (2<=r.Kind/\r.Kind<=5)&&decide (1<=r.Vol/\r.Vol<=9)&&(r.Kind==4||r.Chunk==0)&&
 (bif r.Kind==2 then decide (r.Arg<=9)else bif r.Kind==3 then r.Arg==0 else bif r.Kind==4 then decide (r.Arg<16)&&decide (1<=r.Chunk/\r.Chunk<=1000000000)else decide (r.Arg<16)))
def Wb:List Int:=List.replicate 16 0
def JJ (l:Vs) (nx:Int) (r:GZ):Option (Vs×Int):=if Ri r=false then none else if r.Kind=1 then some ([],if r.Arg=0 then 1 else r.Arg) else if r.Kind=2 then
  if(0<r.Arg/\Tg l r.Arg=none)\/Tg l r.Vol≠none\/l.length=3 then none else some (uG l r.Vol (if 0<r.Arg then(Tg l r.Arg).getD Wb else Wb),nx) else if Tg l r.Vol=none\/r.Chunk=1000000000 then none else if r.Kind=3 then some (vY l r.Vol,nx) else some (rO l r.Vol r.Arg.toNat r.Chunk,max nx (r.Chunk+1))
theorem OM (r:GZ):M0 r=some (Ri r):=by
 unfold M0 Ri;simp only[IE,Aa]
 cases decide (0<=r.Arg/\r.Arg<=1000000000)with
 |false=>rfl
 |true=>
  simp only[Ap,Ac,BI]
  cases r.Kind==1 with
  |true=>
   simp only[Af];cases r.Vol==0<;>rfl
  |false=>
   simp only[Ac]
   cases decide (2<=r.Kind/\r.Kind<=5)with
   |false=>rfl
   |true=>
    cases decide (1<=r.Vol/\r.Vol<=9)with
    |false=>rfl
    |true=>
     have e1:(r.Kind !=4)=!(r.Kind==4):=rfl;have e2:(r.Chunk !=0)=!(r.Chunk==0):=rfl;rw[e1,e2];cases r.Kind==4<;>cases r.Chunk==0<;>cases r.Kind==2<;>cases r.Kind==3<;>cases decide (r.Arg<16)<;>rfl
theorem I5 (s:Store) (hv:s.Vols.length<=1048576) (id:Int):(DI s id=some (-1)/\∀v∈s.Vols,v.Id≠id)\/∃k:Nat,∃v,DI s id=some (k:Int)/\s.Vols[k]?=some v/\v.Id=id/\∀j w,j<k->s.Vols[j]?=some w->w.Id≠id:=by
 unfold DI;obtain⟨b,h1,h2⟩:=Bx (body:=λq:Int=>FH s id q) (λ(_:Unit) i=>i) s.Vols.length (λi _=>∀j w,j<i->s.Vols[j]?=some w->w.Id≠id)
  (λb=>(b= .inl ()/\∀v∈s.Vols,v.Id≠id)\/∃k:Nat,∃v,b= .inr (k:Int)/\s.Vols[k]?=some v/\v.Id=id/\∀j w,j<k->s.Vols[j]?=some w->w.Id≠id)
  (λ_ i hi hs=>by
   have hx:=Ad hi;simp only[FH,AD,Ab hi,Af,AA,hx,Aa]
   cases e:(s.Vols[i].Id==id)with
   |true=>exact .inr ⟨_,rfl,.inr ⟨i,_,rfl,hx,by simpa using e,hs⟩⟩
   |false=>
    simp only[Ac];rw[ad1 (by omega)];refine .inl ⟨(),rfl,λj w hj hw=>?_⟩;by_cases e2:j=i
    ·subst e2;rw[hx]at hw
     injection hw with hw
     rw[<-hw];simpa using e
    exact hs j w (by omega) hw)
  (λ_ hs=>⟨_,by simp only[FH,AD,An,As,Ac],.inl ⟨rfl,λv hv=>by
   obtain⟨j,hj,rfl⟩:=AI hv
   exact hs j _ hj (Ad hj)⟩⟩) (s:=()) (λj w hj=>by omega)
 rw[h1]
 rcases h2 with⟨rfl,h2⟩|⟨k,v,rfl,h2⟩
 ·exact .inl ⟨rfl,h2⟩
 exact .inr ⟨k,v,rfl,h2⟩
theorem Sl {id:Int}:(∀v∈s.Vols,v.Id≠id)↔Tg (Ft s) id=none:=by
 unfold Tg Ft;rw[Option.map_eq_none_iff,Pv];constructor
 ·intro h p hp;obtain⟨v,hv,rfl⟩:=AG.1 hp;simpa using h v hv
 intro h v hv;have:=h _ (AG.2 ⟨v,hv,rfl⟩);simpa using this
theorem qB {w:Vol} (h:(s.Vols.map Vol.Id).Pairwise (·<·)) (hv:v∈s.Vols) (hw:w∈s.Vols) (e:v.Id=w.Id):v=w:=by
 obtain⟨i,hi,rfl⟩:=AI hv;obtain⟨j,hj,rfl⟩:=AI hw;have gi:(s.Vols.map Vol.Id)[i]?=some s.Vols[i].Id:=by rw[AF,Ad hi];rfl
 have gj:(s.Vols.map Vol.Id)[j]?=some s.Vols[j].Id:=by rw[AF,Ad hj];rfl
 rcases KY i j with h1|h1|h1
 ·have:=LS h h1 gi gj;omega
 ·subst h1;rfl
 have:=LS h h1 gj gi;omega
theorem Sk (h:(s.Vols.map Vol.Id).Pairwise (·<·)) (hv:v∈s.Vols):Tg (Ft s) v.Id=some (G6 s.Arena.Knots v.Root):=by
 unfold Tg;have hm:(v.Id,G6 s.Arena.Knots v.Root)∈Ft s:=AG.2 ⟨v,hv,rfl⟩
 cases hf:(Ft s).find? λp=>p.1==v.Id with
 |none=>
  rw[Pv]at hf;have:=hf _ hm;simp at this
 |some p=>
  have h1:=List.find?_some hf;have h2:=List.mem_of_find?_eq_some hf;obtain⟨w,hw,rfl⟩:=AG.1 h2;have:w=v:=qB h hw hv (by simpa using h1);rw[this];rfl
theorem Vt (s:Store):(Ft s).length=s.Vols.length:=by unfold Ft;rw[AQ]
theorem Z7 (K:Ks):G6 K (-1)=Wb:=by
 unfold G6 Wb;rw[<-CG (n:=16),<-JS,CG];apply C5;intro s hs;rfl
theorem eZ (s:Store) (p:Int->Bool) (t:Store) (hk:t.Arena=s.Arena) (hv:t.Vols=s.Vols.filter λv=>p v.Id):Ft t=(Ft s).filter λq=>p q.1:=by
 unfold Ft;rw[hk,hv,List.filter_map];rfl
theorem OW {body:List Vol×Int->Option ((List Vol×Int)⊕List Vol)} (l:List Vol) (p:Vol->Bool) (o:List Vol) (hM:l.length+o.length<=1048576) (h1:∀(i:Nat) v (a:List Vol),l[i]?=some v->a.length<=1048576->body (a,(i:Int))=some (.inl (bif p v then a++ [v]else a,((i+1:Nat):Int)))) (h2:∀a,body (a,(l.length:Int))=some (.inr a)):
  Aq body (o,0)=some (o++l.filter p):=by
 obtain⟨b,h3,h4⟩:=Bx (body:=body) (λ(q:List Vol) i=>(q,i)) l.length (λi q=>q=o++(l.take i).filter p) (λb=>b=o++l.filter p)
  (λq i hi hq=>by
   have hx:=Ad hi;refine .inl ⟨_,h1 i _ q hx ?_,?_⟩
   ·rw[hq,Ah];have:=BF p (l.take i);rw[AK]at this;omega
   rw[hq,Gl,hx,AO]
   cases e:p l[i]with
   |true=>simp[e]
   |false=>simp[e])
  (λq hq=>⟨q,h2 q,by rw[hq,AT (A5 _)]⟩) (s:=o) (by simp)
 rw[h3,h4]
theorem m8 {R':List Int} (h:∀r∈R,r∈R') (hu:BC K R i=true):BC K R' i=true:=by
 unfold BC at hu⊢;rw[C8]at hu⊢;obtain⟨r,hr,h2⟩:=hu;exact⟨r,h r hr,h2⟩
theorem Ue {l:List Vol} (h:(l.map Vol.Id).Pairwise (·<·)) (v:Vol):(((l.filter λw=>decide (w.Id<v.Id))++ [v]++l.filter λw=>decide (w.Id>v.Id)).map Vol.Id).Pairwise (·<·):=by
 rw[HW]at h;rw[HW,Av,Bs];refine⟨h.filter _,?_,?_⟩
 ·rw[FB,CM];exact⟨λw hw=>by simpa using(Ct.1 hw).2,h.filter _⟩
 intro a ha b hb;have h1:a.Id<v.Id:=by simpa using(Ct.1 ha).2
 rw[FB,B6]at hb
 rcases hb with rfl|hb
 ·exact h1
 have:b.Id>v.Id:=by simpa using(Ct.1 hb).2
 omega
theorem Wr (l:List Vol) (id:Int):(l.filter λw=>decide (w.Id<id)).length+(l.filter λw=>decide (w.Id>id)).length<=l.length:=by
 induction l with
 |nil=>simp
 |cons v l ih=>
  simp only[List.filter_cons,AH];by_cases h1:v.Id<id
  ·rw[Ar (by simpa using h1),Au (by simp;omega),AH];omega
  rw[Au (by simpa using h1)];split
  ·rw[AH];omega
  omega
def IV (s:Store) (r:GZ) (o:Option (Store×Bool)):Prop:=match JJ (Ft s) s.Next r with
 |none=>o=some (s,false)
 |some (l,nx)=>∃t,o=some (t,true)/\Dd t/\Ft t=l/\t.Next=nx
theorem jY {r:GZ} (h:Dd s) (hr:Ri r=true) (hk:r.Kind=2):IV s r (EA s r):=by
 have hl:=h.len;have d:=Kj h.ar (by have:=h.few;omega);have a:=FG s d (by omega);have hb:Ri r=true:=hr;unfold Ri at hr;rw[hk]at hr;simp at hr;unfold IV JJ;rw[hb,hk];simp only[Bool.true_eq_false,Iu,BU,show¬((2:Int)=1) by omega];unfold EA;have root:(Tg (Ft s) r.Arg=none/\0<r.Arg/\(cond (decide (r.Arg>0)) ((DI s r.Arg).bind λv1=>cond (decide (v1<0)) ((D0 s).bind λv2=>some (.inr (v2,false))) ((gi s.Vols v1).bind λx1=>some (.inl x1.Root))) (some (.inl (-1))):Option (Int⊕(Store×Bool)))=some (.inr (s,false)))\/
   (¬(0<r.Arg/\Tg (Ft s) r.Arg=none)/\∃q,CC s.Arena.Knots q=true/\(q= -1\/q∈AR s)/\G6 s.Arena.Knots q=(if 0<r.Arg then(Tg (Ft s) r.Arg).getD Wb else Wb)/\(cond (decide (r.Arg>0)) ((DI s r.Arg).bind λv1=>cond (decide (v1<0)) ((D0 s).bind λv2=>some (.inr (v2,false))) ((gi s.Vols v1).bind λx1=>some (.inl x1.Root))) (some (.inl (-1))):Option (Int⊕(Store×Bool)))=some (.inl q)):=by
  by_cases h0:0<r.Arg
  ·rw[Ab (by omega:r.Arg>0)];simp only[Af]
   rcases I5 s (by omega) r.Arg with⟨h1,h2⟩|⟨k,v,h1,h2,h3,_⟩
   ·left;rw[h1,a];exact⟨Sl.1 h2,h0,rfl⟩
   right;rw[h1];have hm:=A6 h2;have hg:=Sk h.asc hm;rw[h3]at hg;refine⟨λhh=>(by rw[hg]at hh;cases hh.2),v.Root,h.root _ (AG.2 ⟨v,hm,rfl⟩),.inr (AG.2 ⟨v,hm,rfl⟩),?_,?_⟩
   ·rw[Ar h0,hg];rfl
   simp only[Aa];rw[Ae (by omega),Ac,AA,h2];rfl
  right;rw[Ae (by omega:¬r.Arg>0),Au h0];exact⟨λhh=>h0 hh.1,-1,rfl,.inl rfl,Z7 _,rfl⟩
 rcases root with⟨g1,g2,g3⟩|⟨g1,q,g2,g3,g4,g5⟩
 ·rw[g3,Ar (.inl ⟨g2,g1⟩)];rfl
 rw[g5];simp only[Aa,B3]
 rcases I5 s (by omega) r.Vol with⟨h1,h2⟩|⟨k,v,h1,h2,h3,_⟩
 ·rw[h1];simp only[Aa];rw[Ae (by omega),Ac,BT];have j:Tg (Ft s) r.Vol=none:=Sl.1 h2;by_cases h3:s.Vols.length=3
  ·rw[h3,Ar (.inr (.inr (by rw[Vt,h3])))];simp only[Aa];rw[a];rfl
  have e3:((s.Vols.length:Int)==3)=false:=by simp;omega
  rw[e3,Au (by
   rintro(hh|hh|hh)
   ·exact g1 hh
   ·exact hh j
   rw[Vt]at hh;exact h3 hh)]
  simp only[Aa,Ac];rw[a];simp only[Aa];have k1:=OW (body:=λq:List Vol×Int=>F6 s r q.1 q.2) s.Vols (λv=>decide (v.Id<r.Vol)) [] (by simp;omega)
   (λi v c hv ho=>by
    have hi:=(Ag.1 hv).1;simp only[F6,AD,Ab hi,Af,AA,hv,Aa];rw[ad1 (by omega)]
    cases decide (v.Id<r.Vol)with
    |true=>simp only[Af];rw[C4 (by simp;omega)];rfl
    |false=>rfl)
   (λc=>by simp only[F6,AD,An,As,Ac])
  rw[AC]at k1;rw[k1];simp only[Aa];have l:=Wr s.Vols r.Vol;rw[C4 (by simp;omega)];simp only[Aa];have k2:=OW (body:=λq:List Vol×Int=>F5 s r q.1 q.2) s.Vols (λv=>decide (v.Id>r.Vol)) ((s.Vols.filter λv=>decide (v.Id<r.Vol))++ [Vol.mk r.Vol q]) (by simp;omega)
   (λi v c hv ho=>by
    have hi:=(Ag.1 hv).1;simp only[F5,AD,Ab hi,Af,AA,hv,Aa];rw[ad1 (by omega)]
    cases decide (v.Id>r.Vol)with
    |true=>simp only[Af];rw[C4 (by simp;omega)];rfl
    |false=>rfl)
   (λc=>by simp only[F5,AD,An,As,Ac])
  rw[k2];simp only[Aa];have f:((s.Vols.filter λv=>decide (v.Id<r.Vol))++ [Vol.mk r.Vol q]++s.Vols.filter λv=>decide (v.Id>r.Vol)).length<=3:=by simp only[Ah,AH,Bf];omega
  have g:∀x∈AR s,x∈(AR (Store.mk ((s.Vols.filter λv=>decide (v.Id<r.Vol))++ [Vol.mk r.Vol q]++s.Vols.filter λv=>decide (v.Id>r.Vol)) s.Arena s.Next)):=by
   intro x hx;obtain⟨v,hv,rfl⟩:=AG.1 hx;refine AG.2 ⟨v,?_,rfl⟩;have:=h2 v hv;simp only[Al,Ct,A7];by_cases e:v.Id<r.Vol
   ·exact .inl (.inl ⟨hv,by simpa using e⟩)
   exact .inr ⟨hv,by simp;omega⟩
  have b:∀x∈(AR (Store.mk ((s.Vols.filter λv=>decide (v.Id<r.Vol))++ [Vol.mk r.Vol q]++s.Vols.filter λv=>decide (v.Id>r.Vol)) s.Arena s.Next)),x= -1\/x∈AR s:=by
   intro x hx;obtain⟨v,hv,rfl⟩:=AG.1 hx;simp only[Al,Ct,A7]at hv
   rcases hv with(hv|rfl)|hv
   ·exact .inr (AG.2 ⟨v,hv.1,rfl⟩)
   ·exact g3
   exact .inr (AG.2 ⟨v,hv.1,rfl⟩)
  refine⟨_,rfl,⟨⟨f,h.ar,h.nx,?_,Ue h.asc (Vol.mk r.Vol q),?_,?_,h.few⟩,?_⟩,?_,rfl⟩
  ·intro v hv;simp only[Al,Ct,A7]at hv
   rcases hv with(hv|rfl)|hv
   ·exact h.ids v hv.1
   ·show 1<=r.Vol/\r.Vol<=9;omega
   exact h.ids v hv.1
  ·intro x hx
   rcases b x hx with e|e
   ·rw[e];rfl
   exact h.root x e
  ·intro x hx
   rcases b x hx with e|e
   ·intro y hy;rw[e]at hy;change y∈G6 s.Arena.Knots (-1)at hy;rw[Z7]at hy;have:=List.eq_of_mem_replicate hy;have:=h.nx;show y<s.Next;omega
   exact h.lt x e
  ·intro i hi;exact m8 g (h.used i hi)
  rw[<-g4];unfold uG Ft;simp only[Dt,BO,List.map_nil,List.filter_map];rfl
 rw[h1];simp only[Aa];rw[Ab (by omega),Af];have hg:=Sk h.asc (A6 h2);rw[h3]at hg;rw[Ar (.inr (.inl (by rw[hg];simp)))];simp only[Aa,Af];rw[a];rfl
theorem PJ {l:List Vol} (h:(l.map Vol.Id).Pairwise (·<·)) (hv:l[k]?=some v):l.take k++l.drop (k+1)=l.filter λw=>w.Id !=v.Id:=by
 rw[HW]at h;have hk:=(Ag.1 hv).1;have e:l=l.take k++v::l.drop (k+1):=by
  have h2:=BP hk;rw[(Ag.1 hv).2]at h2;rw[<-h2,Bj]
 rw[e,Bs]at h;obtain⟨h1,h2,h3⟩:=h;rw[CM]at h2
 conv=>rhs;rw[e]
 rw[AO,BZ (by simp)];congr 1
 ·symm;rw[List.filter_eq_self];intro w hw;have:=h3 w hw v (by simp);simp;omega
 symm;rw[List.filter_eq_self];intro w hw;have:=h2.1 w hw;simp;omega
theorem nK (h:Dd s) (id:Int):StoreR (Store.mk (s.Vols.filter λw=>w.Id !=id) s.Arena s.Next):=by
 have hl:=h.len;refine⟨?_,h.ar,h.nx,λv hv=>h.ids v (Ct.1 hv).1,?_,?_,?_,h.few⟩
 ·have:=BF (λw:Vol=>w.Id !=id) s.Vols;show(s.Vols.filter λw=>w.Id !=id).length<=3;omega
 ·have:=h.asc;rw[HW]at this⊢;exact this.filter _
 ·intro x hx;obtain⟨w,hw,rfl⟩:=AG.1 hx;exact h.root _ (AG.2 ⟨w,(Ct.1 hw).1,rfl⟩)
 intro x hx;obtain⟨w,hw,rfl⟩:=AG.1 hx;exact h.lt _ (AG.2 ⟨w,(Ct.1 hw).1,rfl⟩)
theorem qS {t:Nat} (h:Dd s) (h2:s.Vols[k]?=some v) (ht:t<16) (hn:0<=n) (g:n+1<=1000000000):StoreR (Store.mk (s.Vols.set k (Vol.mk v.Id ((s.Arena.Knots.length:Int)+1))) (Arena.mk (Hn s.Arena.Knots v.Root t n)) (max s.Next (n+1))):=by
 have hl:=h.len;have hm:=A6 h2;have d:=(Ag.1 h2).1;have a:=h.root _ (AG.2 ⟨v,hm,rfl⟩);have i:=h.small
 have b:∀w∈s.Vols.set k (Vol.mk v.Id ((s.Arena.Knots.length:Int)+1)),w∈s.Vols\/w=Vol.mk v.Id ((s.Arena.Knots.length:Int)+1):=λw hw=>Je hw
 refine⟨by simpa using hl,rY h.ar a ht hn,?_,?_,?_,?_,?_,?_⟩
 ·have:=h.nx;show 1<=max s.Next (n+1)/\max s.Next (n+1)<=1000000000;omega
 ·intro w hw
  rcases b w hw with hw|rfl
  ·exact h.ids w hw
  exact h.ids v hm
 ·have:(s.Vols.set k (Vol.mk v.Id ((s.Arena.Knots.length:Int)+1))).map Vol.Id=s.Vols.map Vol.Id:=by
   rw[List.map_set];show(s.Vols.map Vol.Id).set k v.Id=_;apply Cj;intro j;rw[BY];split
   ·rename_i e;subst e;rw[AQ,Ar d,AF,h2];rfl
   rfl
  rw[this];exact h.asc
 ·intro x hx;obtain⟨w,hw,rfl⟩:=AG.1 hx
  rcases b w hw with hw|rfl
  ·exact lK (h.root _ (AG.2 ⟨w,hw,rfl⟩))
  exact iX
 ·intro x hx y hy;obtain⟨w,hw,rfl⟩:=AG.1 hx;show y<max s.Next (n+1)
  rcases b w hw with hw|rfl
  ·have f:=h.root _ (AG.2 ⟨w,hw,rfl⟩);have c:y∈G6 s.Arena.Knots w.Root:=by rw[<-f8 (X:=[Knot.mk true (Lr s.Arena.Knots v.Root t n),Knot.mk false (Po s.Arena.Knots v.Root t)]) h.ar f];exact hy
   have:=h.lt _ (AG.2 ⟨w,hw,rfl⟩) y c;omega
  have c:y∈(G6 s.Arena.Knots v.Root).set t n:=by rw[<-gJ (s:=t) (n:=n) h.ar a (by omega)];exact hy
  rcases Je c with c|rfl
  ·have:=h.lt _ (AG.2 ⟨v,hm,rfl⟩) y c;omega
  omega
 show(Hn s.Arena.Knots v.Root t n).length<=1000;unfold Hn;simp;omega
theorem Vb (h:Dd s) (r:GZ):IV s r (ON s r):=by
 have hl:=h.len;have d:=Kj h.ar (by have:=h.few;omega);have a:=FG s d (by omega);unfold ON;rw[SE h,OM];simp only[Aa,Ap,Ac]
 cases hb:Ri r with
 |false=>
  simp only[AM,Af];rw[a];unfold IV JJ;rw[hb];rfl
 |true=>
  simp only[Ap,Ac];have hr:=hb;unfold Ri at hr
  cases k1:(r.Kind==1)with
  |true=>
   have e1:r.Kind=1:=by simpa using k1
   rw[e1]at hr;simp at hr;unfold IV JJ;rw[hb,e1];simp only[Bool.true_eq_false,Iu,BU,Af];have:(cond (r.Arg==0) (some 1) (some r.Arg):Option Int)=some (if r.Arg=0 then 1 else r.Arg):=by
    by_cases e:r.Arg=0
    ·rw[Ar e,e];rfl
    rw[Au e,show(r.Arg==0)=false by simpa using e];rfl
   rw[this];refine⟨_,rfl,⟨⟨by simp,rfl,?_,by simp,by simp,by simp[AR],by simp[AR],by simp⟩,by simp⟩,rfl,rfl⟩;show 1<=(if r.Arg=0 then 1 else r.Arg)/\(if r.Arg=0 then 1 else r.Arg)<=1000000000;split<;>omega
  |false=>
   simp only[Ac];have n1:r.Kind≠1:=by simpa using k1
   rw[k1]at hr
   cases k2:(r.Kind==2)with
   |true=>
    simp only[Af];have:=jY h hb (by simpa using k2);have e:((EA s r).bind λv4=>some (v4.1,v4.2))=EA s r:=by cases EA s r<;>rfl
    rw[e];exact this
   |false=>
    simp only[Ac];have n2:r.Kind≠2:=by simpa using k2
    rw[k2]at hr;have hv:1<=r.Vol/\r.Vol<=9:=by simp at hr;omega
    unfold IV JJ;rw[hb];simp only[Bool.true_eq_false,Iu,Au n1,Au n2]
    rcases I5 s (by omega) r.Vol with⟨h1,h2⟩|⟨k,v,h1,h2,h3,_⟩
    ·rw[h1];simp only[Aa];rw[Ab (by omega),Af,Ar (.inl (Sl.1 h2))];simp only[Aa,Af];rw[a];rfl
    rw[h1];simp only[Aa];rw[Ae (by omega),Ac];simp only[Aa];have hm:=A6 h2;have g:=(Ag.1 h2).1;have hg:=Sk h.asc hm;rw[h3]at hg
    cases hc:(r.Chunk==1000000000)with
    |true=>
     simp only[Af];rw[Ar (.inr (by simpa using hc)),a];rfl
    |false=>
     simp only[Ac];have i:r.Chunk≠1000000000:=by simpa using hc
     rw[Au (by
      rintro(hh|hh)
      ·rw[hg]at hh;cases hh
      exact i hh),a]
     simp only[Aa]
     cases k3:(r.Kind==3)with
     |true=>
      have e3:r.Kind=3:=by simpa using k3
      rw[Ar e3];simp only[Af];rw[BT,ad1 (by omega)];have d1:dr s.Vols 0 (k:Int)=some (s.Vols.take k):=by
       unfold dr;rw[Ar ⟨by omega,by omega,by omega⟩];simp
      have d2:dr s.Vols ((k+1:Nat):Int) (s.Vols.length:Int)=some (s.Vols.drop (k+1)):=by
       unfold dr;rw[Ar ⟨by omega,by omega,by omega⟩,AZ,AZ,AT (by simp)]
      rw[d1,d2];simp only[Aa];rw[IK (by simp;omega)];simp only[Aa];rw[C4 (by simp;omega),PJ h.asc h2,h3];simp only[Aa];have hR:=nK h r.Vol;rw[Hh hR];refine⟨_,rfl,fR hR,?_,rfl⟩;rw[Wl hR];exact eZ s (λid=>id !=r.Vol) _ rfl rfl
     |false=>
      have n3:r.Kind≠3:=by simpa using k3
      rw[Au n3];simp only[Ac];rw[k3]at hr;have ha:0<=r.Arg/\r.Arg<16/\0<=r.Chunk/\r.Chunk<=1000000000:=by
       cases k4:(r.Kind==4)with
       |true=>rw[k4]at hr;simp at hr;omega
       |false=>rw[k4]at hr;simp at hr;omega
      obtain⟨t,ht⟩:∃t:Nat,r.Arg=(t:Int):=⟨_,(Di ha.1).symm⟩;rw[AA,h2];simp only[Aa];have c:=h.root _ (AG.2 ⟨v,hm,rfl⟩);rw[ht,Uo _ (by have:=h.few;omega) h.ar c (by omega) ha.2.2.1];simp only[Aa];rw[EO];have o:=h.small;have hR:=qS h h2 (show t<16 by omega) ha.2.2.1 (show r.Chunk+1<=1000000000 by omega);have f:Ft (Store.mk (s.Vols.set k (Vol.mk v.Id ((s.Arena.Knots.length:Int)+1))) (Arena.mk (Hn s.Arena.Knots v.Root t r.Chunk)) (max s.Next (r.Chunk+1)))=rO (Ft s) r.Vol t r.Chunk:=by
       unfold Ft rO;simp only[Gm];apply Cj;intro j;rw[AF,AF,BY];by_cases e:k=j
       ·subst e;rw[Ar rfl,Ar g,h2];simp only[Bt,Function.comp];rw[Ar h3,gJ h.ar c (by omega)]
       rw[Au e]
       cases hj:s.Vols[j]? with
       |none=>rfl
       |some w=>
        have l:=A6 hj;have m:w.Id≠r.Vol:=by
         intro e2;have gi:(s.Vols.map Vol.Id)[k]?=some v.Id:=by rw[AF,h2];rfl
         have gj:(s.Vols.map Vol.Id)[j]?=some w.Id:=by rw[AF,hj];rfl
         rcases KY k j with q|q|q
         ·have:=LS h.asc q gi gj;omega
         ·exact e q
         have:=LS h.asc q gj gi;omega
        simp only[Bt,Function.comp];rw[Au m];have:=f8 (X:=[Knot.mk true (Lr s.Arena.Knots v.Root t r.Chunk),Knot.mk false (Po s.Arena.Knots v.Root t)]) h.ar (h.root _ (AG.2 ⟨w,l,rfl⟩));unfold Hn;rw[this]
      have n:∀b:Bool,b=decide (r.Chunk>=s.Next)->(cond b ((FE (Store.mk (s.Vols.set k (Vol.mk v.Id ((s.Arena.Knots.length:Int)+1))) (Arena.mk (Hn s.Arena.Knots v.Root t r.Chunk)) (ad r.Chunk 1))).bind λv11=>some (v11,true)) ((FE (Store.mk (s.Vols.set k (Vol.mk v.Id ((s.Arena.Knots.length:Int)+1))) (Arena.mk (Hn s.Arena.Knots v.Root t r.Chunk)) s.Next)).bind λv12=>some (v12,true)))=(FE (Store.mk (s.Vols.set k (Vol.mk v.Id ((s.Arena.Knots.length:Int)+1))) (Arena.mk (Hn s.Arena.Knots v.Root t r.Chunk)) (max s.Next (r.Chunk+1)))).bind λv=>some (v,true):=by
       intro b hb;have:=h.nx;by_cases e:r.Chunk>=s.Next
       ·rw[hb,Ab e,Af,DZ (by omega) (by omega),show max s.Next (r.Chunk+1)=r.Chunk+1 by omega]
       rw[hb,Ae e,Ac,show max s.Next (r.Chunk+1)=s.Next by omega]
      rw[n _ rfl,Hh hR];refine⟨_,rfl,fR hR,?_,rfl⟩;rw[Wl hR,f,AZ]
theorem ZQ (hK:Cr K=true) (hR:∀r∈R,CC K r=true) (hi:i<K.length) (hu:BC K R i=true) (hl:(Bo K (i:Int)).Leaf=true) (hn:n∈(Bo K (i:Int)).Kids):∃r∈R,n∈G6 K r:=by
 unfold BC at hu;obtain⟨r,hr,h⟩:=C8.1 hu;unfold KN at h;rw[Ai,A4,BM,A4,C8]at h;obtain⟨h0,h⟩:=h
 rcases BE (hR r hr)with e|⟨_,h1,h2⟩
 ·omega
 rcases h with h|⟨x,hx,he⟩
 ·rw[h,hl]at h2;cases h2
 have a:x=(i:Int):=by simpa using he
 obtain⟨h4,hk⟩:=DL hK h0 h1;obtain⟨j,hj,b⟩:=AI hx;have c:HT (Bo K r) j=(i:Int):=by
  have:=(hk j (by omega)).1;rw[Ad hj,b]at this
  injection this with this
  rw[<-this,a]
 obtain⟨g4,gk⟩:=DL hK (r:=(i:Int)) (by omega) (by omega);obtain⟨t,ht,d⟩:=AI hn;have f:HT (Bo K (i:Int)) t=n:=by
  have:=(gk t (by omega)).1;rw[Ad ht,d]at this
  injection this with this
  exact this.symm
 refine⟨r,hr,AG.2 ⟨4*j+t,by simp;omega,?_⟩⟩;unfold O1;rw[Au (by omega),show(4*j+t)/4=j by omega,show(4*j+t) %4=t by omega,c,Au (by omega),f]
theorem ZX (h:Dd s):Fo s=some true:=by
 have hl:=h.len;have hf:=h.few;unfold Fo;rw[BT,Ae (by omega),Ac,GW _ (by omega),h.ar,Oj,Ab h.nx];simp only[Aa,Ap,Ac];obtain⟨b,h1,l,rfl,h3,h4⟩:=Bx (body:=λq:List Int×Int=>EI s q.1 q.2) (λ(o:List Int) i=>(o,i)) s.Vols.length (λi o=>o.length<=5*i/\∀n:Nat,(n:Int)∈o↔BC s.Arena.Knots ((AR s).take i) n=true) (λb=>∃l,b= .inl l/\l.length<=5000/\∀i:Nat,(i:Int)∈l↔BC s.Arena.Knots (AR s) i=true)
  (λo i hi ho=>by
   obtain⟨o1,o2⟩:=ho;have hx:=Ad hi;have hm:s.Vols[i]∈s.Vols:=Bm hi;have a:s.Vols[i].Root∈AR s:=AG.2 ⟨_,hm,rfl⟩;have hr:=h.root _ a;have e:(AR s)[i]?=some s.Vols[i].Root:=by unfold AR;rw[AF,hx];rfl
   obtain⟨m,m1,m2,m3⟩:=MG s.Arena (by omega) h.ar hr;simp only[EI,AD,Ab hi,Af,AA,hx,Aa];rw[Oj,Ab (h.ids _ hm),ZM (by omega) hr];simp only[Aa,Ap,Ac];have hj:(cond (decide ((i:Int)>0)) ((gi s.Vols (sb (i:Int) 1)).bind λx2=>cond (decide (x2.Id>=s.Vols[i].Id)) (some true) (some false)) (some false):Option Bool)=some false:=by
    by_cases h0:i=0
    ·rw[Ae (by omega:¬(i:Int)>0),Ac]
    rw[Ab (by omega:(i:Int)>0),Af,CB (by omega) (by omega),show(i:Int)-1=((i-1:Nat):Int) by omega,AA,Ad (by omega)];simp only[Aa];have:=LS h.asc (show i-1<i by omega) (x:=s.Vols[i-1].Id) (y:=s.Vols[i].Id) (by rw[AF,Ad (by omega)];rfl) (by rw[AF,Ad (by omega)];rfl);rw[Ae (by omega),Ac]
   rw[hj];simp only[Aa,Ac];rw[m1];simp only[Aa];rw[C4 (by omega),ad1 (by omega)];refine .inl ⟨o++m,rfl,by simp;omega,λn=>?_⟩;rw[Al,o2,m3];unfold BC
   rw[ND e,BM])
  (λo ho=>⟨_,by simp only[EI,AD,An,As,Ac],o,rfl,by have:=ho.1;omega,by
   have:=ho.2;rw[AT (by unfold AR;rw[AQ];exact A5 _)]at this
   exact this⟩) (s:=[]) ⟨by simp,λn=>by simp[BC]⟩
 rw[h1];simp only[Aa,B3];obtain⟨c,q1,q2⟩:=Bx (body:=λq:Int=>EH s l q) (λ(_:Unit) i=>i) s.Arena.Knots.length (λ_ _=>True) (λc=>c= .inl ())
  (λ_ i hi _=>by
   have hu:=h.used i hi;simp only[EH,AD,Ab hi,Af];rw[FR (by omega) (by omega),Ry l _ (by omega),List.contains_iff_mem.2 ((h4 i).2 hu)];simp only[Aa,Ap,Ac];obtain⟨d,e1,e2⟩:=Bx (body:=λq:Int=>EG s (Bo s.Arena.Knots (i:Int)) q) (λ(_:Unit) i=>i) (Bo s.Arena.Knots (i:Int)).Kids.length (λ_ _=>True) (λc=>c= .inl ())
    (λ_ k hk _=>by
     have hx:=Ad hk;have h44:=(DL h.ar (r:=(i:Int)) (by omega) (by omega)).1;simp only[EG,AD,Ab hk,Af,AA,hx,Aa];rw[ad1 (by omega)]
     cases f:(Bo s.Arena.Knots (i:Int)).Leaf with
     |false=>exact .inl ⟨(),rfl,trivial⟩
     |true=>
      obtain⟨r,r1,r2⟩:=ZQ h.ar h.root hi hu f (Bm hk);have:=h.lt r r1 _ r2;rw[Ae (by omega)]
      exact .inl ⟨(),rfl,trivial⟩)
    (λ_ _=>⟨_,by simp only[EG,AD,An,As,Ac],rfl⟩) (s:=()) trivial
   rw[e1,e2];simp only[Aa,B3];rw[ad1 (by omega)]
   exact .inl ⟨(),rfl,trivial⟩)
  (λ_ _=>⟨_,by simp only[EH,AD,An,As,Ac],rfl⟩) (s:=()) trivial
 rw[q1,q2];rfl
theorem TD (k:IntKind) (n:Nat) (h:n<=12) (hk:k= .u8\/k= .u64):k.wrap (n:Int)=(n:Int):=by
 have:n=0\/n=1\/n=2\/n=3\/n=4\/n=5\/n=6\/n=7\/n=8\/n=9\/n=10\/n=11\/n=12:=by omega
 rcases hk with rfl|rfl<;>rcases this with rfl|rfl|rfl|rfl|rfl|rfl|rfl|rfl|rfl|rfl|rfl|rfl|rfl<;>rfl
set_option maxRecDepth 20000 in
theorem VQ (n:Nat) (h:n<=12):∃v,Sf (IntKind.u64.wrap (n:Int))=some v:=by
 rw[TD _ n h (.inr rfl)];unfold Sf UB;generalize hT:(bs _)=T;have a:13<=(L T).length:=by rw[<-hT,Mi];decide
 rw[Ae (by omega:¬(n:Int)>=4294967296),Ac];simp only[Aa];rw[Ae (by omega:¬(n:Int)>=65536),Ac];simp only[Aa];rw[Ae (by omega:¬(n:Int)>=256),Ac];simp only[Aa];rw[TD _ n h (.inl rfl),I1 (i:=n) _ (by omega)];exact⟨_,rfl⟩
theorem iR {γ:Type} (a:γ->Int) (l:List γ) (hl:l.length<=12):∃r,Mu (KU a) l=some r/\srt a r/\BK a l r:=by
 obtain⟨v,hv⟩:=VQ l.length hl;obtain⟨r,h1,h2,h3⟩:=GR a [] l [] (by simp;omega);refine⟨r,?_,h2,h3⟩;unfold Mu;rw[BT,hv];simp only[Aa];unfold DH;rw[A9];simp only[E9];rw[CB (by omega) (by omega),Ab (by omega:(l.length:Int)-0<=12),Af];have h1':B5 (KU a) l 0 (l.length:Int)=some r:=by simpa using h1
 rw[h1'];rfl
def asc (l:List Int):Prop:=l.Pairwise λx y=>x<y
theorem Y1:∀{a b:List Int},asc a->asc b->(∀x,x∈a↔x∈b)->a=b
 |[],[],_,_,_=>rfl
 |[],y::b,_,_,h=>by have:=(h y).2 Cl;cases this
 |x::a,[],_,_,h=>by have:=(h x).1 Cl;cases this
 |x::a,y::b,ha,hb,h=>by
  obtain⟨a1,a2⟩:=CM.1 ha;obtain⟨b1,b2⟩:=CM.1 hb;have c:x=y:=by
   have h1:=(h x).1 Cl;have h2:=(h y).2 Cl
   rcases B6.1 h1 with h1|h1
   ·exact h1
   rcases B6.1 h2 with h2|h2
   ·exact h2.symm
   have:=a1 y h2;have:=b1 x h1;omega
  subst c;congr 1
  refine Y1 a2 b2 λz=>⟨λhz=>?_,λhz=>?_⟩
  ·rcases B6.1 ((h z).1 (CJ _ hz))with e|e
   ·have:=a1 z hz;omega
   exact e
  rcases B6.1 ((h z).2 (CJ _ hz))with e|e
  ·have:=b1 z hz;omega
  exact e
def m7 (l:List Int) (x:Int):List Int:=l.filter (λy=>decide (y<x))++(if x>0 then [x]else [])++l.filter (λy=>decide (y>x))
theorem Me {body:List Int×Int->Option ((List Int×Int)⊕(List Int))} (l:List Int) (p:Int->Bool) (o:List Int) (hM:l.length+o.length<=1073741824) (hb:∀(u:List Int) (i:Nat) x,l[i]?=some x->u.length<=o.length+i->body (u,(i:Int))=(bif p x then((ap 8 u [x]).bind λc=>some (.inl (c,ad (i:Int) 1)))else some (.inl (u,ad (i:Int) 1)))) (he:∀u,body (u,(l.length:Int))=some (.inr u)):Aq body (o,0)=some (o++l.filter p):=by
 obtain⟨b,h1,rfl⟩:=Bx (body:=body) (λ(u:List Int) i=>(u,i)) l.length (λi u=>u=o++(l.take i).filter p) (λu=>u=o++l.filter p)
  (λu i hi hu=>by
   have hg:l[i]?=some l[i]:=Ad hi;have a:u.length<=o.length+i:=by
    rw[hu,Ah];have:=BF p (l.take i);simp only[AK]at this;omega
   refine .inl ?_;rw[hb u i _ hg a];have et:l.take (i+1)=l.take i++ [l[i]]:=by rw[Az hi]
   cases hp:p l[i]with
   |true=>
    simp only[Af];rw[C4 (by simp only[Aj];omega),ad1 (by omega)];refine⟨_,rfl,?_⟩;rw[et,AO,hu,Cn (by simpa using hp),Gh,Av]
   |false=>
    simp only[Ac];rw[ad1 (by omega)];refine⟨_,rfl,?_⟩
    rw[et,AO,hu,BZ (by simp[hp]),Gh,Aw])
  (λu hu=>⟨u,he u,by rw[hu,Br]⟩) (s:=o) (by simp)
 exact h1
theorem sK (l:List Int) (x:Int) (hl:l.length<=33554432):Lk l x=some (m7 l x):=by
 unfold Lk
 rw[Me (body:=λs:List Int×Int=>G0 l x s.1 s.2) l (λy=>decide (y<x)) [] (by simp only[Bf];omega)
  (λu i y hy _=>by
   have hi:=(Ag.1 hy).1
   simp only[G0,AD,Ab hi,Af,AA,hy,Aa])
  (λu=>by simp only[G0,AD,An,As,Ac])]
 simp only[Aa,AC];have h1:=BF (λy=>decide (y<x)) l
 have step:∀o:List Int,o.length<=33554433->Aq (λs:List Int×Int=>Fd l x s.1 s.2) (o,0)=some (o++l.filter (λy=>decide (y>x))):=λo ho=>
  Me (body:=λs:List Int×Int=>Fd l x s.1 s.2) l (λy=>decide (y>x)) o (by omega)
   (λu i y hy _=>by
    have hi:=(Ag.1 hy).1
    simp only[Fd,AD,Ab hi,Af,AA,hy,Aa])
   (λu=>by simp only[Fd,AD,An,As,Ac])
 unfold m7;by_cases hx:x>0
 ·rw[Ab hx,Af,C4 (by simp only[Aj];omega),Ar hx];simp only[Aa];rw[step _ (by simp only[Ah,Aj];omega)];rfl
 rw[Ae hx,Ac,Au hx];simp only[Aa];rw[step _ (by omega),Aw];rfl
theorem g8 {y:Int} (hl:∀z∈l,0<z):y∈m7 l x↔y∈l\/(y=x/\0<x):=by
 unfold m7;simp only[Al,Ct,A4];constructor
 ·rintro((⟨h1,_⟩|h1)|⟨h1,_⟩)
  ·exact .inl h1
  ·split at h1
   ·rename_i hx;rw[A7]at h1;exact .inr ⟨h1,hx⟩
   cases h1
  exact .inl h1
 rintro(h1|⟨rfl,h2⟩)
 ·rcases Int.lt_trichotomy y x with h|h|h
  ·exact .inl (.inl ⟨h1,h⟩)
  ·subst h;have:=hl y h1;exact .inl (.inr (by rw[Ar this];exact A7.2 rfl))
  exact .inr ⟨h1,h⟩
 exact .inl (.inr (by rw[Ar h2];exact A7.2 rfl))
theorem g9 (h:asc l):asc (m7 l x):=by
 unfold m7 asc;rw[Bs,Bs];refine⟨⟨List.Pairwise.filter _ h,?_,?_⟩,List.Pairwise.filter _ h,?_⟩
 ·split<;>simp
 ·intro a ha b hb;split at hb
  ·rw[A7]at hb;subst hb;simpa using(Ct.1 ha).2
  cases hb
 intro a ha b hb;have c:x<b:=by simpa using(Ct.1 hb).2
 rcases Al.1 ha with ha|ha
 ·have:a<x:=by simpa using(Ct.1 ha).2
  omega
 split at ha
 ·rw[A7]at ha;omega
 cases ha
theorem UH (l:List Int) (x:Int) (h:asc l):(m7 l x).length<=l.length+1:=by
 have hd:(l.filter (λy=>decide (y<x))).length+(l.filter (λy=>decide (y>x))).length<=l.length:=by
  have e:∀l:List Int,(l.filter (λy=>decide (y<x))).length+(l.filter (λy=>decide (y>x))).length<=l.length:=by
   intro l
   induction l with
   |nil=>simp
   |cons z l ih=>
    simp only[List.filter_cons,AH];by_cases h1:z<x
    ·rw[Ar (by simpa using h1),Au (by simp;omega)];simp only[AH];omega
    by_cases h2:z>x
    ·rw[Au (by simpa using h1),Ar (by simpa using h2)];simp only[AH];omega
    rw[Au (by simpa using h1),Au (by simpa using h2)];omega
  exact e l
 unfold m7;simp only[Ah];split<;>simp only[Aj,Bf]<;>omega
noncomputable def Gq (s:Store) (n:Nat):List Int:=((s.Vols.take n).map λv=>(IT s.Arena v.Root).getD []).flatten
theorem LU (s:Store) (n:Nat) (h:n<s.Vols.length):Gq s (n+1)=Gq s n++(IT s.Arena s.Vols[n].Root).getD []:=by
 unfold Gq;rw[Az h,Dt,List.flatten_append];simp
theorem Oe (s:Store) (ha:KX s.Arena) (n:Nat) (h:n<=s.Vols.length):(Gq s n).length=16*n:=by
 induction n with
 |zero=>simp[Gq]
 |succ n ih=>
  obtain⟨l,h1,_,h2⟩:=KT s.Arena ha (s.Vols[n]'(by omega)).Root;rw[LU s n (by omega),Ah,ih (by omega),h1,Bu,h2];omega
def UG (s:Store) (n:Nat) (l:List Int):Prop:=asc l/\∀x,x∈l↔x∈Gq s n/\0<x
theorem Z0 (s:Store) (hv:s.Vols.length<=1048576) (ha:KX s.Arena):∃l,NP s=some l/\UG s s.Vols.length l/\l.length<=16777216:=by
 unfold NP;obtain⟨l,h1,h2,h3⟩:=Bx (body:=λq:List Int×Int=>Js s q.1 q.2) (λ(o:List Int) i=>(o,i)) s.Vols.length (λi o=>UG s i o/\o.length<=16*i) (λo=>UG s s.Vols.length o/\o.length<=16777216)
  (λo i hi ho=>by
   have hg:s.Vols[i]?=some s.Vols[i]:=Ad hi;obtain⟨⟨d,e⟩,g⟩:=ho;obtain⟨a,a1,_,a2⟩:=KT s.Arena ha s.Vols[i].Root;refine .inl ?_;simp only[Js,AD,Ab hi,Af,AA,hg,Aa,a1];obtain⟨u,q1,⟨q2,q3⟩,q4⟩:=Bx (body:=λq:List Int×Int=>Jr a q.1 q.2) (λ(u:List Int) k=>(u,k)) a.length (λk u=>(asc u/\∀x,x∈u↔(x∈Gq s i++a.take k)/\0<x)/\u.length<=o.length+k) (λu=>(asc u/\∀x,x∈u↔(x∈Gq s i++a)/\0<x)/\u.length<=o.length+a.length)
    (λu k hk hu=>by
     have f:a[k]?=some a[k]:=Ad hk;obtain⟨⟨b,c⟩,j⟩:=hu;refine .inl ?_;simp only[Jr,AD,Ab hk,Af,AA,f,Aa];rw[sK u a[k] (by omega),ad1 (by omega)];refine⟨_,rfl,⟨g9 b,λx=>?_⟩,by have:=UH u a[k] b;omega⟩;rw[g8 (λz hz=>((c z).1 hz).2),c,Az hk];simp only[Al,A7];constructor
     ·rintro(⟨h,h0⟩|⟨rfl,h0⟩)
      ·exact⟨h.imp id .inl,h0⟩
      exact⟨.inr (.inr rfl),h0⟩
     rintro⟨h|h|h,h0⟩
     ·exact .inl ⟨.inl h,h0⟩
     ·exact .inl ⟨.inr h,h0⟩
     exact .inr ⟨h,by omega⟩)
    (λu hu=>⟨u,by simp only[Jr,AD,An,As,Ac],by rw[Br]at hu;exact hu⟩) (s:=o) ⟨⟨d,λx=>by rw[e];simp⟩,by omega⟩
   rw[q1];simp only[Aa];rw[ad1 (by omega)];refine⟨u,rfl,⟨q2,λx=>?_⟩,by omega⟩
   rw[q3,LU s i hi,a1,Bu])
  (λo ho=>⟨o,by simp only[Js,AD,An,As,Ac],ho.1,by omega⟩) (s:=[]) ⟨⟨List.Pairwise.nil,λx=>by simp[Gq]⟩,by simp⟩
 rw[h1];exact⟨l,rfl,h2,h3⟩
theorem Oz (s:Store) (hv:s.Vols.length<=1048576) (ha:KX s.Arena):IG s=some ((Gq s s.Vols.length).filter λx=>decide (x>0)):=by
 unfold IG;obtain⟨l,h1,rfl⟩:=Bx (body:=λq:List Int×Int=>Hr s q.1 q.2) (λ(o:List Int) i=>(o,i)) s.Vols.length (λi o=>o=(Gq s i).filter λx=>decide (x>0)) (λo=>o=(Gq s s.Vols.length).filter λx=>decide (x>0))
  (λo i hi ho=>by
   have hg:s.Vols[i]?=some s.Vols[i]:=Ad hi;obtain⟨a,a1,a3,a2⟩:=KT s.Arena ha s.Vols[i].Root;have b:o.length<=16*i:=by
    rw[ho];have:=BF (λx:Int=>decide (x>0)) (Gq s i);rw[Oe s ha i (by omega)]at this;exact this
   refine .inl ?_;simp only[Hr,AD,Ab hi,Af,AA,hg,Aa,a3]
   rw[Me (body:=λq:List Int×Int=>Hq a q.1 q.2) a (λx=>decide (x>0)) o (by omega)
    (λu k y hy _=>by
     have hk:=(Ag.1 hy).1
     simp only[Hq,AD,Ab hk,Af,AA,hy,Aa])
    (λu=>by simp only[Hq,AD,An,As,Ac])]
   simp only[Aa];rw[ad1 (by omega)];refine⟨_,rfl,?_⟩
   rw[LU s i hi,a1,Bu,AO,ho])
  (λo ho=>⟨o,by simp only[Hr,AD,An,As,Ac],ho⟩) (s:=[]) (by simp[Gq])
 rw[h1];rfl
def uniq (l:List Int) (n:Nat):List Int:=((List.range n).filter λi=>i==0||l[i-1]?.getD 0 !=l[i]?.getD 0).map λi=>l[i]?.getD 0
theorem ZZ (s:Store) (hv:s.Vols.length<=1048576) (ha:KX s.Arena):∃l,Ot s=some l/\UG s s.Vols.length l:=by
 unfold Ot;rw[Oz s hv ha];simp only[Aa];have t:((Gq s s.Vols.length).filter λx=>decide (x>0)).length<=16777216:=by
  have:=BF (λx:Int=>decide (x>0)) (Gq s s.Vols.length);rw[Oe s ha _ (A5 _)]at this;omega
 unfold QS;rw[Ar (by omega)];simp only[Aa];have u:(NI ((Gq s s.Vols.length).filter λx=>decide (x>0))).length<=16777216:=by rw[lA];exact t
 have g:∀x,x∈NI ((Gq s s.Vols.length).filter λx=>decide (x>0))↔x∈Gq s s.Vols.length/\0<x:=λx=>by
  unfold NI;rw[List.mem_mergeSort,Ct];simp
 have d:(NI ((Gq s s.Vols.length).filter λx=>decide (x>0))).Pairwise λx y=>x<=y:=by
  have:=List.pairwise_mergeSort (le:=λx y:Int=>decide (x<=y)) (λa b c h1 h2=>by simp at*;omega) (λa b=>by simp;omega) ((Gq s s.Vols.length).filter λx=>decide (x>0));unfold NI;exact this.imp (λh=>by simpa using h)
 generalize NI ((Gq s s.Vols.length).filter λx=>decide (x>0))=m at u g d;obtain⟨l,h1,h2,h3⟩:=Bx (body:=λq:List Int×Int=>J4 m q.1 q.2) (λ(o:List Int) i=>(o,i)) m.length (λi o=>asc o/\(∀x,x∈o↔x∈m.take i)/\o.length<=i) (λo=>asc o/\∀x,x∈o↔x∈m)
  (λo i hi ho=>by
   have hg:m[i]?=some m[i]:=Ad hi;obtain⟨p,f,h4⟩:=ho
   have v:∀x∈o,x<=m[i]:=λx hx=>by
    obtain⟨k,hk,rfl⟩:=AI ((f x).1 hx);simp only[AK]at hk;rw[HX];exact CL.1 d k i (by omega) hi (by omega)
   refine .inl ?_;simp only[J4,AD,Ab hi,Af,AA,hg,Aa]
   have add:m[i]∉o->∃s',(some (.inl (o++ [m[i]],((i+1:Nat):Int))):Option ((List Int×Int)⊕(List Int)))=some (.inl (s',((i+1:Nat):Int)))/\asc s'/\(∀x,x∈s'↔x∈m.take (i+1))/\s'.length<=i+1:=λw=>by
    refine⟨_,rfl,?_,λx=>?_,by simp only[Ah,Aj];omega⟩
    ·unfold asc;rw[Bs];refine⟨p,Kv _ _,λa ha b hb=>?_⟩;rw[A7]at hb;subst hb;have h1:=v a ha
     have h2:a≠m[i]:=λe=>w (e▸ha)
     omega
    rw[Az hi,Al,Al,f]
   have skip:m[i]∈o->∃s',(some (.inl (o,((i+1:Nat):Int))):Option ((List Int×Int)⊕(List Int)))=some (.inl (s',((i+1:Nat):Int)))/\asc s'/\(∀x,x∈s'↔x∈m.take (i+1))/\s'.length<=i+1:=λj=>by
    refine⟨_,rfl,p,λx=>?_,by omega⟩;rw[Az hi,Al,f,A7];constructor
    ·exact .inl
    rintro(h|rfl)
    ·exact h
    exact(f _).1 j
   rw[C4 (by simp only[Aj];omega),ad1 (by omega)];by_cases h0:i=0
   ·subst h0;simp only[show(((0:Nat):Int)==0)=true from rfl,Af,Aa];have:o=[]:=Ay (by omega);exact add (by rw[this];simp)
   have e0:((i:Int)==0)=false:=by simp;omega
   rw[e0,CB (by omega) (by omega),show((i:Int)-1)=((i-1:Nat):Int) by omega,AA];have z:m[i-1]?=some (m[i-1]'(by omega)):=Ad (by omega);rw[z];simp only[Ac,Aa];by_cases n:m[i-1]'(by omega)=m[i]
   ·have:((m[i-1]'(by omega)) !=m[i])=false:=by simp[n]
    rw[this];simp only[Ac];refine skip ((f _).2 ?_);rw[<-n];rw[List.mem_iff_getElem];exact⟨i-1,by simp;omega,by rw[HX]⟩
   have:((m[i-1]'(by omega)) !=m[i])=true:=by simp[n]
   rw[this];simp only[Af,Aa]
   refine add λj=>?_
   obtain⟨k,hk,r⟩:=AI ((f _).1 j);simp only[AK]at hk;rw[HX]at r;have h1:m[k]'(by omega)<=m[i-1]'(by omega):=by
    rcases Cv k (i-1)with h|h
    ·exact CL.1 d k (i-1) (by omega) (by omega) h
    have:k=i-1:=by omega
    subst this;exact VV _
   have h2:m[i-1]'(by omega)<=m[i]:=CL.1 d (i-1) i (by omega) hi (by omega);rw[r]at h1
   omega)
  (λo ho=>⟨o,by simp only[J4,AD,An,As,Ac],ho.1,λx=>by rw[ho.2.1,Br]⟩) (s:=[]) ⟨List.Pairwise.nil,by simp,by simp⟩
 rw[h1];exact⟨l,rfl,h2,λx=>by rw[h3,g]⟩
theorem kE (s:Store) (hv:s.Vols.length<=1048576) (ha:KX s.Arena):∃l,NP s=some l/\Ot s=some l/\UG s s.Vols.length l/\l.length<=16777216:=by
 obtain⟨l,h1,h2,h3⟩:=Z0 s hv ha;obtain⟨l',k1,k2⟩:=ZZ s hv ha;have:l'=l:=Y1 k2.1 h2.1 (λx=>by rw[k2.2,h2.2]);subst this;exact⟨l',h1,k1,h2,h3⟩
theorem pV (x a b:Int):Hp x a b=some (decide (a<=x/\x<=b)):=by
 unfold Hp;by_cases h:x>=a
 ·rw[Ab h,Af];congr 1;rw[Ck];simp;omega
 rw[Ae h,Ac,Ae (by omega)]
theorem nU (b:Bool) (x y:α):(bif b then some x else some y)=some (bif b then x else y):=by cases b<;>rfl
theorem Yr:On=LO:=rfl
def sV:List Leaf:=List.replicate 4 (Leaf.mk 0 (bs []))
theorem Na (f:Flash) (h:Ys f):LO f=some f:=by
 unfold LO;have:=UD (body:=λs:Int×List Block=>Ic f s.1 s.2) f.Blocks (λx=>x)
  (λi x a hx ho=>by
   have b:=(Ag.1 hx).1;have h1:=h.1;have h2:=h.2 x (A6 hx);unfold Ic;simp only[AD,Ab b,Af,AA,hx,Aa]
   rw[C4 (by simp only[Bf];omega),Aa,C4 (by simp only[Aj];omega),Aa,ad1 (by omega),AC])
  (λa=>by
   unfold Ic
   simp only[AD,An,As,Ac])
 rw[this,Aa,List.map_id']
def qN (f:Flash):Prop:=f.Blocks.length<=1048576/\∀b∈f.Blocks,b.Leaves.length=4
theorem qN.cap (h:qN f):Ys f:=⟨h.1,λb hb=>by rw[h.2 b hb];omega⟩
def S0 (x:Step):Nat:=x.Text.size
theorem iM (x:Step) (h:ZI x):Cs S0 N4 x:=by
 intro left h0 h1;have hx:x.Text.size<=9223372036854775807:=h.2.2.2;have e:EU x.Text=(x.Text.size:Int):=rfl;unfold N4;rw[CB (by rw[e];omega) (by rw[e];omega),e];unfold S0;by_cases hc:(x.Text.size:Int)<=left
 ·rw[Ae (by omega),Ac];exact⟨_,rfl,by rw[Ar hc]⟩
 rw[Ab (by omega),Af];exact⟨_,rfl,by rw[Au hc];omega⟩
theorem cI (l:List Step) (h:ol ZI l):Cs (zl S0) OA l:=
 HQ (LK S0 N4 l h.1 (λx hx=>iM x (h.2 x hx)) (λ_ _=>rfl) (λ_=>rfl))
theorem bX (l:List Step) (h:zl S0 l<=1048576):RG l=some l:=by
 have:=D9 (z:=S0) (l:=l);exact Ji Qx l (by omega) (by omega) (λ_ _=>rfl) (λ_ _=>rfl) rfl
theorem jV (a b:Step):Ds (N8 a b) a b:=by
 cases a with
 |mk a1 a2 a3 a4=>
 cases b with
 |mk b1 b2 b3 b4=>
 have:JB (N8 (Step.mk a1 a2 a3 a4) (Step.mk b1 b2 b3 b4)) (a1=b1/\a2=b2/\a3=b3/\a4=b4/\True):=
  DP (by simp) (DP (by simp) (DP (by simp) (DP lF FY)))
 simpa only[Ds,JB,Step.mk.injEq,Ng]using this
theorem bA (r:GZ):∃v,M0 r=some v/\OZ r=some v/\(v=true->(0<=r.Arg/\r.Arg<=1000000000)/\(0<=r.Chunk/\r.Chunk<=1000000000)):=by
 cases r with
 |mk kind vol arg chunk=>
 unfold M0 OZ;simp only[hD,pV,Aa,nU];refine⟨_,rfl,?_,?_⟩
 ·congr 1;rw[Ck];by_cases h1:kind=1
  ·subst h1;by_cases ha:0<=arg/\arg<=1000000000<;>by_cases hv:vol=0<;>by_cases hc:chunk=0<;>simp[ha,hv,hc]
  have e1:(kind==1)=false:=by simpa using h1
  simp only[e1,Ac];by_cases ha:0<=arg/\arg<=1000000000
  ·by_cases hk:kind=2\/kind=3\/kind=4\/kind=5
   ·rcases hk with rfl|rfl|rfl|rfl<;>by_cases hv:1<=vol/\vol<=9<;>by_cases hc:chunk=0<;>simp[ha,hv,hc,bne]<;>omega
   have e2:¬(2<=kind/\kind<=5):=by omega
   have k2:(kind==2)=false:=by simp;omega
   have k3:(kind==3)=false:=by simp;omega
   have k4:(kind==4)=false:=by simp;omega
   have k5:(kind==5)=false:=by simp;omega
   by_cases hv:1<=vol/\vol<=9<;>by_cases hc:chunk=0<;>simp[ha,hv,hc,e2,k2,k3,k4,k5,bne]
  have e3:decide (0<=arg/\arg<=1000000000)=false:=Ae ha;rw[e3];by_cases hk:kind=2\/kind=3\/kind=4\/kind=5
  ·rcases hk with rfl|rfl|rfl|rfl<;>by_cases hv:1<=vol/\vol<=9<;>by_cases hc:chunk=0<;>simp[hv,hc,bne]<;>omega
  have k2:(kind==2)=false:=by simp;omega
  have k3:(kind==3)=false:=by simp;omega
  have k4:(kind==4)=false:=by simp;omega
  have k5:(kind==5)=false:=by simp;omega
  by_cases hv:1<=vol/\vol<=9<;>by_cases hc:chunk=0<;>simp[hv,hc,k2,k3,k4,k5,bne]
 by_cases ha:0<=arg/\arg<=1000000000
 ·refine λh=>⟨ha,?_⟩
  by_cases hc:chunk=0
  ·omega
  have ec:(chunk==0)=false:=by simpa using hc
  by_cases h1:kind=1
  ·subst h1;by_cases hv:vol=0<;>simp[ha,hv,ec]at h
  have e1:(kind==1)=false:=by simpa using h1
  by_cases h4:kind=4
  ·subst h4;by_cases hv:1<=vol/\vol<=9<;>simp[ha,hv,bne]at h;omega
  have e4:(kind==4)=false:=by simpa using h4
  by_cases hk:2<=kind/\kind<=5<;>by_cases hv:1<=vol/\vol<=9<;>simp[ha,hv,hk,e1,e4,ec,bne]at h
 intro h;rw[Ae ha]at h;simp at h
end Go.TI
