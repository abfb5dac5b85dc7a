/- A page of a chunk that no transaction behind it names. No condition; no program is in sight. -/
import Derived.Test.YtdhemppeejlbeabGreatORP0
set_option linter.unusedVariables false
set_option linter.unusedSimpArgs false
namespace Go.TI
open Go
theorem rP (s:ByteArray) (f a:Int):Mr s f a=Av (λn:Int=>EO s a f n) 0:=by
 show(Av (λn:Int=>EO s a f n) 0).bind _=_;cases Av (λn:Int=>EO s a f n) 0<;>rfl
theorem rO (s:ByteArray) (f a:Nat) (hf:f<a) (ha:a<=(L s).length) (hs:(L s).length<=64):∃k:Nat,Av (λn:Int=>EO s (a:Int) (f:Int) n) 0=some (k:Int)/\k<=31/\a+k<=(L s).length:=by
 obtain⟨b,h1,k,rfl,h2,h3⟩:=Bf (body:=λn:Int=>EO s (a:Int) (f:Int) n) (λ(_:Unit) i=>i) 31 (λi _=>a+i<=(L s).length) (λb=>∃k:Nat,b=(k:Int)/\k<=31/\a+k<=(L s).length)
  (λ_ i hi hs=>by
   simp only [EO];rw [Ad (by omega:(i:Int)<31),Af,Cx (by omega) (by omega),Cx (by omega) (by omega),BJ];by_cases c:a+i<(L s).length
   ·rw [Ad (by omega:((a:Int)+(i:Int))<((L s).length:Int)),Af];have e1:((f:Int)+(i:Int))=((f+i:Nat):Int):=by omega
    have e2:((a:Int)+(i:Int))=((a+i:Nat):Int):=by omega
    rw [e1,e2,EM s (by omega),EM s c];simp only [Aa]
    cases((((L s)[f+i]).toNat:Int)==(((L s)[a+i]).toNat:Int))with
    |true=>
     simp only [Af];rw [ad1 (by omega)];exact .inl ⟨(),rfl,by omega⟩
    |false=>exact .inr ⟨_,rfl,i,rfl,by omega,hs⟩
   rw [Ae (by omega:¬((a:Int)+(i:Int))<((L s).length:Int)),Ac]
   exact .inr ⟨_,rfl,i,rfl,by omega,hs⟩)
  (λ_ hs=>by
   simp only [EO];rw [Ae (by omega:¬((31:Nat):Int)<31),Ac]
   exact⟨_,rfl,31,rfl,by omega,hs⟩) (s:=()) (by omega)
 exact⟨k,h1,h2,h3⟩
theorem i9 (s:ByteArray) (a:Nat) (ha:a<=(L s).length) (hs:(L s).length<=64):∃z b:Nat,QX s (a:Int)=some ((z:Int),(b:Int))/\Av (λq:Int×Int×Int=>Es s (a:Int) q.1 q.2.1 q.2.2) (0,0,(sb (a:Int) 1))=some ((z:Int),(b:Int))/\z<=31/\a+z<=(L s).length/\(z=0\/4<=z/\1<=b/\b<=a):=by
 have c:(λq:Int×Int×Int=>Es s (a:Int) q.1 q.2.1 q.2.2)=λq:Int×Int×Int=>He s (a:Int) q.1 q.2.1 q.2.2:=by
  funext ⟨x,y,z⟩;simp only [Es,He,rP]
 rw [c,C5 (by omega) (by omega)];obtain⟨r,h1,z,b,rfl,h2,h3,h4⟩:=Bf (body:=λq:Int×Int×Int=>He s (a:Int) q.1 q.2.1 q.2.2) (λ(q:Nat×Nat) i=>((q.1:Int),(q.2:Int),(a:Int)-1-i)) a (λi q=>q.1<=31/\a+q.1<=(L s).length/\(q.1=0\/4<=q.1/\1<=q.2/\q.2<=a)) (λr=>∃z b:Nat,r=((z:Int),(b:Int))/\z<=31/\a+z<=(L s).length/\(z=0\/4<=z/\1<=b/\b<=a))
  (λq i hi hq=>by
   obtain⟨k,m1,m2,m3⟩:=rO s (a-1-i) a (by omega) ha hs;have e1:((a:Int)-1-(i:Int))=((a-1-i:Nat):Int):=by omega
   simp only [He,e1];rw [Ad (by omega:(((a-1-i:Nat)):Int)>=0),Af,m1];simp only [Aa];rw [C5 (by omega) (by omega),C5 (by omega) (by omega)];refine .inl ?_;have e2:(((a-1-i:Nat):Int)-1)=(a:Int)-1-((i+1:Nat):Int):=by omega
   have e3:((a:Int)-((a-1-i:Nat):Int))=((1+i:Nat):Int):=by omega
   rw [e2,e3];by_cases h4:4<=k
   ·rw [Ad (by omega:(k:Int)>=4),Af];by_cases h5:q.1<k
    ·rw [Ad (by omega:(k:Int)>(q.1:Int))];exact⟨(k,1+i),rfl,m2,m3,.inr ⟨h4,by omega,by omega⟩⟩
    rw [Ae (by omega:¬(k:Int)>(q.1:Int))];exact⟨q,rfl,hq⟩
   rw [Ae (by omega:¬(k:Int)>=4),Ac]
   exact⟨q,rfl,hq⟩)
  (λq hq=>by
   simp only [He];rw [Ae (by omega:¬((a:Int)-1-(a:Int))>=0),Ac]
   exact⟨_,rfl,q.1,q.2,rfl,hq⟩) (s:=(0,0)) ⟨by omega,by omega,.inl rfl⟩
 have e0:(((0:Nat):Int),((0:Nat):Int),(a:Int)-1-0)=((0:Int),(0:Int),(a:Int)-1):=by simp
 simp only [e0]at h1;refine⟨z,b,?_,h1,h2,h3,h4⟩;unfold QX;rw [C5 (by omega) (by omega),h1];rfl
def S2 (t:Bi):Prop:=(t.Back=0/\t.Size=0/\1<=(L t.Text).length/\(L t.Text).length<=31)\/(1<=t.Back/\t.Back<=64/\4<=t.Size/\t.Size<=31/\L t.Text=[])
variable {f:Flash} {r l:List A4} {k i:Nat} {b:Block} {α:Type} {y:A4} {x:Leaf} {t:ByteArray} {c:Int}
theorem GU (l:List α) (x:α):gi (l++ [x]) (l.length:Int)=some x:=by
 rw [AB];simp
theorem Jj (l:List α) (x y:α):si (l++ [x]) (l.length:Int) y=l++ [y]:=by
 rw [Ey];simp
theorem gD (s:ByteArray) (hs:(L s).length<=64):∃l,Kt s=some l/\OQ s=some l/\l.length<=64/\∀t∈l,S2 t:=by
 unfold Kt OQ;rw [BJ,Ae (by omega:¬((L s).length:Int)>64),Ac,Ac];obtain⟨l,h1,h2,h3,h4⟩:=QT (body:=λq:List Bi×Int=>Cs s q.1 q.2) (body':=λq:List Bi×Int=>KN s q.1 q.2) (λq=>(L s).length-q.2.toNat)
  (λq=>∃a:Nat,q.2=(a:Int)/\a<=(L s).length/\q.1.length<=a/\∀t∈q.1,S2 t) (λl=>l.length<=64/\∀t∈l,S2 t)
  (by
   rintro⟨f,at_⟩ ⟨a,ha,h1,h2,h3⟩;simp only at ha h2 h3;subst ha;simp only [Cs,KN];rw [BJ];by_cases i:a<(L s).length
   ·rw [Ad (by omega:(a:Int)<((L s).length:Int)),Af,Af];obtain⟨z,b,m1,m2,m3,m4,m5⟩:=i9 s a h1 hs;rw [m1,m2];simp only [Aa]
    have c:∀x:Bi,ap 32 f [x]=some (f++ [x]):=λx=>Cq (by simp only [An];omega)
    refine .inl ?_;by_cases hz:z=0
    ·subst hz;rw [Ae (by omega:¬((0:Nat):Int)>0),Ac,Ac];have esub:sub s (a:Int) (ad (a:Int) 1)=some (s.extract a (a+1)):=by rw [ad1 (by omega)];exact Fi s (by omega) (by omega)
     have elen:(L (s.extract a (a+1))).length=1:=by rw [Ik];simp;omega
     rw [esub,ad1 (by omega),C5 (by rw [BW];omega) (by rw [BW];omega),BW]
     have ecat:∀x:ByteArray,(L x).length<=31->TB x (s.extract a (a+1))=some (x++s.extract a (a+1)):=λx hx=>Gd _ _ (by rw [elen];omega)
     have e0:TB (bs []) (s.extract a (a+1))=some (s.extract a (a+1)):=by
      rw [ecat _ (by rw [DP];simp)];exact Ca some (Ij (by rw [DB,DP];rfl))
     have enew:S2 (Bi.mk 0 0 (s.extract a (a+1))):= .inl ⟨rfl,rfl,by simp only;rw [elen];omega,by simp only;rw [elen];omega⟩
     have d:∀(o:List Bi) (x:Bi),(∀t∈o,S2 t)->S2 x->∀t∈o++ [x],S2 t:=λo x ho hx t ht=>by
      rcases Ai.1 ht with ht|ht
      ·exact ho t ht
      rw [Ay]at ht;subst ht;exact hx
     have fin:∀o:List Bi,o.length<=a+1->(∀t∈o,S2 t)->(∃a':Nat,((a+1:Nat):Int)=(a':Int)/\a'<=(L s).length/\o.length<=a'/\∀t∈o,S2 t)/\(L s).length-(((a+1:Nat)):Int).toNat<(L s).length-((a:Int)).toNat:=λo g h=>⟨⟨a+1,rfl,by omega,g,h⟩,by omega⟩
     rcases GV f with rfl|⟨o,x,rfl⟩
     ·simp only [Bm,Int.ofNat_zero,Int.zero_sub];rw [Ad (by omega:(-1:Int)<0),Ae (by omega:¬(-1:Int)>=0)];simp only [Af,Ac,Aa,c];rw [show ad (-1) 1=(([]:List Bi).length:Int)from rfl];simp only [GU,Aa,e0,Jj];exact⟨_,rfl,rfl,fin _ (by simp) (d _ _ (by simp) enew)⟩
     rw [GW]at h2 h3 c⊢;simp only [Ah,An]at h2⊢;have ek:(((o.length+1:Nat):Int)-1)=(o.length:Int):=by omega
     rw [ek,Ae (by omega:¬(o.length:Int)<0),Ad (by omega:(o.length:Int)>=0)];simp only [Af,Ac,GU,Aa];have hx:=h3 x (by simp);have e:=d (o++ [x]) _ h3 enew;have elast:ad (o.length:Int) 1=((o++ [x]).length:Int):=by rw [ad1 (by omega)];simp
     rcases hx with⟨x1,x2,x3,x4⟩|⟨x1,x2,x3,x4,x5⟩
     ·rw [x1];simp only [show((0:Int)==0)=true from rfl,Af,show decide ((0:Int)>0)=false from rfl,Ac];rw [BJ];by_cases h31:(L x.Text).length<31
      ·rw [Ad (by omega:((L x.Text).length:Int)<31),Ae (by omega:¬((L x.Text).length:Int)>=31)];simp only [Af,Ac,Aa,GU,ecat _ x4,Jj];simp only [x1];refine⟨_,rfl,rfl,fin _ (by simp;omega) (d _ _ (λt ht=>h3 t (by simp [ht])) (.inl ⟨rfl,x2,?_,?_⟩))⟩
       ·simp only;rw [DB,Ah,elen];omega
       simp only;rw [DB,Ah,elen];omega
      rw [Ae (by omega:¬((L x.Text).length:Int)<31),Ad (by omega:((L x.Text).length:Int)>=31)];simp only [Af,Ac,Aa,c,elast,GU,e0,Jj];exact⟨_,rfl,rfl,fin _ (by simp;omega) e⟩
     have hb:(x.Back==0)=false:=by simp;omega
     rw [hb,Ad (by omega:x.Back>0)];simp only [Af,Ac,Aa,c,elast,GU,e0,Jj];exact⟨_,rfl,rfl,fin _ (by simp;omega) e⟩
    rw [Ad (by omega:(z:Int)>0),Af,Af,c];simp only [Aa];rw [Cx (by omega) (by omega)];refine⟨_,rfl,rfl,⟨a+z,by simp,by omega,by simp;omega,?_⟩,by simp only;omega⟩;intro t ht
    rcases Ai.1 ht with ht|ht
    ·exact h3 t ht
    rw [Ay]at ht;subst ht;refine .inr ⟨?_,?_,?_,?_,by simp only;rw [DP]⟩<;>simp only<;>omega
   rw [Ae (by omega:¬(a:Int)<((L s).length:Int)),Ac,Ac]
   exact .inr ⟨_,rfl,rfl,by omega,h3⟩) ((L s).length) ([],0) (by simp) ⟨0,rfl,by omega,by simp,by simp⟩
 rw [h1,h2];exact⟨l,rfl,rfl,h3,h4⟩
theorem S4 (l m:List Int):L (HC (l++m))=L (HC l)++L (HC m):=by rw [Jg,Jg,Jg,Cl]
theorem Mk (l:List Int):(L (HC l)).length=l.length:=by rw [Jg,Be]
theorem pQ (b:ByteArray):L (HC (iD b))=L b:=by
 rw [Jg,iD,Fg];have:((λn:Int=>UInt8.ofNat n.toNat)∘λc:UInt8=>(c.toNat:Int))=id:=by
  funext c;simp
 rw [this,Sp];rfl
theorem tF (l:List Int) (b:ByteArray):aps l b=ap 1 l (iD b):=by
 have:(iD b).length=b.size:=by simp [iD]
 unfold aps ap;rw [this,So]
theorem ZV (b:ByteArray):(iD b).length=(L b).length:=by simp [iD,L]
theorem gK (s:ByteArray):∃z ok,Dp s=some (z,ok)/\M7 s=some (z,ok)/\(ok=false->z=bs [])/\(ok=true->(L s).length<=64/\((L z)[0]?=some 122\/(L z)[0]?=some 114)):=by
 unfold Dp M7;rw [BJ];by_cases hs:(L s).length<=64
 ·rw [Ae (by omega:¬((L s).length:Int)>64),Ac,Ac];obtain⟨l,t1,t2,t3,t4⟩:=gD s hs;rw [t1,t2];simp only [Aa];obtain⟨z,v,h1,h2,rfl,h3,h4⟩:=nZ (body:=λq:ByteArray×Int=>Eu l q.1 q.2) (body':=λq:List Int×Int=>IP l q.1 q.2) (λv i=>(HC v,i)) (λv i=>(v,i)) l.length (λi v=>v.length<=1+33*i/\(L (HC v))[0]?=some 122) (λz v=>z=HC v/\v.length<=4000/\(L (HC v))[0]?=some 122)
   (λv i hi hv=>by
    have hg:l[i]?=some l[i]:=Ab hi;have c:=hv.1;have ht:=t4 _ (AC hi);refine .inl ?_;simp only [Eu,IP,AG,Ad hi,Af,AB,hg,Aa]
    have b:∀(a:ByteArray) (m:List Int),(L a).length<=4000->m.length<=2->TB a (HC m)=some (a++HC m):=λa m h1 h2=>Gd _ _ (by rw [Mk];omega)
    have h0:∀m:List Int,(L (HC (v++m)))[0]?=some 122:=λm=>by
     rw [S4,AO]
     ·exact hv.2
     rcases GN (L (HC v)).length with h|h
     ·have:=hv.2;rw [A9 h]at this;cases this
     exact h
    rcases ht with⟨x1,x2,x3,x4⟩|⟨x1,x2,x3,x4,x5⟩
    ·rw [x1];simp only [show((0:Int)==0)=true from rfl,Af,show decide ((0:Int)>0)=false from rfl,Ac];rw [b _ _ (by rw [Mk];omega) (by simp),Cq (by simp only [An];omega)];simp only [Aa];rw [Gd _ _ (by rw [DB,Ah,Mk,Mk];simp only [An];omega),tF,Cq (by rw [ZV];simp only [Ah,An];omega)];simp only [Aa];rw [ad1 (by omega)];refine⟨v++([IntKind.u8.wrap (Gi l[i].Text)]++iD l[i].Text),?_,by rw [Ao],?_,h0 _⟩
     ·congr 4;apply Ij;rw [DB,DB,S4,S4,pQ,Ao]
     simp only [Ah,An,ZV];omega
    have hb:(l[i].Back==0)=false:=by simp;omega
    rw [hb,Ad (by omega:l[i].Back>0)];simp only [Af,Ac];rw [b _ _ (by rw [Mk];omega) (by simp),Cq (by simp only [Az,Bm];omega)];simp only [Aa];rw [ad1 (by omega)];refine⟨v++ [IntKind.u8.wrap (ad 128 l[i].Size),IntKind.u8.wrap l[i].Back],?_,rfl,?_,h0 _⟩
    ·congr 4;apply Ij;rw [DB,S4]
    simp only [Ah,Az,Bm];omega)
   (λv hv=>⟨_,_,by simp only [Eu,AG,Aq,Aw,Ac],by simp only [IP,AG,Aq,Aw,Ac],rfl,by have:=hv.1;omega,hv.2⟩) (s:=[122]) ⟨by simp,by rw [Jg];rfl⟩
  have e0:(HC [122],(0:Int))=(bs [122],(0:Int)):=by rw [show HC [122]=bs [122]from Ij (by rw [Jg,DP];rfl)]
  simp only [e0]at h1;rw [h1,h2];simp only [Aa];rw [BJ,Mk,BW,Cx (by omega) (by omega)];by_cases hc:((L s).length:Int)+1<=(v.length:Int)
  ·rw [Ad hc,Af,Gd _ _ (by rw [DP];simp only [An];omega)];refine⟨_,true,rfl,rfl,by simp,λ_=>⟨hs,.inr ?_⟩⟩;rw [DB,DP];rfl
  rw [Ae hc,Ac];exact⟨_,true,rfl,rfl,by simp,λ_=>⟨hs,.inl h4⟩⟩
 rw [Ad (by omega:((L s).length:Int)>64),Af,Af];exact⟨_,false,rfl,rfl,by simp,by simp⟩
def Pt (t:Bi):Prop:=(t.Back=0/\t.Size=0/\1<=(L t.Text).length/\(L t.Text).length<=31)\/(t.Back≠0/\1<=t.Size/\t.Size<=31/\L t.Text=[])
theorem cV:NO=Fy:=by
 funext l;unfold NO Fy;have hb:LR l=DV l:=by
  funext out y;unfold LR DV
  cases decide (y<ln l)with
  |false=>rfl
  |true=>
   simp only [Af]
   cases gi l y with
   |none=>rfl
   |some t=>
    simp only [Aa,fQ,Xa,tF]
    have h2:(λs:List Int×Int=>OV t s.1 s.2)=λs:List Int×Int=>DU t s.1 s.2:=rfl
    rw [h2]
    cases t.Back==0 with
    |false=>rfl
    |true=>
     simp only [Af];cases t.Size !=0<;>cases(decide (1<=Gi t.Text)&&decide (Gi t.Text<=31))<;>rfl
 rw [hb]
theorem Pp (l:List Bi) (hl:l.length<=1048576):∃p ok,Fy l=some (p,ok)/\(ok=true->∀t∈l,Pt t):=by
 unfold Fy;obtain⟨r,h1,h2⟩:=Bf (body:=λq:List Int×Int=>DV l q.1 q.2) (λ(o:List Int) i=>(o,i)) l.length (λi o=>o.length<=64/\∀(j:Nat) t,j<i->l[j]?=some t->Pt t) (λr=>(∃o,r= .inl o/\∀t∈l,Pt t)\/r= .inr (bs [],false))
  (λo i hi ho=>by
   have hg:l[i]?=some l[i]:=Ab hi;obtain⟨h,d⟩:=ho;simp only [DV,AG,Ad hi,Af,AB,hg,Aa,Xa];have bad:∀k:(List Int)⊕((List Int×Int)⊕((List Int)⊕((ByteArray×Bool)))),k= .inr (.inr (.inr (bs [],false)))->∃b,(some k).bind (Sum.elim (λj1=>(bif(decide ((ln j1)>64))then(some (.inr (.inr ((bs []),false))))else(some (.inl (j1,(ad (i:Int) 1)))))) some)=some (.inr b)/\((∃o,b= .inl o/\∀t∈l,Pt t)\/b= .inr (bs [],false)):=by
    rintro k rfl;exact⟨_,rfl,.inr rfl⟩
   have good:∀(o':List Int),Pt l[i]->(∃s',(some (.inl o':(List Int)⊕((List Int×Int)⊕((List Int)⊕((ByteArray×Bool)))))).bind (Sum.elim (λj1=>(bif(decide ((ln j1)>64))then(some (.inr (.inr ((bs []),false))))else(some (.inl (j1,(ad (i:Int) 1)))))) some)=some (.inl (s',((i+1:Nat):Int)))/\s'.length<=64/\∀(j:Nat) t,j<i+1->l[j]?=some t->Pt t)\/∃b,(some (.inl o':(List Int)⊕((List Int×Int)⊕((List Int)⊕((ByteArray×Bool)))))).bind (Sum.elim (λj1=>(bif(decide ((ln j1)>64))then(some (.inr (.inr ((bs []),false))))else(some (.inl (j1,(ad (i:Int) 1)))))) some)=some (.inr b)/\((∃o,b= .inl o/\∀t∈l,Pt t)\/b= .inr (bs [],false)):=by
    intro o' ht;simp only [Aa,BA];by_cases h64:o'.length<=64
    ·rw [Ae (by rw [BW];omega),Ac,ad1 (by omega)];refine .inl ⟨o',rfl,h64,λj t hj a=>?_⟩;by_cases e:j=i
     ·subst e;rw [hg]at a
      injection a with a
      rw [<-a];exact ht
     exact d j t (by omega) a
    rw [Ad (by rw [BW];omega),Af];exact .inr ⟨_,rfl,.inr rfl⟩
   by_cases hb:l[i].Back=0
   ·rw [hb];simp only [show((0:Int)==0)=true from rfl,Af];rw [BJ];by_cases hx:(1<=(L l[i].Text).length/\(L l[i].Text).length<=31)/\l[i].Size=0
    ·obtain⟨⟨f,g⟩,c⟩:=hx;rw [Ad (by omega:(1:Int)<=((L l[i].Text).length:Int)),Ad (by omega:((L l[i].Text).length:Int)<=31),c];simp only [HF,Ak,Ac,Aa,show((0:Int) !=0)=false from rfl];rw [Cq (by rw [ZV];omega)];simp only [Aa];exact good _ (.inl ⟨hb,c,f,g⟩)
    by_cases h1:1<=(L l[i].Text).length/\(L l[i].Text).length<=31
    ·have hs:(l[i].Size !=0)=true:=by simp;intro e;exact hx ⟨h1,e⟩
     rw [Ad (by omega:(1:Int)<=((L l[i].Text).length:Int)),Ad (by omega:((L l[i].Text).length:Int)<=31),hs];simp only [HF,Ak,Ac,Af,Aa];exact .inr (bad _ rfl)
    have hd:(decide ((1:Int)<=((L l[i].Text).length:Int))&&decide (((L l[i].Text).length:Int)<=31))=false:=by
     rw [Ea,AX,AX];omega
    rw [hd];simp only [AH,Af,Aa];exact .inr (bad _ rfl)
   have hb':(l[i].Back==0)=false:=by simpa using hb
   rw [hb'];simp only [Ac];rw [BW,PJ,DP];by_cases hx:(1<=l[i].Back/\l[i].Back<=(o.length:Int))/\(1<=l[i].Size/\l[i].Size<=31)/\L l[i].Text=[]
   ·obtain⟨⟨y1,y2⟩,⟨y3,y4⟩,y5⟩:=hx;rw [Ad y1,Ad y2,Ad y3,Ad y4,Ad y5];simp only [HF,Ak,Ac,Aa];obtain⟨o',q1,q2⟩:=Bf (body:=λq:List Int×Int=>DU l[i] q.1 q.2) (λ(o:List Int) k=>(o,k)) l[i].Size.toNat (λk u=>u.length=o.length+k) (λ_=>True)
     (λu k hk hu=>by
      simp only [DU];rw [Ad (by omega:(k:Int)<l[i].Size),Af,C5 (by rw [BW];omega) (by rw [BW];omega),BW,Qs (by omega) (by omega)];simp only [Aa];rw [Cq (by simp only [An];omega),ad1 (by omega)]
      exact .inl ⟨_,rfl,by simp only [Ah,An];omega⟩)
     (λu hu=>⟨u,by simp only [DU];rw [Ae (by omega),Ac],trivial⟩) (s:=o) (by omega)
    rw [q1];simp only [Aa];exact good _ (.inr ⟨hb,y3,y4,y5⟩)
   refine .inr ?_
   cases c1:(decide (1<=l[i].Back)&&decide (l[i].Back<=(o.length:Int)))with
   |false=>
    simp only [AH,Af,Aa];exact bad _ rfl
   |true=>
    simp only [Ak,Ac,Aa]
    cases c2:(decide (1<=l[i].Size)&&decide (l[i].Size<=31))with
    |false=>
     simp only [AH,Af,Aa];exact bad _ rfl
    |true=>
     simp only [Ak,Ac,Aa];have c3:decide (L l[i].Text=[])=false:=by
      rw [AX];intro e;simp only [Al,A7]at c1 c2;exact hx ⟨c1,c2,e⟩
     rw [c3];simp only [AH,Af]
     exact bad _ rfl)
  (λo ho=>⟨_,by simp only [DV,AG,Aq,Aw,Ac],.inl ⟨o,rfl,λt ht=>by
   obtain⟨j,hj,rfl⟩:=AF ht
   exact ho.2 j _ hj (Ab hj)⟩⟩) (s:=[]) ⟨by simp,λj t hj=>by omega⟩
 rw [h1]
 rcases h2 with⟨o,rfl,h2⟩|rfl
 ·exact⟨_,true,rfl,λ_=>h2⟩
 exact⟨_,false,rfl,by simp⟩
theorem Vy (c:UInt8):IntKind.i64.wrap (c.toNat:Int)=(c.toNat:Int):=N2 (by omega) (by have:=c.toNat_lt;omega)
theorem Y5 (rem:ByteArray) (a:List Bi) (h:0<(L rem).length) (ho:a.length<=1048576) (hr:(L rem).length<=1048576):
  DJ rem a=some (if 128<=(L rem)[0].toNat/\2<=(L rem).length then .inl (rem.extract 2 (L rem).length,a++ [Bi.mk (((L rem)[1]?.getD 0).toNat:Int) (((L rem)[0].toNat:Int)-128) (bs [])])
   else if(L rem)[0].toNat<128/\(L rem)[0].toNat<(L rem).length then .inl (rem.extract (1+(L rem)[0].toNat) (L rem).length,a++ [Bi.mk 0 0 (rem.extract 1 (1+(L rem)[0].toNat))])
   else .inr (.inr ([],false))):=by
 have d:=(L rem)[0].toNat_lt;have b:seq rem (bs [])=false:=by
  rw [PJ,DP,AX];intro e;rw [e]at h;simp at h
 have c:∀x:Bi,ap 32 a [x]=some (a++ [x]):=λx=>Cq (by simp only [An];omega)
 unfold DJ;rw [b];have s0:sx rem 0=some ((L rem)[0].toNat:Int):=EM rem (i:=0) h;simp only [AH,Af,s0,Aa,Vy,BJ,c];have c0:ad 1 ((L rem)[0].toNat:Int)=((1+(L rem)[0].toNat:Nat):Int):=by rw [Cx (by omega) (by omega)];omega
 rw [c0];by_cases h1:128<=(L rem)[0].toNat
 ·rw [Ad (by omega:((L rem)[0].toNat:Int)>=128),Ae (by omega:¬((L rem)[0].toNat:Int)<128)];simp only [Af,Ac,Aa];by_cases h2:2<=(L rem).length
  ·rw [Ad (by omega:((L rem).length:Int)>=2),Af,Au ⟨h1,h2⟩];have s1:sx rem 1=some ((L rem)[1].toNat:Int):=EM rem (i:=1) (by omega);have s2:sub rem 2 ((L rem).length:Int)=some (rem.extract 2 (L rem).length):=Fi rem (i:=2) h2 (A3 _);rw [s1,s2,C5 (by omega) (by omega)];simp only [Aa,Vy];rw [Ab (by omega:1<(L rem).length)];rfl
  rw [Ae (by omega:¬((L rem).length:Int)>=2),Ac,Ax (λe=>h2 e.2),Ax (λe=>by omega)]
 rw [Ae (by omega:¬((L rem)[0].toNat:Int)>=128),Ad (by omega:((L rem)[0].toNat:Int)<128),Ax (λe=>h1 e.1)];simp only [Af,Ac,Aa];by_cases h2:(L rem)[0].toNat<(L rem).length
 ·rw [Ad (by omega:((L rem)[0].toNat:Int)<((L rem).length:Int)),Af,Au ⟨by omega,h2⟩];have s1:sub rem 1 ((1+(L rem)[0].toNat:Nat):Int)=some (rem.extract 1 (1+(L rem)[0].toNat)):=Fi rem (i:=1) (by omega) (by omega);have s2:sub rem ((1+(L rem)[0].toNat:Nat):Int) ((L rem).length:Int)=some (rem.extract (1+(L rem)[0].toNat) (L rem).length):=Fi rem (by omega) (A3 _);rw [s1,s2];rfl
 rw [Ae (by omega:¬((L rem)[0].toNat:Int)<((L rem).length:Int)),Ac,Ax (λe=>h2 e.2)]
theorem Wk (rem:ByteArray) (a:List Bi) (h:(L rem).length=0):DJ rem a=some (.inr (.inl a)):=by
 have b:seq rem (bs [])=true:=by
  rw [PJ,DP,A7];exact A9 h
 unfold DJ;rw [b];rfl
theorem Y4 (t:ByteArray) (b:List Bi) (a:Nat) (h:a<(L t).length) (ho:b.length<=1048576) (hr:(L t).length<=1048576):
  Ce t b (a:Int)=some (if 128<(L t)[a].toNat then(if a+2<=(L t).length then .inl (b++ [Bi.mk (((L t)[a+1]?.getD 0).toNat:Int) (((L t)[a].toNat:Int)-128) (bs [])],((a+2:Nat):Int))else .inr (.inr (b,false)))
   else if a+1+(L t)[a].toNat<=(L t).length then .inl (b++ [Bi.mk 0 0 (t.extract (a+1) (a+1+(L t)[a].toNat))],((a+1+(L t)[a].toNat:Nat):Int))
   else .inr (.inr (b,false))):=by
 have d:=(L t)[a].toNat_lt
 have c:∀x:Bi,ap 32 b [x]=some (b++ [x]):=λx=>Cq (by simp only [An];omega)
 have c2:ad (a:Int) 2=((a+2:Nat):Int):=by rw [Cx (by omega) (by omega)];omega
 have c3:ad ((a+1:Nat):Int) ((L t)[a].toNat:Int)=((a+1+(L t)[a].toNat:Nat):Int):=by rw [Cx (by omega) (by omega)];omega
 unfold Ce;rw [BJ,Ad (by omega:(a:Int)<((L t).length:Int)),Af,EM t h];simp only [Aa,Vy,c];rw [c2,ad1 (by omega),c3];by_cases h1:128<(L t)[a].toNat
 ·rw [Ad (by omega:((L t)[a].toNat:Int)>128),Af,Au h1];by_cases h2:a+2<=(L t).length
  ·rw [Ae (by omega:¬((a+2:Nat):Int)>((L t).length:Int)),Ac,Au h2,EM t (by omega:a+1<(L t).length),C5 (by omega) (by omega)];simp only [Aa,Vy];rw [Ab (by omega:a+1<(L t).length)];rfl
  rw [Ad (by omega:((a+2:Nat):Int)>((L t).length:Int)),Af,Ax h2]
 rw [Ae (by omega:¬((L t)[a].toNat:Int)>128),Ac,Ax h1];by_cases h2:a+1+(L t)[a].toNat<=(L t).length
 ·rw [Ae (by omega:¬((a+1+(L t)[a].toNat:Nat):Int)>((L t).length:Int)),Ac,Au h2,Fi t (by omega) h2];rfl
 rw [Ad (by omega:((a+1+(L t)[a].toNat:Nat):Int)>((L t).length:Int)),Af,Ax h2]
theorem Wj (t:ByteArray) (b:List Bi) (a:Nat) (h:(L t).length<=a):Ce t b (a:Int)=some (.inr (.inl b)):=by
 unfold Ce;rw [BJ,Ae (by omega:¬(a:Int)<((L t).length:Int)),Ac]
theorem pJ (rem:ByteArray) (a:List Bi) (h:a.length+(L rem).length<=1048576):∃r,Av (λq:ByteArray×List Bi=>DJ q.1 q.2) (rem,a)=some r/\((∃l,r= .inl l/\l.length<=1048576/\∀t∈a,t∈l)\/r= .inr ([],false)):=by
 obtain⟨r,h1,_,h2⟩:=QT (body:=λq:ByteArray×List Bi=>DJ q.1 q.2) (body':=λq:ByteArray×List Bi=>DJ q.1 q.2) (λq=>(L q.1).length) (λq=>q.2.length+(L q.1).length<=1048576/\∀t∈a,t∈q.2) (λr=>(∃l,r= .inl l/\l.length<=1048576/\∀t∈a,t∈l)\/r= .inr ([],false))
  (by
   rintro⟨rem,o⟩ ⟨hl,ho⟩;simp only at hl ho;simp only
   rcases GN (L rem).length with h0|h0
   ·rw [Wk rem o h0];exact .inr ⟨_,rfl,rfl,.inl ⟨o,rfl,by omega,ho⟩⟩
   rw [Y5 rem o h0 (by omega) (by omega)];split
   ·rename_i hc;refine .inl ⟨_,rfl,rfl,⟨?_,λt ht=>A8 _ (ho t ht)⟩,?_⟩
    ·simp only [Ah,An,Ik,AE,B6];omega
    simp only [Ik,AE,B6];omega
   split
   ·rename_i hc;refine .inl ⟨_,rfl,rfl,⟨?_,λt ht=>A8 _ (ho t ht)⟩,?_⟩
    ·simp only [Ah,An,Ik,AE,B6];omega
    simp only [Ik,AE,B6];omega
   exact .inr ⟨_,rfl,rfl,.inr rfl⟩) _ (rem,a) (A3 _) ⟨h,λt ht=>ht⟩
 exact⟨r,h1,h2⟩
theorem pI (t:ByteArray) (b:List Bi) (a:Nat) (ha:a<=(L t).length) (h:b.length<=a) (hr:(L t).length<=1048576):∃r,Av (λq:List Bi×Int=>Ce t q.1 q.2) (b,(a:Int))=some r/\((∃l,r= .inl l/\l.length<=1048576/\∀x∈b,x∈l)\/∃l,r= .inr (l,false)/\l.length<=1048576):=by
 obtain⟨r,h1,_,h2⟩:=QT (body:=λq:List Bi×Int=>Ce t q.1 q.2) (body':=λq:List Bi×Int=>Ce t q.1 q.2) (λq=>(L t).length-q.2.toNat) (λq=>∃a:Nat,q.2=(a:Int)/\a<=(L t).length/\q.1.length<=a/\∀x∈b,x∈q.1) (λr=>(∃l,r= .inl l/\l.length<=1048576/\∀x∈b,x∈l)\/∃l,r= .inr (l,false)/\l.length<=1048576)
  (by
   rintro⟨o,at_⟩ ⟨a,ha,hl,hb,ho⟩;simp only at ha hb ho;subst ha;simp only
   rcases Dc a (L t).length with h0|h0
   ·rw [Y4 t o a h0 (by omega) hr];split
    ·split
     ·refine .inl ⟨_,rfl,rfl,⟨a+2,rfl,by omega,by simp only [Ah,An];omega,λt ht=>A8 _ (ho t ht)⟩,by simp only;omega⟩
     exact .inr ⟨_,rfl,rfl,.inr ⟨o,rfl,by omega⟩⟩
    split
    ·refine .inl ⟨_,rfl,rfl,⟨_,rfl,by assumption,by simp only [Ah,An];omega,λt ht=>A8 _ (ho t ht)⟩,by simp only;omega⟩
    exact .inr ⟨_,rfl,rfl,.inr ⟨o,rfl,by omega⟩⟩
   rw [Wj t o a h0]
   exact .inr ⟨_,rfl,rfl,.inl ⟨o,rfl,by omega,ho⟩⟩) _ (b,(a:Int)) (A3 _) ⟨a,rfl,ha,h,λt ht=>ht⟩
 exact⟨r,h1,h2⟩
theorem pH (t:ByteArray) (hr:(L t).length<=1048576):∀(n a:Nat) (rem:ByteArray) (d:List Bi),(L t).length-a<=n->a<=(L t).length->L rem=(L t).drop a->d.length<=a->
  ∃ri rs,Av (λq:ByteArray×List Bi=>DJ q.1 q.2) (rem,d)=some ri/\Av (λq:List Bi×Int=>Ce t q.1 q.2) (d,(a:Int))=some rs/\
   ((∃l,ri= .inl l/\rs= .inl l/\l.length<=1048576)\/((ri= .inr ([],false)\/∃l,ri= .inl l/\l.length<=1048576/\∃x∈l,¬Pt x)/\((∃l,rs= .inr (l,false)/\l.length<=1048576)\/∃l,rs= .inl l/\l.length<=1048576/\∃x∈l,¬Pt x))):=by
 intro n
 induction n with
 |zero=>
  intro a rem d h1 h2 h3 h4;have ha:a=(L t).length:=by omega
  have g:(L rem).length=0:=by rw [h3,ha];simp
  refine⟨_,_,by rw [AA];simp only [Wk rem d g],by rw [AA];simp only [Wj t d a (by omega)],.inl ⟨d,rfl,rfl,by omega⟩⟩
 |succ n ih=>
  intro a rem d h1 h2 h3 h4
  rcases Dc a (L t).length with h0|h0
  ·have o:(L rem).length=(L t).length-a:=by rw [h3];simp
   have h:0<(L rem).length:=by omega
   have i:(L rem)[0]=(L t)[a]:=by simp only [h3];simp
   have j:(L rem)[1]?.getD 0=(L t)[a+1]?.getD 0:=by rw [h3,BO]
   have c:=Y5 rem d h (by omega) (by omega);have b:=Y4 t d a h0 (by omega) hr
   have f:∀k,L (rem.extract k (L rem).length)=(L t).drop (a+k):=λk=>by
    rw [Ik,h3,CB,AP];simp only [B6];omega
   rw [i,j]at c
   rcases MI (L t)[a].toNat 128 with hc|hc|hc
   ·rw [Ax (by omega)]at c;rw [Ax (by omega)]at b;by_cases hk:a+1+(L t)[a].toNat<=(L t).length
    ·rw [Au (by omega)]at c;rw [Au hk]at b;obtain⟨ri,rs,q1,q2,q3⟩:=ih (a+1+(L t)[a].toNat) (rem.extract (1+(L t)[a].toNat) (L rem).length) (d++ [Bi.mk 0 0 (t.extract (a+1) (a+1+(L t)[a].toNat))]) (by omega) hk (by rw [f,HE]) (by simp only [Ah,An];omega);have etx:rem.extract 1 (1+(L t)[a].toNat)=t.extract (a+1) (a+1+(L t)[a].toNat):=by
      apply Ij;rw [Ik,Ik,h3,CB];congr 1;omega
     refine⟨ri,rs,?_,?_,q3⟩
     ·rw [AA];simp only [c];rw [etx];exact q1
     rw [AA];simp only [b];exact q2
    rw [Ax (by omega)]at c;rw [Ax hk]at b;exact⟨_,_,by rw [AA];simp only [c],by rw [AA];simp only [b],.inr ⟨.inl rfl,.inl ⟨d,rfl,by omega⟩⟩⟩
   ·
    have hI:∃ri,Av (λq:ByteArray×List Bi=>DJ q.1 q.2) (rem,d)=some ri/\(ri= .inr ([],false)\/∃l,ri= .inl l/\l.length<=1048576/\∃x∈l,¬Pt x):=by
     by_cases hk:2<=(L rem).length
     ·rw [Au ⟨by omega,hk⟩]at c;obtain⟨r,q1,q2⟩:=pJ (rem.extract 2 (L rem).length) (d++ [Bi.mk (((L t)[a+1]?.getD 0).toNat:Int) (((L t)[a].toNat:Int)-128) (bs [])]) (by rw [f];simp only [Ah,An,B6];omega);refine⟨r,by rw [AA];simp only [c];exact q1,?_⟩
      rcases q2 with⟨l,rfl,q3,q4⟩|rfl
      ·refine .inr ⟨l,rfl,q3,_,q4 _ (AK _ (Ay.2 rfl)),?_⟩;intro hk
       rcases hk with⟨_,_,k3,_⟩|⟨_,k2,_⟩
       ·simp only [DP,Bm]at k3;omega
       simp only at k2;omega
      exact .inl rfl
     rw [Ax (λe=>hk e.2),Ax (by omega)]at c;exact⟨_,by rw [AA];simp only [c],.inl rfl⟩
    have hS:∃rs,Av (λq:List Bi×Int=>Ce t q.1 q.2) (d,(a:Int))=some rs/\((∃l,rs= .inr (l,false)/\l.length<=1048576)\/∃l,rs= .inl l/\l.length<=1048576/\∃x∈l,¬Pt x):=by
     rw [Ax (by omega)]at b;by_cases hk:a+1+(L t)[a].toNat<=(L t).length
     ·rw [Au hk]at b;obtain⟨r,q1,q2⟩:=pI t (d++ [Bi.mk 0 0 (t.extract (a+1) (a+1+(L t)[a].toNat))]) (a+1+(L t)[a].toNat) hk (by simp only [Ah,An];omega) hr;refine⟨r,by rw [AA];simp only [b];exact q1,?_⟩
      rcases q2 with⟨l,rfl,q3,q4⟩|⟨l,rfl,q3⟩
      ·refine .inr ⟨l,rfl,q3,_,q4 _ (AK _ (Ay.2 rfl)),?_⟩;intro m
       rcases m with⟨_,_,_,k4⟩|⟨k1,_⟩
       ·simp only [Ik,AE,B6]at k4;omega
       exact k1 rfl
      exact .inl ⟨l,rfl,q3⟩
     rw [Ax hk]at b;exact⟨_,by rw [AA];simp only [b],.inl ⟨d,rfl,by omega⟩⟩
    obtain⟨ri,q1,q2⟩:=hI;obtain⟨rs,q3,q4⟩:=hS;exact⟨ri,rs,q1,q3,.inr ⟨q2,q4⟩⟩
   rw [Au hc]at b;by_cases hk:a+2<=(L t).length
   ·rw [Au ⟨by omega,by omega⟩]at c;rw [Au hk]at b;obtain⟨ri,rs,q1,q2,q3⟩:=ih (a+2) (rem.extract 2 (L rem).length) (d++ [Bi.mk (((L t)[a+1]?.getD 0).toNat:Int) (((L t)[a].toNat:Int)-128) (bs [])]) (by omega) hk (f 2) (by simp only [Ah,An];omega);exact⟨ri,rs,by rw [AA];simp only [c];exact q1,by rw [AA];simp only [b];exact q2,q3⟩
   rw [Ax (by omega),Ax (by omega)]at c;rw [Ax hk]at b;exact⟨_,_,by rw [AA];simp only [c],by rw [AA];simp only [b],.inr ⟨.inl rfl,.inl ⟨d,rfl,by omega⟩⟩⟩
  have ha:a=(L t).length:=by omega
  have g:(L rem).length=0:=by rw [h3,ha];simp
  refine⟨_,_,by rw [AA];simp only [Wk rem d g],by rw [AA];simp only [Wj t d a (by omega)],.inl ⟨d,rfl,rfl,by omega⟩⟩
theorem qR (t:ByteArray) (hr:(L t).length<=1048576):∃li oi ls os pi ki ps ks,OM t=some (li,oi)/\Jm t=some (ls,os)/\NO li=some (pi,ki)/\Fy ls=some (ps,ks)/\((oi=os/\pi=ps/\ki=ks)\/((oi=false\/ki=false)/\(os=false\/ks=false))):=by
 obtain⟨ri,rs,q1,q2,q3⟩:=pH t hr ((L t).length) 0 t [] (by omega) (by omega) (by simp) (by simp);have e0:(([]:List Bi),((0:Nat):Int))=([],0):=rfl;simp only [e0]at q2;unfold OM Jm;rw [q1,q2,cV];have none:∀l:List Bi,l.length<=1048576->(∃x∈l,¬Pt x)->∃p,Fy l=some (p,false):=by
  rintro l hl ⟨x,hx,hn⟩;obtain⟨p,ok,h1,h2⟩:=Pp l hl
  cases ok with
  |false=>exact⟨p,h1⟩
  |true=>exact absurd (h2 rfl x hx) hn
 rcases q3 with⟨l,rfl,rfl,hl⟩|⟨hi,hs⟩
 ·obtain⟨p,ok,h1,_⟩:=Pp l hl;exact⟨l,true,l,true,p,ok,p,ok,rfl,rfl,h1,h1,.inl ⟨rfl,rfl,rfl⟩⟩
 have hI:∃li oi pi ki,(some ri).bind (Sum.elim (λv1=>(some (v1,true))) some)=some (li,oi)/\Fy li=some (pi,ki)/\(oi=false\/ki=false):=by
  rcases hi with rfl|⟨l,rfl,hl,hb⟩
  ·obtain⟨p,ok,h1,_⟩:=Pp [] (by simp);exact⟨[],false,p,ok,rfl,h1,.inl rfl⟩
  obtain⟨p,h1⟩:=none l hl hb;exact⟨l,true,p,false,rfl,h1,.inr rfl⟩
 have hS:∃li oi pi ki,(some rs).bind (Sum.elim (λv1=>(some (v1,true))) some)=some (li,oi)/\Fy li=some (pi,ki)/\(oi=false\/ki=false):=by
  rcases hs with⟨l,rfl,hl⟩|⟨l,rfl,hl,hb⟩
  ·obtain⟨p,ok,h1,_⟩:=Pp l hl;exact⟨l,false,p,ok,rfl,h1,.inl rfl⟩
  obtain⟨p,h1⟩:=none l hl hb;exact⟨l,true,p,false,rfl,h1,.inr rfl⟩
 obtain⟨li,oi,pi,ki,a1,a2,a3⟩:=hI;obtain⟨ls,os,ps,ks,b1,b2,b3⟩:=hS;exact⟨li,oi,ls,os,pi,ki,ps,ks,a1,b1,a2,b2,.inr ⟨a3,b3⟩⟩
theorem RC (t:ByteArray) (hr:(L t).length<=1048576):∃u ok,FI t=some (u,ok)/\LP t=some (u,ok)/\(ok=false->u=bs [])/\(ok=true->(L u).length<=64):=by
 unfold FI LP;rw [BJ,PJ,DP];by_cases h0:L t=[]
 ·rw [h0];exact⟨_,false,rfl,rfl,by simp,by simp⟩
 have a:0<(L t).length:=by
  rcases GN (L t).length with h|h
  ·exact absurd (A9 h) h0
  exact h
 have e1:(((L t).length:Int)==0)=false:=by simp;exact h0
 rw [e1,Ae h0,Ac,Ac];have s1:sub t 1 ((L t).length:Int)=some (t.extract 1 (L t).length):=Fi t (i:=1) (by omega) (A3 _);have s0:sx t 0=some ((L t)[0].toNat:Int):=EM t (i:=0) a;rw [s1,s0];simp only [Aa];generalize hx:t.extract 1 (L t).length=x;have b:(L x).length<=1048576:=by rw [<-hx,Ik];simp;omega
 obtain⟨li,oi,ls,os,pi,ki,ps,ks,a1,a2,a3,a4,a5⟩:=qR x b;rw [a1,a2];simp only [Aa];rw [a3,a4];simp only [Aa];have back:∀j:ByteArray,∃u ok,((Dp j).bind λv3=>(bif(!v3.2)then(some true)else(some (!(seq v3.1 t))):Option (Bool)).bind λj2=>bif j2 then(some ((bs []),false))else(some (j,true)):Option (ByteArray×Bool))=some (u,ok)/\
   ((M7 j).bind λv3=>(bif(!v3.2)then(some true)else(some (!(seq v3.1 t))):Option (Bool)).bind λj2=>bif j2 then(some ((bs []),false))else(some (j,true)):Option (ByteArray×Bool))=some (u,ok)/\(ok=false->u=bs [])/\(ok=true->(L u).length<=64/\((L t)[0].toNat=122\/(L t)[0].toNat=114)):=by
  intro j;obtain⟨z,ok,p1,p2,p3,p4⟩:=gK j;rw [p1,p2];simp only [Aa]
  cases ok with
  |false=>exact⟨_,false,rfl,rfl,by simp,by simp⟩
  |true=>
   simp only [Ak,Ac,Aa]
   cases hz:seq z t with
   |false=>exact⟨_,false,rfl,rfl,by simp,by simp⟩
   |true=>
    have c:z=t:=by rw [ID,A7]at hz;exact hz
    obtain⟨p5,p6⟩:=p4 rfl;refine⟨_,true,rfl,rfl,by simp,λ_=>⟨p5,?_⟩⟩;rw [c,Ab a]at p6
    rcases p6 with p6|p6
    ·injection p6 with p6;left;rw [p6];rfl
    injection p6 with p6;right;rw [p6];rfl
 by_cases h122:(L t)[0].toNat=122
 ·have c1:((((L t)[0].toNat:Nat):Int)==122)=true:=by simp [h122]
  have c2:((((L t)[0].toNat:Nat):Int) !=114)=true:=by simp [h122]
  rw [c1,c2];simp only [Af]
  rcases a5 with⟨rfl,rfl,rfl⟩|⟨hi,hs⟩
  ·cases oi with
   |false=>exact⟨_,false,rfl,rfl,by simp,by simp⟩
   |true=>
    cases ki with
    |false=>exact⟨_,false,rfl,rfl,by simp,by simp⟩
    |true=>
     simp only [Ak,Ac,Aa,BA];obtain⟨u,ok,b1,b2,b3,b4⟩:=back pi;exact⟨u,ok,b1,b2,b3,λh=>(b4 h).1⟩
  refine⟨bs [],false,?_,?_,by simp,by simp⟩
  ·rcases hs with rfl|rfl
   ·rfl
   cases os<;>rfl
  rcases hi with rfl|rfl
  ·rfl
  cases oi<;>rfl
 have c1:((((L t)[0].toNat:Nat):Int)==122)=false:=by simp;omega
 rw [c1];simp only [Ac,Aa,BA];by_cases h114:(L t)[0].toNat=114
 ·have c2:((((L t)[0].toNat:Nat):Int) !=114)=false:=by simp [h114]
  rw [c2];simp only [Ac,Aa,BA];obtain⟨u,ok,b1,b2,b3,b4⟩:=back x;exact⟨u,ok,b1,b2,b3,λh=>(b4 h).1⟩
 have c2:((((L t)[0].toNat:Nat):Int) !=114)=true:=by simp;omega
 rw [c2];simp only [Af];have nope:∀(j u:ByteArray) (ok:Bool),(ok=true->(L u).length<=64/\((L t)[0].toNat=122\/(L t)[0].toNat=114))->ok=false:=by
  intro j u ok d
  cases ok with
  |false=>rfl
  |true=>rcases(d rfl).2 with h|h<;>omega
 obtain⟨u,ok,b1,b2,b3,b4⟩:=back x;have k1:=nope x u ok b4;subst k1;have k2:=b3 rfl;subst k2;refine⟨bs [],false,b1,?_,by simp,by simp⟩
 cases oi with
 |false=>rfl
 |true=>
  cases ki with
  |false=>rfl
  |true=>
   simp only [Ak,Ac,Aa,BA];obtain⟨u,ok,d1,d2,d3,d4⟩:=back pi;have k1:=nope pi u ok d4;subst k1;have k2:=d3 rfl;subst k2;exact d2
def OL (x:Leaf):Nat:=bif x.Is==0 then 1 else 0
theorem tC (l:List Leaf):(l.map OL).sum<=l.length:=by
 induction l with
 |nil=>simp
 |cons x l ih=>
  have:OL x<=1:=by unfold OL;cases x.Is==0<;>simp
  simp only [B8,E7,Az];omega
theorem ZB (b:Block) (h:b.Leaves.length<=1048576):NM b=some ((b.Leaves.map OL).sum:Int):=by
 unfold NM;obtain⟨v,h1,rfl⟩:=Bf (body:=λs:Int×Int=>Ie b s.1 s.2) (λ(s:Int) i=>(s,i)) b.Leaves.length (λk s=>s=(((b.Leaves.take k).map OL).sum:Nat)) (λv=>v=((b.Leaves.map OL).sum:Nat))
  (λs k hk hs=>by
   have hx:b.Leaves[k]?=some b.Leaves[k]:=Ab hk;have e:=PE OL b.Leaves k hk;have e2:=MM OL b.Leaves (k+1);have e3:=tC b.Leaves;refine .inl ?_;simp only [Ie,AG,Ad hk,Af,AB,hx,Aa];have e4:OL b.Leaves[k]=bif b.Leaves[k].Is==0 then 1 else 0:=rfl
   cases hb:b.Leaves[k].Is==0 with
   |true=>
    rw [hb]at e4;simp only [Af]at e4⊢;rw [ad1 (by omega),Cx (by omega) (by omega)];exact⟨_,rfl,by omega⟩
   |false=>
    rw [hb]at e4;simp only [Ac]at e4⊢;rw [ad1 (by omega)]
    exact⟨_,rfl,by omega⟩)
  (λs hs=>⟨s,by simp only [Ie,AG,Aq,Aw,Ac],by rw [AL]at hs;exact hs⟩) (s:=0) (by simp)
 rw [h1];rfl
theorem o6 (f:Flash) (hf:cK f) (hn:nl f.Blocks<=1048576):∃v:Int,IJ f=some v/\fF f=some v/\0<=v/\v<=nl f.Blocks:=by
 unfold IJ fF;obtain⟨v,h1,h2,h3⟩:=Ta (body:=λs:Int×Int=>FK f s.1 s.2) (body':=λs:Int×Int=>Nh f s.1 s.2) (λ(s:Int) i=>(s,i)) (λ(s:Int) i=>(s,i)) f.Blocks.length (λi n=>0<=n/\n<=(((f.Blocks.take i).map λb=>b.Leaves.length).sum:Nat)) (λv=>0<=v/\v<=nl f.Blocks)
  (λn i hi hs=>by
   have hb:f.Blocks[i]?=some f.Blocks[i]:=Ab hi;have hm:f.Blocks[i]∈f.Blocks:=AC _;have d:=PE (λb:Block=>b.Leaves.length) f.Blocks i hi;have g:=MM (λb:Block=>b.Leaves.length) f.Blocks (i+1);unfold nl at hn;have h:=hf.1;have c:=hf.2 _ hm;have j:=tC f.Blocks[i].Leaves;refine .inl ?_;simp only [FK,Nh,AG,Ad hi,Af,AB,hb,Aa,ZB _ c];obtain⟨u,q1,rfl⟩:=Bf (body:=λs:Int×Int=>FJ f (i:Int) s.1 s.2) (λ(s:Int) i=>(s,i)) f.Blocks[i].Leaves.length (λk s=>s=n+(bif f.Blocks[i].Bad then 0 else((f.Blocks[i].Leaves.take k).map OL).sum:Nat)) (λv=>v=n+(bif f.Blocks[i].Bad then 0 else(f.Blocks[i].Leaves.map OL).sum:Nat))
    (λs k hk hs=>by
     have hx:f.Blocks[i].Leaves[k]?=some f.Blocks[i].Leaves[k]:=Ab hk;have e:=PE OL f.Blocks[i].Leaves k hk;have e2:=MM OL f.Blocks[i].Leaves (k+1);refine .inl ?_;simp only [FJ,AB,hb,Aa,AG,Ad hk,Af,hx]
     cases a:f.Blocks[i].Bad with
     |true=>
      rw [a]at hs;simp only [Ak,Ac,Af]at hs⊢;rw [ad1 (by omega)];exact⟨_,rfl,hs⟩
     |false=>
      rw [a]at hs;simp only [AH,Ac,Af]at hs⊢;have e4:OL f.Blocks[i].Leaves[k]=bif f.Blocks[i].Leaves[k].Is==0 then 1 else 0:=rfl
      cases hb:f.Blocks[i].Leaves[k].Is==0 with
      |true=>
       rw [hb]at e4;simp only [Af]at e4⊢;rw [ad1 (by omega),Cx (by omega) (by omega)];exact⟨_,rfl,by omega⟩
      |false=>
       rw [hb]at e4;simp only [Ac]at e4⊢;rw [ad1 (by omega)]
       exact⟨_,rfl,by omega⟩)
    (λs hs=>⟨s,by simp only [FJ,AB,hb,Aa,AG,Aq,Aw,Ac],by rw [AL]at hs;exact hs⟩) (s:=n) (by cases f.Blocks[i].Bad<;>simp)
   rw [q1];simp only [Aa]
   cases f.Blocks[i].Bad with
   |true=>
    simp only [Af,Ak,Ac];rw [ad1 (by omega)];exact⟨_,rfl,by simp,by omega,by omega⟩
   |false=>
    simp only [Af,AH,Ac];rw [ad1 (by omega),Cx (by omega) (by omega)]
    exact⟨_,rfl,rfl,by omega,by omega⟩)
  (λn hs=>by
   rw [AL]at hs
   exact⟨n,by simp only [FK,AG,Aq,Aw,Ac],by simp only [Nh,AG,Aq,Aw,Ac],hs⟩) (s:=0) (by simp)
 rw [h1,h2];exact⟨v,rfl,rfl,h3⟩
def jY (a:Arena):Prop:=a.Knots.length<=1048576
theorem mP (x a b:Int):Cc x a b=some (decide (a<=x/\x<=b)):=by
 rw [Xa];congr 1;rw [Ee];simp
theorem TA (a:Arena):I8 a=G5 a:=by
 unfold I8 G5;have hb:LV a=DX a:=by
  funext y;unfold LV DX
  cases decide (y<ln a.Knots)with
  |false=>rfl
  |true=>
   simp only [Af]
   cases gi a.Knots y with
   |none=>rfl
   |some k=>
    simp only [Aa]
    cases h:(ln k.Kids !=4)with
    |true=>rfl
    |false=>
     simp only [Ac];have h4:ln k.Kids=4:=by simpa using h
     have:(λs:Int=>LU a y k s)=λs:Int=>DW a y k s:=by
      funext s;unfold LU DW;rw [h4,fQ]
     rw [this]
 rw [hb]
def Qh (a:Arena) (i:Nat) (k:BI) (n:Int):Prop:=if k.Leaf=true then 0<=n else n= -1\/(0<=n/\n<i/\∃k',gi a.Knots n=some k'/\k'.Leaf=true)
theorem kV (a:Arena) (ha:jY a):∃v,G5 a=some v/\(v=true->∀(i:Nat) k,a.Knots[i]?=some k->k.Kids.length=4/\∀n∈k.Kids,Qh a i k n):=by
 unfold jY at ha;unfold G5;obtain⟨r,h1,h2⟩:=Bf (body:=λs:Int=>DX a s) (λ(_:Unit) i=>i) a.Knots.length (λi _=>∀(j:Nat) k,j<i->a.Knots[j]?=some k->k.Kids.length=4/\∀n∈k.Kids,Qh a j k n) (λr=>r= .inr false\/r= .inl ()/\∀(i:Nat) k,a.Knots[i]?=some k->k.Kids.length=4/\∀n∈k.Kids,Qh a i k n)
  (λ_ i hi hs=>by
   obtain⟨k,hk⟩:∃k,a.Knots[i]?=some k:=⟨_,Ab hi⟩;simp only [DX,AG,Ad hi,Af,AB,hk,Aa];by_cases h4:k.Kids.length=4
   ·have e1:(ln k.Kids !=4)=false:=by simp [ln,h4]
    simp only [e1,Ac];obtain⟨r,q1,q2⟩:=Bf (body:=λs:Int=>DW a (i:Int) k s) (λ(_:Unit) j=>j) 4 (λj _=>∀(m:Nat) n,m<j->k.Kids[m]?=some n->Qh a i k n) (λr=>r= .inr (.inr (.inr false))\/r= .inl ()/\∀n∈k.Kids,Qh a i k n)
     (λ_ j hj d=>by
      obtain⟨n,hn⟩:∃n,k.Kids[j]?=some n:=⟨_,Ab (by omega)⟩;simp only [DW];rw [Ad (by omega:(j:Int)<4),Af,AB,hn];simp only [Aa]
      have good:Qh a i k n->(∃s':Unit,(bif false then(some (.inr (.inr (.inr (.inr false)))))else(some (.inl (ad (j:Int) 1))):Option ((Int)⊕((Unit)⊕((Int)⊕((Unit)⊕(Bool))))))=some (.inl ((j+1:Nat):Int))/\∀(m:Nat) n,m<j+1->k.Kids[m]?=some n->Qh a i k n):=λf=>by
       refine⟨(),by rw [Ac,ad1 (by omega)],λm n' hm b=>?_⟩;by_cases e:m=j
       ·subst e;rw [hn]at b
        injection b with b
        rw [<-b];exact f
       exact d m n' (by omega) b
      cases hl:k.Leaf with
      |true=>
       simp only [Af,Ak,Ac];by_cases h0:n<0
       ·rw [Ad h0,Af];exact .inr ⟨_,rfl,.inl rfl⟩
       rw [Ae h0,Ac];simp only [Aa];exact .inl (good (by unfold Qh;rw [Au hl];omega))
      |false=>
       simp only [Ac,AH,Af];by_cases h1:n= -1
       ·have:(n != -1)=false:=by simp [h1]
        rw [this];simp only [Ac,Aa];exact .inl (good (by unfold Qh;rw [Ax (by rw [hl];simp)];exact .inl h1))
       have:(n != -1)=true:=by simp [h1]
       rw [this];simp only [Af];rw [C5 (by omega) (by omega),mP];simp only [Aa];by_cases h2:0<=n/\n<=(i:Int)-1
       ·rw [Ad h2];simp only [Ak,Ac];rw [Qs h2.1 (by omega)];simp only [Aa]
        cases g:(a.Knots[n.toNat]'(by omega)).Leaf with
        |true=>
         simp only [Ak];refine .inl (good ?_);unfold Qh;rw [Ax (by rw [hl];simp)];exact .inr ⟨h2.1,by omega,_,Qs h2.1 (by omega),g⟩
        |false=>
         simp only [AH,Af];exact .inr ⟨_,rfl,.inl rfl⟩
       rw [Ae h2];simp only [AH,Af,Aa]
       exact .inr ⟨_,rfl,.inl rfl⟩)
     (λ_ d=>⟨_,by simp only [DW];rw [Ae (by omega:¬((4:Nat):Int)<4),Ac],.inr ⟨rfl,λn hn=>by
      obtain⟨m,hm,rfl⟩:=AF hn
      exact d m _ (by omega) (Ab hm)⟩⟩) (s:=()) (λm n hm=>by omega)
    have q1':Av (λs:Int=>DW a (i:Int) k s) 0=some r:=q1;rw [q1']
    rcases q2 with rfl|⟨rfl,q2⟩
    ·exact .inr ⟨_,rfl,.inl rfl⟩
    simp only [Aa,BA];rw [ad1 (by omega)];refine .inl ⟨(),rfl,λj k' hj c=>?_⟩;by_cases e:j=i
    ·subst e;rw [hk]at c
     injection c with c
     rw [<-c];exact⟨h4,q2⟩
    exact hs j k' (by omega) c
   have e1:(ln k.Kids !=4)=true:=by simp [ln];omega
   simp only [e1,Af]
   exact .inr ⟨_,rfl,.inl rfl⟩)
  (λ_ hs=>⟨_,by simp only [DX,AG,Aq,Aw,Ac],.inr ⟨rfl,λi k hk=>hs i k (Ag.1 hk).1 hk⟩⟩) (s:=()) (λj k hj=>by omega)
 have h1':Av (λs:Int=>DX a s) 0=some r:=h1;rw [h1']
 rcases h2 with rfl|⟨rfl,h2⟩
 ·exact⟨_,rfl,by simp⟩
 exact⟨_,rfl,λ_=>h2⟩
theorem tT (a:Arena) (ha:jY a) (root:Int) (s:Nat) (hs:s<16):∃v,O1 a root (s:Int)=some v/\VM a root (s:Int)=some v:=by
 have f:a.Knots.length<=1048576:=ha;obtain⟨ok,h1,h2⟩:=kV a ha;unfold O1 VM;rw [TA,h1,fQ];simp only [Aa,mP];rw [Ad (by omega:(0:Int)<=(s:Int)/\(s:Int)<=15)];simp only [Ak,Ac,Aa];have d:∃b,G9 a root=some b/\Hm a root=some (b||root== -1)/\(b=true->0<=root/\∃k,gi a.Knots root=some k/\k.Leaf=false):=by
  unfold G9 Hm;rw [fQ,C5 (by rw [BW];omega) (by rw [BW];omega),BW,mP];simp only [Aa];by_cases hr:0<=root/\root<=(a.Knots.length:Int)-1
  ·have e1:(root== -1)=false:=by simp;omega
   rw [Ad hr,e1];simp only [Af,Ac,Oe];rw [Qs hr.1 (by omega)];exact⟨_,rfl,rfl,λhb=>⟨hr.1,_,rfl,by simpa using hb⟩⟩
  rw [Ae hr];simp only [Ac];refine⟨false,rfl,?_,by simp⟩;cases root== -1<;>rfl
 obtain⟨b,r1,r2,r3⟩:=d;rw [r1,r2];simp only [Aa]
 cases ok with
 |false=>
  simp only [AH,Af,Aa];cases b<;>exact⟨0,rfl,rfl⟩
 |true=>
  simp only [Ak,Ac]
  cases b with
  |false=>
   simp only [T9,AH,Af,Aa]
   cases hm:(root== -1)with
   |false=>exact⟨0,rfl,rfl⟩
   |true=>
    have hr:root= -1:=by simpa using hm
    simp only [Ak,Ac,Aa,Mq,hr];rw [Ad (by omega:(-1:Int)<0)];exact⟨0,rfl,rfl⟩
  |true=>
   obtain⟨hr,k,hk,hl⟩:=r3 rfl;simp only [Bool.true_or,Ak,Ac,Aa,Mq,Sa,hk];rw [Ae (by omega:¬root<0),Ac];obtain⟨g1,g2⟩:=D6 hk;obtain⟨k4,kk⟩:=h2 rfl root.toNat k g2;have eq4:qu (s:Int) 4=((s/4:Nat):Int):=by
    unfold qu;rw [show Int.tdiv (s:Int) 4=((s/4:Nat):Int)from rfl,N2 (by omega) (by omega)]
   have em:Int.tmod (s:Int) 4=((s %4:Nat):Int):=rfl;rw [eq4,em,Qs (by omega) (by omega)];simp only [Aa,Ba];have e:k.Kids[s/4]'(by omega)∈k.Kids:=AC _;have c:=kk _ e;unfold Qh at c;rw [Ax (by rw [hl];simp)]at c
   rcases c with c|⟨c1,c2,k',c3,c4⟩
   ·rw [c,Ad (by omega:(-1:Int)<0)];exact⟨0,rfl,rfl⟩
   rw [Ae (by omega),Ac,c3];simp only [Aa];obtain⟨g3,g4⟩:=D6 c3;obtain⟨k4',_⟩:=h2 rfl _ k' g4;rw [Qs (by omega) (by omega)];exact⟨_,rfl,rfl⟩
theorem gR (a:Arena) (ha:jY a) (root:Int):∃l,IV a root=some l/\Rc a root=some l/\l.length=16:=by
 unfold IV Rc;obtain⟨l,h1,h2,h3⟩:=Ta (body:=λs:List Int×Int=>Ha a root s.1 s.2) (body':=λs:List Int×Int=>M8 a root s.1 s.2) (λ(o:List Int) i=>(o,i)) (λ(o:List Int) i=>(o,i)) 16 (λi o=>o.length=i) (λo=>o.length=16)
  (λo i hi ho=>by
   obtain⟨v,g1,g2⟩:=tT a ha root i hi;simp only [Ha,M8];rw [Ad (by omega:(i:Int)<16),Af,Af,g1,g2];simp only [Aa];rw [Cq (by simp only [An];omega),ad1 (by omega)]
   exact .inl ⟨_,rfl,rfl,by simp only [Ah,An];omega⟩)
  (λo ho=>⟨o,by simp only [Ha];rw [Ae (by omega:¬((16:Nat):Int)<16),Ac],by simp only [M8];rw [Ae (by omega:¬((16:Nat):Int)<16),Ac],ho⟩) (s:=[]) rfl
 rw [h1,h2];exact⟨l,rfl,rfl,h3⟩
def cF:A4:=A4.mk 0 0 (Page.mk 0 0 0 0 0 (bs []))
def JS (c:Int) (y:A4):Bool:=y.Page.Kind==1&&y.Page.Tx==c
def K3 (r:List A4) (o:Option Nat):A4:=match o with
 |some j=>r[j]?.getD cF
 |none=>cF
def Pw (c:Int) (r:List A4) (n:Nat) (o:Option Nat):Prop:=match o with
 |none=>∀(k:Nat) y,k<n->r[k]?=some y->JS c y=false
 |some j=>j<n/\(∃y,r[j]?=some y/\JS c y=true)/\∀(k:Nat) y,j<k->k<n->r[k]?=some y->JS c y=false
theorem n8 {o o':Option Nat} (h:Pw c r r.length o) (h':Pw c r r.length o'):o=o':=by
 cases o with
 |none=>
  cases o' with
  |none=>rfl
  |some j=>
   obtain⟨h1,⟨y,h2,h3⟩,_⟩:=h';rw [h j y h1 h2]at h3;cases h3
 |some j=>
  obtain⟨h1,⟨y,h2,h3⟩,h4⟩:=h
  cases o' with
  |none=>
   rw [h' j y h1 h2]at h3;cases h3
  |some i=>
   obtain⟨k1,⟨z,k2,k3⟩,k4⟩:=h'
   rcases MI i j with e|e|e
   ·rw [k4 j y e h1 h2]at h3;cases h3
   ·rw [e]
   rw [h4 i z e k1 k2]at k3;cases k3
theorem Zc (r:List A4) (hr:r.length<=1048576) (c:Int):∃o,KY r c=some (K3 r o,o.isSome)/\Pw c r r.length o:=by
 unfold KY;rw [C5 (by rw [BW];omega) (by rw [BW];omega),BW];obtain⟨b,h1,h2⟩:=Bf (body:=λs:Int=>HK r c s) (λ(_:Unit) i=>(r.length:Int)-1-i) r.length (λi _=>∀(k:Nat) y,r.length-i<=k->k<r.length->r[k]?=some y->JS c y=false) (λb=>(b= .inl ()/\Pw c r r.length none)\/∃j,b= .inr (K3 r (some j),true)/\Pw c r r.length (some j))
  (λ_ i hi hs=>by
   have e1:((r.length:Int)-1-(i:Int))=((r.length-1-i:Nat):Int):=by omega
   have a:r.length-1-i<r.length:=by omega
   have hg:r[r.length-1-i]?=some r[r.length-1-i]:=Ab a;simp only [HK,e1];rw [Ad (by omega:((r.length-1-i:Nat):Int)>=0),Af];simp only [AB,hg,Aa]
   have next:JS c r[r.length-1-i]=false->∃s':Unit,(some (.inl (sb ((r.length-1-i:Nat):Int) 1)):Option ((Int)⊕((Unit)⊕((A4×Bool)))))=some (.inl ((r.length:Int)-1-((i+1:Nat):Int)))/\∀(k:Nat) y,r.length-(i+1)<=k->k<r.length->r[k]?=some y->JS c y=false:=λd=>by
    refine⟨(),by rw [C5 (by omega) (by omega)];congr 2;omega,λk y h1 h2 h3=>?_⟩;by_cases e:k=r.length-1-i
    ·subst e;rw [hg]at h3
     injection h3 with h3
     rw [<-h3];exact d
    exact hs k y (by omega) h2 h3
   cases hk:r[r.length-1-i].Page.Kind==1 with
   |false=>
    simp only [Ac,Aa];exact .inl (next (by unfold JS;rw [hk];rfl))
   |true=>
    simp only [Af,Aa]
    cases ht:r[r.length-1-i].Page.Tx==c with
    |false=>
     simp only [Ac];exact .inl (next (by unfold JS;rw [ht,Yy]))
    |true=>
     simp only [Af];refine .inr ⟨_,rfl,.inr ⟨r.length-1-i,?_,a,⟨_,hg,by unfold JS;rw [hk,ht];rfl⟩,λk y h1 h2 h3=>hs k y (by omega) h2 h3⟩⟩
     simp only [K3,hg,Bw])
  (λ_ hs=>⟨_,by simp only [HK];rw [Ae (by omega),Ac],.inl ⟨rfl,λk y h1 h2=>hs k y (by omega) h1 h2⟩⟩) (s:=()) (λk y h1 h2=>by omega)
 have e0:((r.length:Int)-1-0)=(r.length:Int)-1:=by omega
 rw [e0]at h1;rw [h1]
 rcases h2 with⟨rfl,h2⟩|⟨j,rfl,h2⟩
 ·exact⟨none,rfl,h2⟩
 exact⟨some j,rfl,h2⟩
theorem uO {j:Nat} {x:A4} (h:srt BG r) (a:j<i) (hx:r[j]?=some x) (hy:r[i]?=some y):x.Page.Seq<=y.Page.Seq:=by
 unfold srt at h;obtain⟨h1,h2⟩:=Ag.1 hx;obtain⟨h3,h4⟩:=Ag.1 hy;rw [<-h2,<-h4];exact KT.1 h j i h1 h3 a
theorem oS (f:Flash) (r:List A4) (l:Hx f=some r) (hr:r.length<=1048576) (m:srt BG r) (c:Int):∃o,Tk f c=some (K3 r o,o.isSome)/\Pw c r r.length o:=by
 unfold Tk;rw [l];simp only [Aa];obtain⟨b,h1,o,rfl,h2⟩:=Bf (body:=λs:Bool×Int×Int×Int×Int×Int×Int×Int×Int×ByteArray=>Jz c r s.1 s.2.1 s.2.2.1 s.2.2.2.1 s.2.2.2.2.1 s.2.2.2.2.2.1 s.2.2.2.2.2.2.1 s.2.2.2.2.2.2.2.1 s.2.2.2.2.2.2.2.2.1 s.2.2.2.2.2.2.2.2.2)
  (λ(o:Option Nat) i=>(o.isSome,i,(K3 r o).Block,(K3 r o).Leaf,(K3 r o).Page.Kind,(K3 r o).Page.Seq,(K3 r o).Page.Tx,(K3 r o).Page.Part,(K3 r o).Page.Count,(K3 r o).Page.Text)) r.length (λi o=>Pw c r i o)
  (λb=>∃o,b=(o.isSome,(K3 r o).Block,(K3 r o).Leaf,(K3 r o).Page.Kind,(K3 r o).Page.Seq,(K3 r o).Page.Tx,(K3 r o).Page.Part,(K3 r o).Page.Count,(K3 r o).Page.Text)/\Pw c r r.length o)
  (λo i hi ho=>by
   have hg:r[i]?=some r[i]:=Ab hi;refine .inl ?_;simp only [Jz,AG,Ad hi,Af,AB,hg,Aa]
   have keep:JS c r[i]=false->Pw c r (i+1) o:=λd=>by
    cases o with
    |none=>
     intro k y h1 h2;by_cases e:k=i
     ·subst e;rw [hg]at h2;injection h2 with h2;rw [<-h2];exact d
     exact ho k y (by omega) h2
    |some j=>
     obtain⟨h1,h2,h3⟩:=ho;refine⟨by omega,h2,λk y h4 h5 h6=>?_⟩;by_cases e:k=i
     ·subst e;rw [hg]at h6;injection h6 with h6;rw [<-h6];exact d
     exact h3 k y h4 (by omega) h6
   cases hk:r[i].Page.Kind==1 with
   |false=>
    simp only [Ac,Aa];rw [ad1 (by omega)];exact⟨o,rfl,keep (by unfold JS;rw [hk];rfl)⟩
   |true=>
    simp only [Af]
    cases ht:r[i].Page.Tx==c with
    |false=>
     simp only [Ac,Aa];rw [ad1 (by omega)];exact⟨o,rfl,keep (by unfold JS;rw [ht,Yy])⟩
    |true=>
     simp only [Af];have g:JS c r[i]=true:=by unfold JS;rw [hk,ht];rfl
     have a:Pw c r (i+1) (some i):=⟨by omega,⟨_,hg,g⟩,λk y h1 h2=>by omega⟩;have h:K3 r (some i)=r[i]:=by simp only [K3,hg,Bw]
     cases o with
     |none=>
      simp only [GM,AH,Af,Aa];rw [ad1 (by omega)];exact⟨some i,by rw [h];rfl,a⟩
     |some j=>
      obtain⟨h1,⟨y,h2,h3⟩,_⟩:=ho;have n:K3 r (some j)=y:=by simp only [K3,h2,Bw]
      have p:=uO m h1 h2 hg;simp only [Option.isSome_some,Ak,Ac,Aa,n];rw [Ad (by omega:r[i].Page.Seq>=y.Page.Seq)];simp only [Af];rw [ad1 (by omega)]
      exact⟨some i,by rw [h];rfl,a⟩)
  (λo ho=>⟨_,by simp only [Jz,AG,Aq,Aw,Ac],o,rfl,ho⟩) (s:=none) (λk y h1=>by omega)
 have h1':Av (λs:Bool×Int×Int×Int×Int×Int×Int×Int×Int×ByteArray=>Jz c r s.1 s.2.1 s.2.2.1 s.2.2.2.1 s.2.2.2.2.1 s.2.2.2.2.2.1 s.2.2.2.2.2.2.1 s.2.2.2.2.2.2.2.1 s.2.2.2.2.2.2.2.2.1 s.2.2.2.2.2.2.2.2.2) (false,0,0,0,0,0,0,0,0,(bs []))=_:=h1;rw [h1'];exact⟨o,rfl,h2⟩
theorem qS (hT:∀b∈f.Blocks,∀x∈b.Leaves,(L x.Text).length<=1048576) (h:Qi f y):(L y.Page.Text).length<=90:=by
 obtain⟨b,x,h1,h2,_,h3⟩:=h;obtain⟨_,g1⟩:=D6 h1;obtain⟨_,g2⟩:=D6 h2;obtain⟨p,ok,k1,_,_,k2⟩:=J7 x.Text (by have:=hT b (A6 g1) x (A6 g2);omega);rw [h3]at k1
 injection k1 with k1
 injection k1 with k1 k3
 have hp:=k2 k3.symm;obtain⟨v,q1,_,q2⟩:=Uu p;rw [hp]at q1
 injection q1 with q1
 obtain⟨_,_,_,_,_,q3⟩:=q2 q1.symm;rw [k1];rw [BJ]at q3;omega
structure tK (f:Flash) (r:List A4):Prop where
 s:Gx f=some r
 i:Hx f=some r
 len:r.length<=1048576
 page:∀y∈r,Qi f y
 text:∀y∈r,(L y.Page.Text).length<=90
 srt:srt BG r
theorem dB (h:tK f r) (c:Int):∃u ok,Km r c=some (u,ok)/\Ln f c=some (u,ok):=by
 obtain⟨o,h1,h2⟩:=Zc r h.len c;obtain⟨o',h3,h4⟩:=oS f r h.i h.len h.srt c;obtain rfl:=n8 h2 h4;unfold Km Ln;rw [h1,h3];simp only [Aa]
 cases o with
 |none=>exact⟨_,_,rfl,rfl⟩
 |some j=>
  simp only [Option.isSome_some,Ak,Ac];obtain⟨_,⟨y,k1,_⟩,_⟩:=h2;have a:K3 r (some j)=y:=by simp only [K3,k1,Bw]
  obtain⟨u,ok,p1,p2,_⟩:=RC y.Page.Text (by have:=h.text y (A6 k1);omega);rw [a,p1,p2];exact⟨_,_,rfl,rfl⟩
def asc (l:List Int):Prop:=l.Pairwise λx y=>x<y
theorem VU:∀{a b:List Int},asc a->asc b->(∀x,x∈a↔x∈b)->a=b
 |[],[],_,_,_=>rfl
 |[],y::b,_,_,h=>by have:=(h y).2 CA;cases this
 |x::a,[],_,_,h=>by have:=(h x).1 CA;cases this
 |x::a,y::b,ha,hb,h=>by
  obtain⟨a1,a2⟩:=CX.1 ha;obtain⟨b1,b2⟩:=CX.1 hb;have c:x=y:=by
   have h1:=(h x).1 CA;have h2:=(h y).2 CA
   rcases BB.1 h1 with h1|h1
   ·exact h1
   rcases BB.1 h2 with h2|h2
   ·exact h2.symm
   have:=a1 y h2;have:=b1 x h1;omega
  subst c;congr 1
  refine VU a2 b2 λz=>⟨λhz=>?_,λhz=>?_⟩
  ·rcases BB.1 ((h z).1 (Dl _ hz))with e|e
   ·have:=a1 z hz;omega
   exact e
  rcases BB.1 ((h z).2 (Dl _ hz))with e|e
  ·have:=b1 z hz;omega
  exact e
def r9 (l:List Int) (x:Int):List Int:=l.filter (λy=>decide (y<x))++(if x>0 then [x]else [])++l.filter (λy=>decide (y>x))
theorem Rf {body:List Int×Int->Option ((List Int×Int)⊕(List Int))} (l:List Int) (p:Int->Bool) (o:List Int) (hM:l.length+o.length<=1073741824) (hb:∀(u:List Int) (i:Nat) x,l[i]?=some x->u.length<=o.length+i->body (u,(i:Int))=(bif p x then((ap 8 u [x]).bind λc=>some (.inl (c,ad (i:Int) 1)))else some (.inl (u,ad (i:Int) 1)))) (he:∀u,body (u,(l.length:Int))=some (.inr u)):Av body (o,0)=some (o++l.filter p):=by
 obtain⟨b,h1,rfl⟩:=Bf (body:=body) (λ(u:List Int) i=>(u,i)) l.length (λi u=>u=o++(l.take i).filter p) (λu=>u=o++l.filter p)
  (λu i hi hu=>by
   have hg:l[i]?=some l[i]:=Ab hi;have a:u.length<=o.length+i:=by
    rw [hu,Ah];have:=CF p (l.take i);simp only [AE]at this;omega
   refine .inl ?_;rw [hb u i _ hg a];have et:l.take (i+1)=l.take i++ [l[i]]:=by rw [Ap hi]
   cases hp:p l[i]with
   |true=>
    simp only [Af];rw [Cq (by simp only [An];omega),ad1 (by omega)];refine⟨_,rfl,?_⟩;rw [et,AQ,hu,BM (by simpa using hp),FW,Ao]
   |false=>
    simp only [Ac];rw [ad1 (by omega)];refine⟨_,rfl,?_⟩
    rw [et,AQ,hu,BN (by simp [hp]),FW,A0])
  (λu hu=>⟨u,he u,by rw [hu,AL]⟩) (s:=o) (by simp)
 exact h1
theorem zE (l:List Int) (x:Int) (hl:l.length<=33554432):MQ l x=some (r9 l x):=by
 unfold MQ
 rw [Rf (body:=λs:List Int×Int=>HO l x s.1 s.2) l (λy=>decide (y<x)) [] (by simp only [Bm];omega)
  (λu i y hy _=>by
   have hi:=(Ag.1 hy).1
   simp only [HO,AG,Ad hi,Af,AB,hy,Aa])
  (λu=>by simp only [HO,AG,Aq,Aw,Ac])]
 simp only [Aa,A5];have h1:=CF (λy=>decide (y<x)) l
 have step:∀o:List Int,o.length<=33554433->Av (λs:List Int×Int=>Gu l x s.1 s.2) (o,0)=some (o++l.filter (λy=>decide (y>x))):=λo ho=>
  Rf (body:=λs:List Int×Int=>Gu l x s.1 s.2) l (λy=>decide (y>x)) o (by omega)
   (λu i y hy _=>by
    have hi:=(Ag.1 hy).1
    simp only [Gu,AG,Ad hi,Af,AB,hy,Aa])
   (λu=>by simp only [Gu,AG,Aq,Aw,Ac])
 unfold r9;by_cases hx:x>0
 ·rw [Ad hx,Af,Cq (by simp only [An];omega),Au hx];simp only [Aa];rw [step _ (by simp only [Ah,An];omega)];rfl
 rw [Ae hx,Ac,Ax hx];simp only [Aa];rw [step _ (by omega),A0];rfl
theorem mN {l:List Int} {x y:Int} (hl:∀z∈l,0<z):y∈r9 l x↔y∈l\/(y=x/\0<x):=by
 unfold r9;simp only [Ai,AU,A7];constructor
 ·rintro((⟨h1,_⟩|h1)|⟨h1,_⟩)
  ·exact .inl h1
  ·split at h1
   ·rename_i hx;rw [Ay]at h1;exact .inr ⟨h1,hx⟩
   cases h1
  exact .inl h1
 rintro(h1|⟨rfl,h2⟩)
 ·rcases Int.lt_trichotomy y x with h|h|h
  ·exact .inl (.inl ⟨h1,h⟩)
  ·subst h;have:=hl y h1;exact .inl (.inr (by rw [Au this];exact Ay.2 rfl))
  exact .inr ⟨h1,h⟩
 exact .inl (.inr (by rw [Au h2];exact Ay.2 rfl))
theorem mO {l:List Int} {x:Int} (h:asc l):asc (r9 l x):=by
 unfold r9 asc;rw [B3,B3];refine⟨⟨List.Pairwise.filter _ h,?_,?_⟩,List.Pairwise.filter _ h,?_⟩
 ·split<;>simp
 ·intro a ha b hb;split at hb
  ·rw [Ay]at hb;subst hb;simpa using(AU.1 ha).2
  cases hb
 intro a ha b hb;have c:x<b:=by simpa using(AU.1 hb).2
 rcases Ai.1 ha with ha|ha
 ·have:a<x:=by simpa using(AU.1 ha).2
  omega
 split at ha
 ·rw [Ay]at ha;omega
 cases ha
theorem WZ (l:List Int) (x:Int) (h:asc l):(r9 l x).length<=l.length+1:=by
 have hd:(l.filter (λy=>decide (y<x))).length+(l.filter (λy=>decide (y>x))).length<=l.length:=by
  have e:∀l:List Int,(l.filter (λy=>decide (y<x))).length+(l.filter (λy=>decide (y>x))).length<=l.length:=by
   intro l
   induction l with
   |nil=>simp
   |cons z l ih=>
    simp only [List.filter_cons,Az];by_cases h1:z<x
    ·rw [Au (by simpa using h1),Ax (by simp;omega)];simp only [Az];omega
    by_cases h2:z>x
    ·rw [Ax (by simpa using h1),Au (by simpa using h2)];simp only [Az];omega
    rw [Ax (by simpa using h1),Ax (by simpa using h2)];omega
  exact e l
 unfold r9;simp only [Ah];split<;>simp only [An,Bm]<;>omega
noncomputable def bF (s:Store) (n:Nat):List Int:=((s.Vols.take n).map λv=>(IV s.Arena v.Root).getD []).flatten
theorem nU (s:Store) (n:Nat) (h:n<s.Vols.length):bF s (n+1)=bF s n++(IV s.Arena s.Vols[n].Root).getD []:=by
 unfold bF;rw [Ap h,Cl,List.flatten_append];simp
def jC (s:Store) (n:Nat) (l:List Int):Prop:=asc l/\∀x,x∈l↔x∈bF s n/\0<x
theorem eC (s:Store) (hv:s.Vols.length<=1048576) (ha:jY s.Arena):∃l,Lf s=some l/\jC s s.Vols.length l/\l.length<=16777216:=by
 unfold Lf;obtain⟨l,h1,h2,h3⟩:=Bf (body:=λq:List Int×Int=>Le s q.1 q.2) (λ(o:List Int) i=>(o,i)) s.Vols.length (λi o=>jC s i o/\o.length<=16*i) (λo=>jC s s.Vols.length o/\o.length<=16777216)
  (λo i hi ho=>by
   have hg:s.Vols[i]?=some s.Vols[i]:=Ab hi;obtain⟨⟨d,e⟩,g⟩:=ho;obtain⟨a,a1,_,a2⟩:=gR s.Arena ha s.Vols[i].Root;refine .inl ?_;simp only [Le,AG,Ad hi,Af,AB,hg,Aa,a1];obtain⟨u,q1,⟨q2,q3⟩,q4⟩:=Bf (body:=λq:List Int×Int=>Ld a q.1 q.2) (λ(u:List Int) k=>(u,k)) a.length (λk u=>(asc u/\∀x,x∈u↔(x∈bF s i++a.take k)/\0<x)/\u.length<=o.length+k) (λu=>(asc u/\∀x,x∈u↔(x∈bF s i++a)/\0<x)/\u.length<=o.length+a.length)
    (λu k hk hu=>by
     have f:a[k]?=some a[k]:=Ab hk;obtain⟨⟨b,c⟩,j⟩:=hu;refine .inl ?_;simp only [Ld,AG,Ad hk,Af,AB,f,Aa];rw [zE u a[k] (by omega),ad1 (by omega)];refine⟨_,rfl,⟨mO b,λx=>?_⟩,by have:=WZ u a[k] b;omega⟩;rw [mN (λz hz=>((c z).1 hz).2),c,Ap hk];simp only [Ai,Ay];constructor
     ·rintro(⟨h,h0⟩|⟨rfl,h0⟩)
      ·exact⟨h.imp id .inl,h0⟩
      exact⟨.inr (.inr rfl),h0⟩
     rintro⟨h|h|h,h0⟩
     ·exact .inl ⟨.inl h,h0⟩
     ·exact .inl ⟨.inr h,h0⟩
     exact .inr ⟨h,by omega⟩)
    (λu hu=>⟨u,by simp only [Ld,AG,Aq,Aw,Ac],by rw [AL]at hu;exact hu⟩) (s:=o) ⟨⟨d,λx=>by rw [e];simp⟩,by omega⟩
   rw [q1];simp only [Aa];rw [ad1 (by omega)];refine⟨u,rfl,⟨q2,λx=>?_⟩,by omega⟩
   rw [q3,nU s i hi,a1,Bw])
  (λo ho=>⟨o,by simp only [Le,AG,Aq,Aw,Ac],ho.1,by omega⟩) (s:=[]) ⟨⟨List.Pairwise.nil,λx=>by simp [bF]⟩,by simp⟩
 rw [h1];exact⟨l,rfl,h2,h3⟩
def uniq (l:List Int) (n:Nat):List Int:=((List.range n).filter λi=>i==0||l[i-1]?.getD 0 !=l[i]?.getD 0).map λi=>l[i]?.getD 0
theorem vZ (x a b:Int):Jc x a b=some (decide (a<=x/\x<=b)):=by
 unfold Jc;by_cases h:x>=a
 ·rw [Ad h,Af];congr 1;rw [Ee];simp;omega
 rw [Ae h,Ac,Ae (by omega)]
theorem T1 (b:Bool) (x y:α):(bif b then some x else some y)=some (bif b then x else y):=by cases b<;>rfl
def cn (n:Nat) (p:Nat->Bool):Nat:=((List.range n).filter p).length
theorem mW (n:Nat) (p:Nat->Bool):cn (n+1) p=cn n p+(bif p n then 1 else 0):=by
 unfold cn;rw [Ed,AQ,Ah]
 cases h:p n with
 |true=>rw [BM (by simpa using h)];simp
 |false=>rw [BN (by simp [h])];simp
theorem sT (n:Nat) (p:Nat->Bool):cn n p<=n:=by
 have:=CF p (List.range n);rw [Ch]at this;exact this
theorem Z6 {body:Int×Int->Option ((Int×Int)⊕Int)} (n:Nat) (p:Nat->Bool) (n0:Int) (h0:0<=n0) (hM:(n:Int)+n0<=1152921504606846976) (hb:∀(m:Int) (i:Nat),i<n->body (m,(i:Int))=(bif p i then some (.inl (ad m 1,ad (i:Int) 1))else some (.inl (m,ad (i:Int) 1)))) (he:∀m,body (m,(n:Int))=some (.inr m)):Av body (n0,0)=some (n0+(cn n p:Int)):=by
 obtain⟨b,h1,rfl⟩:=Bf (body:=body) (λ(m:Int) i=>(m,i)) n (λi m=>m=n0+(cn i p:Int)) (λm=>m=n0+(cn n p:Int))
  (λm i hi hm=>by
   have hc:=sT i p;refine .inl ?_;rw [hb m i hi]
   cases hp:p i with
   |true=>
    simp only [Af];rw [Cx (by omega) (by omega),ad1 (by omega)];refine⟨_,rfl,?_⟩;rw [mW,hp,hm];simp;omega
   |false=>
    simp only [Ac];rw [ad1 (by omega)];refine⟨_,rfl,?_⟩;rw [mW,hp,hm]
    simp)
  (λm hm=>⟨m,he m,hm⟩) (s:=n0) (by simp [cn])
 exact h1
theorem Zu {γ:Type} {body:List γ×Int->Option ((List γ×Int)⊕List γ)} (by_:Nat) (n:Nat) (p:Nat->Bool) (g:Nat->γ) (hM:n*by_<=140737488355328) (hn:n<=1152921504606846976) (hb:∀(u:List γ) (i:Nat),i<n->body (u,(i:Int))=(bif p i then((ap by_ u [g i]).bind λc=>some (.inl (c,ad (i:Int) 1)))else some (.inl (u,ad (i:Int) 1)))) (he:∀u,body (u,(n:Int))=some (.inr u)):Av body ([],0)=some (((List.range n).filter p).map g):=by
 obtain⟨b,h1,rfl⟩:=Bf (body:=body) (λ(u:List γ) i=>(u,i)) n (λi u=>u=((List.range i).filter p).map g) (λu=>u=((List.range n).filter p).map g)
  (λu i hi hu=>by
   have a:u.length<=i:=by
    rw [hu,Be];exact sT i p
   refine .inl ?_;rw [hb u i hi]
   cases hp:p i with
   |true=>
    simp only [Af];have:(u.length+ [g i].length)*by_<=n*by_:=BC _ (by simp only [An];omega);rw [Cq (by omega),ad1 (by omega)];refine⟨_,rfl,?_⟩;rw [Ed,AQ,BM (by simpa using hp),FW,Cl,hu];rfl
   |false=>
    simp only [Ac];rw [ad1 (by omega)];refine⟨_,rfl,?_⟩
    rw [Ed,AQ,BN (by simp [hp]),FW,A0,hu])
  (λu hu=>⟨u,he u,hu⟩) (s:=[]) (by simp)
 exact h1
def dI (c:Int) (r:List A4):Nat->Option Nat
 |0=>none
 |n+1=>bif JS c (r[n]?.getD cF)then some n else dI c r n
theorem Wi (c:Int) (r:List A4):∀n,n<=r.length->Pw c r n (dI c r n)
 |0,_=>λk y hk=>by omega
 |n+1,hn=>by
  have hg:r[n]?=some r[n]:=Ab (by omega);have ih:=Wi c r n (by omega);unfold dI;rw [hg,Bw]
  cases hi:JS c r[n]with
  |true=>exact⟨by omega,⟨_,hg,hi⟩,λk y h1 h2=>by omega⟩
  |false=>
   simp only [Ac]
   cases ht:dI c r n with
   |none=>
    rw [ht]at ih;intro k y hk hy;by_cases e:k=n
    ·subst e;rw [hg]at hy;injection hy with hy;rw [<-hy];exact hi
    exact ih k y (by omega) hy
   |some j=>
    rw [ht]at ih;obtain⟨h1,h2,h3⟩:=ih;refine⟨by omega,h2,λk y hj hk hy=>?_⟩;by_cases e:k=n
    ·subst e;rw [hg]at hy;injection hy with hy;rw [<-hy];exact hi
    exact h3 k y hj (by omega) hy
def Fs (a:Int) (y:A4):Bool:=y.Page.Kind==2&&decide (y.Page.Tx>=a)
def mH (r:List A4) (a:List Bool) (c:Int):List Bool:=match dI c r r.length with
 |some i=>a.set i true
 |none=>a
theorem Ze (r:List A4) (d:List Int) (hr:r.length<=1048576) (hc:d[k]?=some c) (b:List Bool) (ho:b.length=r.length):∀n,n<=r.length->
  Av (λs:List Bool×Int=>EW r d (k:Int) s.1 s.2) (b,(n:Int)-1)=some (match dI c r n with|some i=>b.set i true|none=>b)
 |0,_=>by
  rw [AA];simp only [EW];rw [Ae (by omega),Ac];rfl
 |n+1,hn=>by
  have hg:r[n]?=some r[n]:=Ab (by omega);have f:b[n]?=some b[n]:=Ab (by omega);have e:((n+1:Nat):Int)-1=(n:Int):=by omega
  have ht:dI c r (n+1)=bif JS c r[n]then some n else dI c r n:=by
   rw [dI,hg,Bw]
  have hj:(bif r[n].Page.Kind==1 then some (r[n].Page.Tx==c)else some false)=some (JS c r[n]):=by
   unfold JS;cases r[n].Page.Kind==1<;>rfl
  have hb:EW r d (k:Int) b (n:Int)=some (bif JS c r[n]then .inl (b.set n true,-2)else .inl (b,(n:Int)-1)):=by
   simp only [EW];rw [Ad (by omega),Af];simp only [AB,hg,f,hc,Aa];rw [hj,Aa,C5 (by omega) (by omega),C5 (a:=(n:Int)) (by omega) (by omega)];cases JS c r[n]<;>simp only [Af,Ac,Ey]<;>rfl
  rw [e,AA];simp only [hb,ht]
  cases JS c r[n]with
  |true=>
   simp only [Af];rw [AA];simp only [EW];rw [Ae (by omega),Ac]
  |false=>exact Ze r d hr hc b ho n (by omega)
theorem mG (r:List A4) (a:List Bool) (c:Int):(mH r a c).length=a.length:=by
 unfold mH;split<;>simp
theorem vM (r:List A4) (a:List Bool) (c:Int) (j:Nat):(mH r a c)[j]?=a[j]?.map (λb=>b||(dI c r r.length==some j)):=by
 unfold mH
 cases dI c r r.length with
 |none=>
  show a[j]?=a[j]?.map (λb=>b||((none:Option Nat)==some j));have e:(λb:Bool=>b||((none:Option Nat)==some j))=id:=by
   funext b;cases b<;>rfl
  rw [e,Option.map_id];rfl
 |some i=>
  simp only [Ci];by_cases e:i=j
  ·subst e;simp only [BX];by_cases hi:i<a.length
   ·rw [Au hi,Ab hi];simp
   rw [Ax hi,D3 (by omega)];rfl
  rw [Ax e];have:(some i==some j)=false:=by simpa using e
  rw [this];have e2:(λb:Bool=>b||false)=id:=by
   funext b;cases b<;>rfl
  rw [e2,Option.map_id];rfl
theorem eY (r:List A4) (j:Nat):∀(a:List Int) (d:List Bool),(a.foldl (mH r) d)[j]?=d[j]?.map (λb=>b||a.any (λc=>dI c r r.length==some j))
 |[],d=>by simp
 |c::a,d=>by
  simp only [LD,List.any_cons];rw [eY r j a,vM];cases d[j]? <;>simp [Bool.or_assoc]
theorem fM (r:List A4):∀(a:List Int) (b:List Bool),(a.foldl (mH r) b).length=b.length
 |[],b=>rfl
 |c::a,b=>by simp only [LD];rw [fM r a,mG]
theorem VH (r:List A4) (d:List Int) (a:Int) (hr:r.length<=1048576) (hl:d.length<=16777216):HN r d a=some (d.foldl (mH r) (r.map (Fs a))):=by
 unfold HN;have g:mk 1 false (ln r)=some (List.replicate r.length false):=by
  unfold mk;rw [BW,Au ⟨by omega,by omega,by omega⟩,Ba]
 rw [g,Aa];obtain⟨u,h1,rfl⟩:=Bf (body:=λs:List Bool×Int=>HM r a s.1 s.2) (λ(u:List Bool) i=>(u,i)) r.length (λi u=>u=(r.take i).map (Fs a)++List.replicate (r.length-i) false) (λu=>u=r.map (Fs a))
  (λu i hi hu=>by
   have hg:r[i]?=some r[i]:=Ab hi;have e:r.length-i=(r.length-(i+1))+1:=by omega
   have f:((r.take i).map (Fs a)).length=i:=by rw [Be,AE];omega
   rw [e,Gf]at hu;have et:(r.take (i+1)).map (Fs a)=(r.take i).map (Fs a)++ [Fs a r[i]]:=by rw [Ap hi,Cl];rfl
   have h:gi u (i:Int)=some false:=by rw [hu];have:=wC ((r.take i).map (Fs a)) false (List.replicate (r.length-(i+1)) false);rw [f]at this;exact this
   have j:∀b,si u (i:Int) b=(r.take i).map (Fs a)++b::List.replicate (r.length-(i+1)) false:=λb=>by rw [hu];have:=uP ((r.take i).map (Fs a)) false b (List.replicate (r.length-(i+1)) false);rw [f]at this;exact this
   refine .inl ⟨(r.take (i+1)).map (Fs a)++List.replicate (r.length-(i+1)) false,?_,rfl⟩;simp only [HM,AG,Ad hi,Af];rw [AB,hg,Aa,h];simp only [Aa,j];rw [ad1 (by omega),et]
   cases hk:r[i].Page.Kind==2 with
   |true=>simp [Fs,hk]
   |false=>simp [Fs,hk])
  (λu hu=>⟨u,by simp only [HM,AG,Aq,Aw,Ac],by rw [hu];simp⟩) (s:=List.replicate r.length false) (by simp)
 rw [h1,Aa];have h2:=OJ (body:=λs:List Bool×Int=>HL r d s.1 s.2) (λ(u:List Bool) i=>(u,i)) d (λu _ c=>(.inl (mH r u c):List Bool⊕List Bool)) (λu=>u) (λ_ u=>u.length=r.length)
  (λu i c hc hu=>by
   have hi:=(Ag.1 hc).1;refine⟨?_,λu' hu'=>by injection hu' with hu';rw [<-hu',mG,hu]⟩;simp only [HL,AG,Ad hi,Af];rw [show ln r=(r.length:Int)from rfl,C5 (by omega) (by omega),Ze r d hr hc u hu r.length (A3 _),Aa,ad1 (by omega)]
   rfl)
  (λu hu=>by simp only [HL,AG,Aq,Aw,Ac]) (s:=r.map (Fs a)) (by simp)
 rw [h2,Aa];have:∀(l:List Int) (i:Nat) (u:List Bool),NR (λu _ c=>(.inl (mH r u c):List Bool⊕List Bool)) (λu=>u) l i u=l.foldl (mH r) u:=by
  intro l
  induction l with
  |nil=>intro i u;rfl
  |cons c l ih=>intro i u;simp only [NR,LD];exact ih _ _
 rw [this]
def bk (r:List A4) (b:Int) (j:Nat):Bool:=(r[j]?.getD cF).Block==b
theorem qY (r:List A4) (nd:List Bool) (b:Int) (hr:r.length<=1048576) (hn:nd.length=r.length):QG r nd b=some ((cn r.length (λj=>nd[j]?.getD false&&bk r b j):Nat):Int):=by
 unfold QG
 rw [Z6 (body:=λs:Int×Int=>Mo r nd b s.1 s.2) r.length (λj=>nd[j]?.getD false&&bk r b j) 0 (by omega) (by omega)
  (λm i hi=>by
   have hg:r[i]?=some r[i]:=Ab hi;have a:nd[i]?=some nd[i]:=Ab (by omega);simp only [Mo,AG,Ad hi,Af,AB,hg,a,Aa,Bw,bk]
   cases nd[i]<;>simp)
  (λm=>by simp only [Mo,AG,Aq,Aw,Ac])]
 simp
theorem tA (x:Block) (hl:x.Leaves.length<=1048576):∃n:Int,NM x=some n/\Oo x=some (!decide (n<ln x.Leaves)):=by
 have a:∀l:List Leaf,(cn l.length (λj=>(l[j]?.getD (Leaf.mk 1 (bs []))).Is==0)=l.length↔l.zipIdx.all (λz=>z.1.Is==0)=true):=by
  intro l;rw [GH];constructor
  ·intro h z hz;obtain⟨x,i⟩:=z;have b:=List.mem_zipIdx hz;simp only at b⊢;obtain⟨_,h2,h3⟩:=b;unfold cn at h;have h4:((List.range l.length).filter λj=>(l[j]?.getD (Leaf.mk 1 (bs []))).Is==0).length=(List.range l.length).length:=by rw [h,Ch]
   have h5:=List.length_filter_eq_length_iff.1 h4 i (I9.2 (by omega));rw [Ab (by omega),Bw]at h5;rw [h3];simpa using h5
  intro h;unfold cn;have:((List.range l.length).filter λj=>(l[j]?.getD (Leaf.mk 1 (bs []))).Is==0).length=(List.range l.length).length:=by
   refine List.length_filter_eq_length_iff.2 λi hi=>?_
   have hi:=I9.1 hi;rw [Ab hi,Bw];exact h (l[i],i) (List.mem_zipIdx_iff_getElem?.2 (Ab hi))
  rw [this,Ch]
 refine⟨(cn x.Leaves.length (λj=>(x.Leaves[j]?.getD (Leaf.mk 1 (bs []))).Is==0):Nat),?_,?_⟩
 ·unfold NM
  rw [Z6 (body:=λq:Int×Int=>Ie x q.1 q.2) x.Leaves.length (λj=>(x.Leaves[j]?.getD (Leaf.mk 1 (bs []))).Is==0) 0 (by omega) (by omega)
   (λm i hi=>by
    have hg:x.Leaves[i]?=some x.Leaves[i]:=Ab hi
    simp only [Ie,AG,Ad hi,Af,AB,hg,Aa,Bw])
   (λm=>by simp only [Ie,AG,Aq,Aw,Ac])]
  simp
 unfold Oo
 rw [WW (body:=λs:Int=>IF x s) x.Leaves (λ_ y=>y.Is==0) (.inr false) (.inl ()) (by omega)
  (λi y hy=>by
   have hi:=(Ag.1 hy).1;simp only [IF,AG,Ad hi,Af,AB,hy,Aa];rw [ad1 (by omega)]
   cases hk:y.Is==0 with
   |true=>simp [bne,hk]
   |false=>simp [bne,hk])
  (by simp only [IF,AG,Aq,Aw,Ac])]
 have c:=sT x.Leaves.length (λj=>(x.Leaves[j]?.getD (Leaf.mk 1 (bs []))).Is==0)
 cases hb:x.Leaves.zipIdx.all (λz=>z.1.Is==0)with
 |true=>
  have:=(a x.Leaves).2 hb;rw [this,BW];simp
 |false=>
  have:¬cn x.Leaves.length (λj=>(x.Leaves[j]?.getD (Leaf.mk 1 (bs []))).Is==0)=x.Leaves.length:=λe=>by rw [(a x.Leaves).1 e]at hb;cases hb
  rw [BW,Ad (by omega)];rfl
theorem cJ:Qo=Hn:=rfl
def Pk:List Leaf:=List.replicate 4 (Leaf.mk 0 (bs []))
theorem Zf:mk 24 (Leaf.mk 0 (bs [])) 4=some Pk:=TW (n:=4) (by omega) (by omega)
theorem FR (f:Flash) (h:cK f):Hn f=some f:=by
 unfold Hn;have:=Tb (body:=λs:Int×List Block=>JE f s.1 s.2) f.Blocks (λx=>x)
  (λi x a hx ho=>by
   have b:=(Ag.1 hx).1;have h1:=h.1;have h2:=h.2 x (A6 hx);unfold JE;simp only [AG,Ad b,Af,AB,hx,Aa]
   rw [Cq (by simp only [Bm];omega),Aa,Cq (by simp only [An];omega),Aa,ad1 (by omega),A5])
  (λa=>by
   unfold JE
   simp only [AG,Aq,Aw,Ac])
 rw [this,Aa,List.map_id']
def wV (f:Flash):Prop:=f.Blocks.length<=1048576/\∀b∈f.Blocks,b.Leaves.length=4
theorem wV.cap (h:wV f):cK f:=⟨h.1,λb hb=>by rw [h.2 b hb];omega⟩
theorem Wq (n:Int):(L (HC [n])).length=1:=by rw [Jg];rfl
theorem gF (r:Dk):∃v,MT r=some v/\QZ r=some v/\(v=true->(0<=r.Arg/\r.Arg<=1000000000)/\(0<=r.Chunk/\r.Chunk<=1000000000)):=by
 cases r with
 |mk kind vol arg chunk=>
 unfold MT QZ;simp only [mP,vZ,Aa,T1];refine⟨_,rfl,?_,?_⟩
 ·congr 1;rw [Ee];by_cases h1:kind=1
  ·subst h1;by_cases ha:0<=arg/\arg<=1000000000<;>by_cases hv:vol=0<;>by_cases hc:chunk=0<;>simp [ha,hv,hc]
  have e1:(kind==1)=false:=by simpa using h1
  simp only [e1,Ac];by_cases ha:0<=arg/\arg<=1000000000
  ·by_cases hk:kind=2\/kind=3\/kind=4\/kind=5
   ·rcases hk with rfl|rfl|rfl|rfl<;>by_cases hv:1<=vol/\vol<=9<;>by_cases hc:chunk=0<;>simp [ha,hv,hc,bne]<;>omega
   have e2:¬(2<=kind/\kind<=5):=by omega
   have k2:(kind==2)=false:=by simp;omega
   have k3:(kind==3)=false:=by simp;omega
   have k4:(kind==4)=false:=by simp;omega
   have k5:(kind==5)=false:=by simp;omega
   by_cases hv:1<=vol/\vol<=9<;>by_cases hc:chunk=0<;>simp [ha,hv,hc,e2,k2,k3,k4,k5,bne]
  have e3:decide (0<=arg/\arg<=1000000000)=false:=Ae ha;rw [e3];by_cases hk:kind=2\/kind=3\/kind=4\/kind=5
  ·rcases hk with rfl|rfl|rfl|rfl<;>by_cases hv:1<=vol/\vol<=9<;>by_cases hc:chunk=0<;>simp [hv,hc,bne]<;>omega
  have k2:(kind==2)=false:=by simp;omega
  have k3:(kind==3)=false:=by simp;omega
  have k4:(kind==4)=false:=by simp;omega
  have k5:(kind==5)=false:=by simp;omega
  by_cases hv:1<=vol/\vol<=9<;>by_cases hc:chunk=0<;>simp [hv,hc,k2,k3,k4,k5,bne]
 by_cases ha:0<=arg/\arg<=1000000000
 ·refine λh=>⟨ha,?_⟩
  by_cases hc:chunk=0
  ·omega
  have ec:(chunk==0)=false:=by simpa using hc
  by_cases h1:kind=1
  ·subst h1;by_cases hv:vol=0<;>simp [ha,hv,ec]at h
  have e1:(kind==1)=false:=by simpa using h1
  by_cases h4:kind=4
  ·subst h4;by_cases hv:1<=vol/\vol<=9<;>simp [ha,hv,bne]at h;omega
  have e4:(kind==4)=false:=by simpa using h4
  by_cases hk:2<=kind/\kind<=5<;>by_cases hv:1<=vol/\vol<=9<;>simp [ha,hv,hk,e1,e4,ec,bne]at h
 intro h;rw [Ae ha]at h;simp at h
def nb (l:List Leaf):Nat:=(l.map OL).sum
theorem mF (l:List Leaf) (i:Nat) (h:i<l.length):nb (l.take (i+1))=nb (l.take i)+OL l[i]:=by
 unfold nb;rw [Ap h,Cl,VX];simp
theorem xI (l:List Leaf) (i:Nat) (h:i<=l.length):nb (l.take i)<=i:=by
 have:=tC (l.take i);rw [AE]at this;unfold nb;omega
theorem VJ (x:Leaf):OL x=if(x.Is==0)=true then 1 else 0:=by
 unfold OL;cases x.Is==0<;>rfl
theorem iU {x:Block} (f:Flash) (i:Nat) (hx:f.Blocks[i]?=some x) (hl:x.Leaves.length<=1048576):Av (λs:Int×Int×Int=>Gy f (i:Int) s.1 s.2.1 s.2.2) (0,0,0)=some ((nb x.Leaves:Int),((x.Leaves.length-nb x.Leaves:Nat):Int)):=by
 obtain⟨b,h1,rfl⟩:=Bf (body:=λs:Int×Int×Int=>Gy f (i:Int) s.1 s.2.1 s.2.2) (λ(s:Int×Int) k=>(s.1,s.2,k)) x.Leaves.length (λk s=>s=((nb (x.Leaves.take k):Int),((k-nb (x.Leaves.take k):Nat):Int))) (λs=>s=((nb x.Leaves:Int),((x.Leaves.length-nb x.Leaves:Nat):Int)))
  (λs k hk hs=>by
   subst hs;have hg:x.Leaves[k]?=some x.Leaves[k]:=Ab hk;have c:=xI x.Leaves k (by omega);have a:=mF x.Leaves k hk;rw [VJ]at a;refine .inl ?_;simp only [Gy,AB,hx,Aa,AG,Ad hk,Af,hg]
   cases hb:x.Leaves[k].Is==0 with
   |true=>
    rw [hb]at a;simp only [Af];rw [Cx (by omega) (by omega),ad1 (by omega)];refine⟨(((nb (x.Leaves.take k):Nat):Int)+1,((k-nb (x.Leaves.take k):Nat):Int)),rfl,?_⟩;simp only [BX]at a;rw [a];congr 1;congr 1;omega
   |false=>
    rw [hb]at a;simp only [Ac];rw [Cx (by omega) (by omega),ad1 (by omega)];refine⟨(((nb (x.Leaves.take k):Nat):Int),((k-nb (x.Leaves.take k):Nat):Int)+1),rfl,?_⟩;simp only [BP,Ga]at a;rw [a];congr 1
    omega)
  (λs hs=>⟨_,by simp only [Gy,AB,hx,Aa,AG,Aq,Aw,Ac];rfl,by rw [hs,AL]⟩) (s:=(0,0)) (by simp [nb])
 exact h1
def Nw (f:Flash) (i:Nat):Bool:=match f.Blocks[i]? with
 |some x=>!x.Bad&&decide (nb x.Leaves=x.Leaves.length)
 |none=>false
theorem sK {x:Block} (f:Flash) (i:Nat) (hx:f.Blocks[i]?=some x) (hl:x.Leaves.length<=1048576):Av (λs:Bool×Int=>Fz f (i:Int) s.1 s.2) (!x.Bad,0)=some (Nw f i):=by
 obtain⟨b,h1,rfl⟩:=Bf (body:=λs:Bool×Int=>Fz f (i:Int) s.1 s.2) (λ(s:Bool) k=>(s,k)) x.Leaves.length (λk s=>s=(!x.Bad&&decide (nb (x.Leaves.take k)=k))) (λs=>s=Nw f i)
  (λs k hk hs=>by
   have hg:x.Leaves[k]?=some x.Leaves[k]:=Ab hk;have c:=xI x.Leaves k (by omega);have a:=mF x.Leaves k hk;rw [VJ]at a;refine .inl ?_;simp only [Fz,AB,hx,Aa,AG,Ad hk,Af,hg];rw [ad1 (by omega)]
   cases s with
   |true=>
    simp only [Af];refine⟨_,rfl,?_⟩;have hs':=hs.symm;simp only [Al,A7]at hs';rw [hs'.1,CJ,a,hs'.2];cases hb:x.Leaves[k].Is==0<;>simp
   |false=>
    simp only [Ac];refine⟨_,rfl,?_⟩;have hs':=hs.symm;rw [Ea]at hs';symm;rw [Ea]
    rcases hs' with q|q
    ·exact .inl q
    refine .inr (Ae ?_);have:=of_decide_eq_false q
    split at a<;>omega)
  (λs hs=>⟨_,by simp only [Fz,AB,hx,Aa,AG,Aq,Aw,Ac];rfl,by rw [hs,AL];simp only [Nw,hx]⟩) (s:=!x.Bad) (by simp [nb])
 exact h1
def UR (f:Flash):List Int:=((List.range f.Blocks.length).filter (Nw f)).map (λ(i:Nat)=>(i:Int))
theorem Yv (f:Flash) (h:cK f):LL f=some (UR f)/\To f=some (UR f):=by
 obtain⟨c,a⟩:=h;constructor
 ·unfold LL
  rw [Zu (body:=λs:List Int×Int=>Hh f s.1 s.2) 8 f.Blocks.length (Nw f) (λ(i:Nat)=>(i:Int)) (by omega) (by omega)
   (λu i hi=>by
    have hg:f.Blocks[i]?=some f.Blocks[i]:=Ab hi;simp only [Hh,AG,Ad hi,Af,AB,hg,Aa];rw [sK f i hg (a _ (AC hi))]
    simp only [Aa])
   (λu=>by simp only [Hh,AG,Aq,Aw,Ac])]
  rfl
 unfold To
 rw [Zu (body:=λs:List Int×Int=>IW f s.1 s.2) 8 f.Blocks.length (Nw f) (λ(i:Nat)=>(i:Int)) (by omega) (by omega)
  (λu i hi=>by
   have hg:f.Blocks[i]?=some f.Blocks[i]:=Ab hi;have b:=ZB f.Blocks[i] (a _ (AC hi));have e:((f.Blocks[i].Leaves.map OL).sum:Int)=((nb f.Blocks[i].Leaves:Nat):Int):=rfl;rw [e]at b;have ed:(((nb f.Blocks[i].Leaves:Nat):Int)==ln f.Blocks[i].Leaves)=decide (nb f.Blocks[i].Leaves=f.Blocks[i].Leaves.length):=by
    rw [BW,Ee,A7,Dn];omega
   simp only [IW,AG,Ad hi,Af,AB,hg,Aa,b,ed,Nw]
   cases f.Blocks[i].Bad<;>simp)
  (λu=>by simp only [IW,AG,Aq,Aw,Ac])]
 rfl
noncomputable def YS (t:ByteArray):Option Page:=match EX t with
 |some (p,true)=>some p
 |_=>none
noncomputable def pg (i k:Int) (x:Leaf):List A4:=if x.Is=1 then(match YS x.Text with
 |some p=>[A4.mk i k p]
 |none=>[])else []
noncomputable def UL (i:Int):Int->List Leaf->List A4
 |_,[]=>[]
 |k,x::l=>pg i k x++UL i (k+1) l
noncomputable def JQ:Int->List Block->List A4
 |_,[]=>[]
 |i,b::l=>UL i 0 b.Leaves++JQ (i+1) l
theorem VD (i:Int):∀(k:Int) (l m:List Leaf),UL i k (l++m)=UL i k l++UL i (k+l.length) m
 |k,[],m=>by simp [UL]
 |k,x::l,m=>by
  rw [BF,UL,VD i (k+1) l m,UL,Ao,Az];congr 3;omega
theorem QQ:∀(i:Int) (l m:List Block),JQ i (l++m)=JQ i l++JQ (i+l.length) m
 |i,[],m=>by simp [JQ]
 |i,x::l,m=>by
  rw [BF,JQ,QQ (i+1) l m,JQ,Ao,Az];congr 3;omega
theorem yU {i k:Int} (h:y∈pg i k x):y.Block=i/\y.Leaf=k/\x.Is=1/\YS x.Text=some y.Page:=by
 unfold pg at h;split at h
 ·split at h
  ·rename_i h1 _ p h2;rw [Ay]at h;subst h;exact⟨rfl,rfl,h1,h2⟩
  cases h
 cases h
theorem aX {i:Int}:∀{k:Int} {l:List Leaf} {y:A4},y∈UL i k l->y.Block=i/\k<=y.Leaf/\y.Leaf<k+l.length
 |k,[],y,h=>by cases h
 |k,x::l,y,h=>by
  rw [UL,Ai]at h;rw [Az]
  rcases h with h|h
  ·obtain⟨h1,h2,_⟩:=yU h;exact⟨h1,by omega,by omega⟩
  obtain⟨h1,h2,h3⟩:=aX h;exact⟨h1,by omega,by omega⟩
theorem aY:∀{i:Int} {l:List Block} {y:A4},y∈JQ i l->i<=y.Block/\y.Block<i+l.length
 |i,[],y,h=>by cases h
 |i,x::l,y,h=>by
  rw [JQ,Ai]at h;rw [Az]
  rcases h with h|h
  ·obtain⟨h1,_⟩:=aX h;exact⟨by omega,by omega⟩
  obtain⟨h1,h2⟩:=aY h;exact⟨by omega,by omega⟩
theorem Jb {l:List α} {x:α} (h:l[k]?=some x):l=l.take k++x::l.drop (k+1)/\(l.take k).length=k:=by
 have hk:=(Ag.1 h).1;have h2:=Bj hk;rw [(Ag.1 h).2]at h2;exact⟨by rw [<-h2,Bz],by rw [AE];omega⟩
theorem WX {l:List α} {x y:α} (h:l[k]?=some x):l.set k y=l.take k++y::l.drop (k+1):=by
 have hk:=(Ag.1 h).1;exact List.set_eq_take_append_cons_drop.trans (Au hk)
theorem iS {l:List Block} (hb:l[i]?=some b) (hx:b.Leaves[k]?=some x):∃A B,JQ 0 l=A++pg i k x++B/\∀bd w y,JQ 0 (l.set i (Block.mk bd w (b.Leaves.set k y)))=A++pg i k y++B:=by
 obtain⟨h1,h2⟩:=Jb hb;obtain⟨h3,h4⟩:=Jb hx;refine⟨JQ 0 (l.take i)++UL i 0 (b.Leaves.take k),UL i ((k:Int)+1) (b.Leaves.drop (k+1))++JQ ((i:Int)+1) (l.drop (i+1)),?_,λbd w y=>?_⟩
 ·conv=>lhs;rw [h1]
  rw [QQ,h2,JQ,Vx]
  conv=>lhs;rw [h3]
  rw [VD,h4,UL,Vx];simp only [Ao]
 rw [WX hb,QQ,h2,JQ,Vx,WX hx,VD,h4,UL,Vx];simp only [Ao]
theorem eO {l:List Block} {b':Block} (hb:l[i]?=some b) (h0:UL i 0 b'.Leaves=[]):JQ 0 (l.set i b')=(JQ 0 l).filter λy=>y.Block !=(i:Int):=by
 obtain⟨h1,h2⟩:=Jb hb;rw [WX hb]
 conv=>rhs;rw [h1]
 rw [QQ,QQ,h2,JQ,JQ,Vx,h0,AQ,AQ];have e1:(JQ 0 (l.take i)).filter (λy=>y.Block !=(i:Int))=JQ 0 (l.take i):=by
  rw [EC];intro y hy;have:=(aY hy).2;rw [h2]at this;simp;omega
 have e2:(UL i 0 b.Leaves).filter (λy=>y.Block !=(i:Int))=[]:=by
  rw [B7];intro y hy;have:=(aX hy).1;simp [this]
 have e3:(JQ ((i:Int)+1) (l.drop (i+1))).filter (λy=>y.Block !=(i:Int))=JQ ((i:Int)+1) (l.drop (i+1)):=by
  rw [EC];intro y hy;have:=(aY hy).1;simp;omega
 rw [e1,e2,e3]
def xK (x:Leaf):Prop:=(x.Is=0/\L x.Text=[])\/(x.Is=1/\1<=(L x.Text).length/\(L x.Text).length<=120)\/(x.Is=2/\(L x.Text).length<=120)
def Y3 (l:List Leaf):Prop:=∀(k:Nat) x y,l[k]?=some x->l[k+1]?=some y->x.Is=0->y.Is=0
structure JY (b:Block):Prop where
 four:b.Leaves.length=4
 wear:0<=b.Wear/\b.Wear<=1000000000
 leaf:∀x∈b.Leaves,xK x
 turn:Y3 b.Leaves
structure BL (f:Flash):Prop where
 n:3<=f.Blocks.length/\f.Blocks.length<=10
 blk:∀b∈f.Blocks,JY b
theorem rQ (x:Leaf):∃v,QH x=some v/\(v=true↔xK x):=by
 unfold QH xK;by_cases h0:x.Is=0
 ·rw [show(x.Is==0)=true by simpa using h0];refine⟨_,rfl,?_⟩;rw [ID,A7];constructor
  ·intro h;exact .inl ⟨h0,by rw [h];rfl⟩
  rintro(h|h|h)
  ·exact Ij (by rw [h.2];rfl)
  ·omega
  omega
 rw [show(x.Is==0)=false by simpa using h0];simp only [Ac];by_cases h1:x.Is=1
 ·rw [show(x.Is==1)=true by simpa using h1,Ez,BJ];refine⟨_,rfl,?_⟩;rw [A7];omega
 rw [show(x.Is==1)=false by simpa using h1];simp only [Ac];by_cases h2:x.Is=2
 ·rw [show(x.Is==2)=true by simpa using h2,BJ];refine⟨_,rfl,?_⟩;rw [A7];omega
 rw [show(x.Is==2)=false by simpa using h2];exact⟨_,rfl,by simp only [BP,Rg];omega⟩
theorem gN (f:Flash) (h:cK f):∃v,Hr f=some v/\(v=true↔BL f):=by
 unfold Hr;obtain⟨r,h1,h2⟩:=Bf (body:=λs:Int=>FM f s) (λ(_:Unit) i=>i) f.Blocks.length (λi _=>∀j b,j<i->f.Blocks[j]?=some b->JY b) (λr=>(r= .inr false/\¬∀b∈f.Blocks,JY b)\/r= .inl ()/\∀b∈f.Blocks,JY b)
  (λ_ i hi hs=>by
   have hx:=Ab hi;have hm:f.Blocks[i]∈f.Blocks:=AC hi;have m:=h.2 _ hm;have o:=h.1;simp only [FM,AG,Ad hi,Af,AB,hx,Aa];by_cases h4:f.Blocks[i].Leaves.length=4
   ·rw [show(ln f.Blocks[i].Leaves !=4)=false by simp [ln,h4]];simp only [Ac];rw [Ez];simp only [Aa];by_cases hw:0<=f.Blocks[i].Wear/\f.Blocks[i].Wear<=1000000000
    ·rw [Ad hw];simp only [Ak,Ac];obtain⟨q,q1,q2⟩:=Bf (body:=λs:Int=>FL f.Blocks[i] s) (λ(_:Unit) i=>i) f.Blocks[i].Leaves.length
      (λk _=>(∀j x,j<k->f.Blocks[i].Leaves[j]?=some x->xK x)/\∀(j:Nat) x y,j+1<k->f.Blocks[i].Leaves[j]?=some x->f.Blocks[i].Leaves[j+1]?=some y->x.Is=0->y.Is=0)
      (λr=>(r= .inr (.inr (.inr false))/\¬((∀x∈f.Blocks[i].Leaves,xK x)/\Y3 f.Blocks[i].Leaves))\/r= .inl ()/\(∀x∈f.Blocks[i].Leaves,xK x)/\Y3 f.Blocks[i].Leaves)
      (λ_ k hk d=>by
       have g:=Ab hk;simp only [FL,AG,Ad hk,Af,AB,g,Aa];obtain⟨v,v1,v2⟩:=rQ f.Blocks[i].Leaves[k];rw [v1];simp only [Aa]
       cases hv:v with
       |false=>
        refine .inr ⟨_,rfl,.inl ⟨rfl,λhh=>?_⟩⟩;have:=v2.2 (hh.1 _ (AC hk));rw [hv]at this;cases this
       |true=>
        have l:=v2.1 hv;simp only [Ak,Ac];by_cases p:k=0
        ·rw [Ae (by omega)];simp only [Ac,Aa];rw [ad1 (by omega)];refine .inl ⟨(),rfl,λj x hj a=>?_,λj x y hj=>by omega⟩;obtain rfl:j=k:=by omega
         rw [g]at a
         injection a with a
         rw [<-a];exact l
        rw [Ad (by omega)];simp only [Af];rw [C5 (by omega) (by omega),show(k:Int)-1=((k-1:Nat):Int) by omega,AB,Ab (by omega)];simp only [Aa];have good:(f.Blocks[i].Leaves[k-1].Is=0->f.Blocks[i].Leaves[k].Is=0)->(∀j x,j<k+1->f.Blocks[i].Leaves[j]?=some x->xK x)/\∀(j:Nat) x y,j+1<k+1->f.Blocks[i].Leaves[j]?=some x->f.Blocks[i].Leaves[j+1]?=some y->x.Is=0->y.Is=0:=by
         intro hg;refine⟨λj x hj a=>?_,λj x y hj a c h0=>?_⟩
         ·by_cases e:j=k
          ·subst e;rw [g]at a
           injection a with a
           rw [<-a];exact l
          exact d.1 j x (by omega) a
         by_cases e:j+1=k
         ·obtain rfl:j=k-1:=by omega
          rw [Ab (by omega)]at a
          injection a with a
          rw [show k-1+1=k by omega,g]at c
          injection c with c
          rw [<-c];exact hg (by rw [a];exact h0)
         exact d.2 j x y (by omega) a c h0
        cases e0:(f.Blocks[i].Leaves[k-1].Is==0)with
        |false=>
         simp only [Ac,Aa];rw [ad1 (by omega)];exact .inl ⟨(),rfl,good (λhh=>by rw [hh]at e0;cases e0)⟩
        |true=>
         simp only [Af,Aa]
         cases e1:(f.Blocks[i].Leaves[k].Is !=0)with
         |false=>
          simp only [Ac];rw [ad1 (by omega)];exact .inl ⟨(),rfl,good (λ_=>by simpa using e1)⟩
         |true=>
          refine .inr ⟨_,rfl,.inl ⟨rfl,λhh=>?_⟩⟩;have:=hh.2 (k-1) _ _ (Ab (by omega)) (by rw [show k-1+1=k by omega];exact g) (by simpa using e0)
          simp [this]at e1)
      (λ_ d=>⟨_,by simp only [FL,AG,Aq,Aw,Ac],.inr ⟨rfl,λx a=>by
       obtain⟨j,hj,rfl⟩:=AF a
       exact d.1 j _ hj (Ab hj),λj x y a c=>d.2 j x y (Ag.1 c).1 a c⟩⟩) (s:=()) ⟨λj x hj=>by omega,λj x y hj=>by omega⟩
     have q1':Av (λs:Int=>FL f.Blocks[i] s) 0=some q:=q1;rw [q1']
     rcases q2 with⟨rfl,q2⟩|⟨rfl,q2,q3⟩
     ·exact .inr ⟨_,rfl,.inl ⟨rfl,λhh=>q2 ⟨(hh _ hm).leaf,(hh _ hm).turn⟩⟩⟩
     simp only [Aa,BA];rw [ad1 (by omega)];refine .inl ⟨(),rfl,λj b hj hb=>?_⟩;by_cases e:j=i
     ·subst e;rw [hx]at hb
      injection hb with hb
      rw [<-hb];exact⟨h4,hw,q2,q3⟩
     exact hs j b (by omega) hb
    rw [Ae hw];exact .inr ⟨_,rfl,.inl ⟨rfl,λhh=>hw (hh _ hm).wear⟩⟩
   rw [show(ln f.Blocks[i].Leaves !=4)=true by simp [ln];omega]
   exact .inr ⟨_,rfl,.inl ⟨rfl,λhh=>h4 (hh _ hm).four⟩⟩)
  (λ_ hs=>⟨_,by simp only [FM,AG,Aq,Aw,Ac],.inr ⟨rfl,λb hb=>by
   obtain⟨j,hj,rfl⟩:=AF hb
   exact hs j _ hj (Ab hj)⟩⟩) (s:=()) (λj b hj=>by omega)
 have h1':Av (λs:Int=>FM f s) 0=some r:=h1;rw [h1']
 rcases h2 with⟨rfl,h2⟩|⟨rfl,h2⟩
 ·exact⟨_,rfl,by simp only [BP,Rg];exact λhh=>h2 hh.blk⟩
 simp only [Aa,BA];rw [Ez,BW];refine⟨_,rfl,?_⟩;rw [A7];constructor
 ·intro hh;exact⟨by omega,h2⟩
 intro hh;have:=hh.n;omega
theorem BL.cap (h:BL f):cK f:=⟨by have:=h.n;omega,λb hb=>by rw [(h.blk b hb).four];omega⟩
theorem BL.text (h:BL f):∀b∈f.Blocks,∀x∈b.Leaves,(L x.Text).length<=120:=λb hb x hx=>by
 rcases(h.blk b hb).leaf x hx with h|h|h
 ·rw [h.2];simp
 ·exact h.2.2
 exact h.2
theorem Oc (h:BL f):Hr f=some true:=by
 obtain⟨v,h1,h2⟩:=gN f h.cap;rw [h1,h2.2 h]
theorem BL.few (h:BL f):nl f.Blocks<=40:=by
 have:∀l:List Block,(∀b∈l,JY b)->nl l=4*l.length:=by
  intro l
  induction l with
  |nil=>intro _;rfl
  |cons b l ih=>
   intro hh;have h1:=ih (λx hx=>hh x (by simp [hx]));have h2:=(hh b (by simp)).four;unfold Go.TI.nl at h1⊢;rw [B8,E7,Az,h1,h2];omega
 rw [this _ h.blk];have:=h.n;omega
def Vm (y:A4):Int:=y.Page.Seq
def SR (l r:List A4):Prop:=srt Vm r/\Cj Vm l r
theorem SR.uniq {r':List A4} (h:SR l r) (h':SR l r'):r=r':=Om Vm h.1 h'.1 (λk=>by rw [h.2 k,<-h'.2 k])
theorem SR.mem (h:SR l r):y∈r↔y∈l:=h.2.mem
theorem SR.filter (h:SR l r) (p:A4->Bool):SR (l.filter p) (r.filter p):=by
 refine⟨h.1.filter _,λk=>?_⟩;have:=h.2 k;rw [Ej,Ej]
 have e:∀m:List A4,m.filter (λx=>(Vm x==k)&&p x)=(m.filter λx=>Vm x==k).filter p:=λm=>by
  rw [Ej];congr 1;funext x;exact Bool.and_comm _ _
 rw [e,e,this]
theorem SR.add {A B r:List A4} (h:SR (A++B) r) (hy:∀x∈r,Vm x<Vm y):SR (A++ [y]++B) (r++ [y]):=by
 refine⟨?_,λk=>?_⟩
 ·unfold srt;rw [B3];refine⟨h.1,Mg _ _,λx hx z hz=>?_⟩;rw [Ay]at hz;subst hz;have:=hy x hx;omega
 have h2:=h.2 k;rw [AQ]at h2;rw [AQ,AQ,AQ];by_cases e:Vm y=k
 ·have e1:∀x∈A++B,¬(Vm x==k)=true:=λx hx=>by
   have:=hy x (h.mem.2 hx);simp;omega
  have a0:A.filter (λx=>Vm x==k)=[]:=B7.2 λx hx=>e1 x (by simp [hx])
  have b0:B.filter (λx=>Vm x==k)=[]:=B7.2 λx hx=>e1 x (by simp [hx])
  rw [a0,b0]at h2⊢;rw [h2];simp
 have:[y].filter (λx=>Vm x==k)=[]:=BN (by simpa using e);rw [this,A0,A0];exact h2
theorem eK {p:Page} (h:EX t=some (p,true)):YS t=some p:=by unfold YS;rw [h]
theorem oX (h:BL f):Av (λs:List A4×Int=>Et f s.1 s.2) ([],0)=some (JQ 0 f.Blocks):=by
 have hn:=h.n;obtain⟨X,h1,h2⟩:=Bf (body:=λs:List A4×Int=>Et f s.1 s.2) (λs i=>(s,i)) f.Blocks.length (λi o=>o=JQ 0 (f.Blocks.take i)/\o.length<=4*i) (λb=>b=JQ 0 f.Blocks)
  (λa i hi hs=>by
   obtain⟨ho,m⟩:=hs;have hb:f.Blocks[i]?=some f.Blocks[i]:=Ab hi;have hm:f.Blocks[i]∈f.Blocks:=AC _;have h4:=(h.blk _ hm).four;refine .inl ?_;simp only [Et,AG,Ad hi,Af];obtain⟨u,q1,q2,q3⟩:=Bf (body:=λs:List A4×Int=>EN f (i:Int) s.1 s.2) (λs i=>(s,i)) f.Blocks[i].Leaves.length (λk u=>u=a++UL i 0 (f.Blocks[i].Leaves.take k)/\u.length<=a.length+k) (λu=>u=a++UL i 0 f.Blocks[i].Leaves/\u.length<=a.length+4)
    (λu k hk hu=>by
     obtain⟨g,q⟩:=hu;have hx:f.Blocks[i].Leaves[k]?=some f.Blocks[i].Leaves[k]:=Ab hk;have j:f.Blocks[i].Leaves[k]∈f.Blocks[i].Leaves:=AC _
     have l:∀y:A4,ap 72 u [y]=some (u++ [y]):=λy=>Cq (by simp only [An];omega)
     have c:∀z,UL i 0 (f.Blocks[i].Leaves.take (k+1))=UL i 0 (f.Blocks[i].Leaves.take k)++z↔pg i k f.Blocks[i].Leaves[k]=z:=by
      intro z;rw [DR,hx,VD];simp only [Option.toList,UL,A0,AE];rw [show(0:Int)+((min k f.Blocks[i].Leaves.length:Nat):Int)=(k:Int) by omega];exact⟨λe=>List.append_cancel_left e,λe=>by rw [e]⟩
     refine .inl ?_;obtain⟨p,ok,r1,r2,r3,r4⟩:=J7 f.Blocks[i].Leaves[k].Text (by have:=h.text _ hm _ j;omega);simp only [EN,AG,Ad hk,Af,AB,hb,Aa,Vg f h.cap hb hx,l]
     cases d:f.Blocks[i].Leaves[k].Is==1 with
     |false=>
      obtain⟨p',ok',t1,_⟩:=J7 (bs []) (by rw [DP];simp);simp only [Ac,Aa,t1];refine⟨u,by rw [ad1 (by omega)],?_,by omega⟩;rw [g,(c []).2 (by unfold pg;rw [Ax (by simpa using d)]),A0]
     |true=>
      simp only [Af,Aa,r1]
      cases ok with
      |false=>
       refine⟨u,by simp only [Ac];rw [ad1 (by omega)],?_,by omega⟩;rw [g,(c []).2 (by unfold pg YS;rw [Au (by simpa using d),r1]),A0]
      |true=>
       refine⟨u++ [A4.mk i k p],by simp only [Af];rw [ad1 (by omega)],?_,by simp only [Ah,An];omega⟩
       rw [g,(c [A4.mk i k p]).2 (by unfold pg;rw [Au (by simpa using d),eK r1]),Ao])
    (λu hu=>⟨u,by simp only [EN,AB,hb,Aa,AG,Aq,Aw,Ac],by rw [hu.1,AP (A3 _)],by omega⟩) (s:=a) ⟨by simp [UL],by omega⟩
   have q1':Av (λs:List A4×Int=>EN f (i:Int) s.1 s.2) (a,0)=some u:=q1;rw [q1'];simp only [Aa];rw [ad1 (by omega)];refine⟨u,rfl,?_,by omega⟩;rw [q2,ho,DR,hb,QQ];simp only [Option.toList,JQ,A0,AE]
   rw [show(0:Int)+((min i f.Blocks.length:Nat):Int)=(i:Int) by omega])
  (λa hs=>⟨a,by simp only [Et,AG,Aq,Aw,Ac],by rw [hs.1,AP (A3 _)]⟩) (s:=[]) ⟨by simp [JQ],by simp⟩
 rw [h2]at h1;exact h1
theorem tJ (h:BL f):∃r,tK f r/\SR (JQ 0 f.Blocks) r:=by
 have hT:∀b∈f.Blocks,∀x∈b.Leaves,(L x.Text).length<=1048576:=λb hb x hx=>by have:=h.text b hb x hx;omega
 have hn:=h.few;obtain⟨r,h1,h2,h3,h4,h5⟩:=kJ f h.cap hT (by omega);refine⟨r,⟨h1,h2,by omega,h4,λy hy=>qS hT (h4 y hy),h5⟩,h5,?_⟩;obtain⟨X,c1,_,c3,_⟩:=Sg f h.cap hT (by omega);have hX:X=JQ 0 f.Blocks:=by
  rw [oX h]at c1
  injection c1 with c1
  exact c1.symm
 obtain⟨r',s1,s2,s3⟩:=YC BG X (by omega);have:Hx f=some r':=by
  unfold Hx;obtain⟨X',c1',c2',_⟩:=Sg f h.cap hT (by omega);rw [c1]at c1'
  injection c1' with c1'
  rw [c2',<-c1',Aa,s1];rfl
 rw [h2]at this
 injection this with this
 rw [this,<-hX];exact s3
def Hb (l:List Leaf):Nat:=(l.takeWhile λx=>x.Is !=0).length
theorem bH (l:List Leaf):Hb l<=l.length:=by
 unfold Hb;have:=(List.takeWhile_sublist (λx:Leaf=>x.Is !=0) (l:=l)).length_le;exact this
theorem NH:∀(l:List Leaf),(∀(k:Nat) x,k<Hb l->l[k]?=some x->x.Is≠0)/\(∀x,l[Hb l]?=some x->x.Is=0)
 |[]=>⟨λk x h=>by simp [Hb]at h,λx h=>by simp [Hb]at h⟩
 |y::l=>by
  obtain⟨h1,h2⟩:=NH l;by_cases e:y.Is=0
  ·have:Hb (y::l)=0:=by unfold Hb;rw [List.takeWhile_cons_of_neg (by simp [e])];rfl
   rw [this];refine⟨λk x hk=>by omega,λx hx=>?_⟩;simp only [Cw,Aj]at hx;rw [<-hx];exact e
  have:Hb (y::l)=Hb l+1:=by unfold Hb;rw [List.takeWhile_cons_of_pos (by simpa using e)];rfl
  rw [this];refine⟨λk x hk hx=>?_,λx hx=>?_⟩
  ·cases k with
   |zero=>
    simp only [Cw,Aj]at hx;rw [<-hx];exact e
   |succ k=>exact h1 k x (by omega) (by simpa using hx)
  exact h2 x (by simpa using hx)
theorem Mu (b:Block) (h:b.Leaves.length=4):Jr b=some (Hb b.Leaves:Int):=by
 unfold Jr;obtain⟨h1,h2⟩:=NH b.Leaves;have a:=bH b.Leaves;obtain⟨r,q1,q2⟩:=Bf (body:=λs:Int=>G0 b s) (λ(_:Unit) i=>i) b.Leaves.length (λi _=>i<=Hb b.Leaves) (λr=>(r= .inr (Hb b.Leaves:Int))\/r= .inl ()/\Hb b.Leaves=4)
  (λ_ i hi hs=>by
   have hx:=Ab hi;simp only [G0,AG,Ad hi,Af,AB,hx,Aa];by_cases e:i=Hb b.Leaves
   ·have:=h2 b.Leaves[i] (by rw [<-e];exact hx);rw [show(b.Leaves[i].Is==0)=true by simpa using this];exact .inr ⟨_,rfl,.inl (by rw [e])⟩
   have:=h1 i b.Leaves[i] (by omega) hx;rw [show(b.Leaves[i].Is==0)=false by simpa using this,Ac,ad1 (by omega)]
   exact .inl ⟨(),rfl,by omega⟩)
  (λ_ hs=>⟨_,by simp only [G0,AG,Aq,Aw,Ac],.inr ⟨rfl,by omega⟩⟩) (s:=()) (by omega)
 have q1':Av (λs:Int=>G0 b s) 0=some r:=q1;rw [q1']
 rcases q2 with rfl|⟨rfl,q2⟩
 ·rfl
 rw [q2];rfl
theorem JY.blank (h:JY b) (hk:Hb b.Leaves<=k) (hx:b.Leaves[k]?=some x):x.Is=0:=by
 induction k generalizing x with
 |zero=>
  have:Hb b.Leaves=0:=by omega
  exact(NH b.Leaves).2 x (by rw [this];exact hx)
 |succ k ih=>
  by_cases e:Hb b.Leaves=k+1
  ·exact(NH b.Leaves).2 x (by rw [e];exact hx)
  have a:=(Ag.1 hx).1;have hy:b.Leaves[k]?=some b.Leaves[k]:=Ab (by omega);exact h.turn k _ x hy hx (ih (by omega) hy)
theorem WY {y:Leaf} (h:JY b) (hk:k=Hb b.Leaves) (h4:k<4) (hy:xK y) (a:y.Is≠0):JY (Block.mk b.Bad b.Wear (b.Leaves.set k y)):=by
 refine⟨by simpa using h.four,h.wear,λx hx=>?_,?_⟩
 ·rcases CN hx with hx|rfl
  ·exact h.leaf x hx
  exact hy
 intro j x z hx hz h0;have hx':(b.Leaves.set k y)[j]?=some x:=hx;have hz':(b.Leaves.set k y)[j+1]?=some z:=hz;rw [Ci]at hx' hz';by_cases e:k=j
 ·subst e;rw [Au rfl,Au (by rw [h.four];exact h4)]at hx'
  injection hx' with hx'
  rw [<-hx']at h0;exact absurd h0 a
 rw [Ax e]at hx';by_cases e2:k=j+1
 ·have:=(NH b.Leaves).1 j x (by omega) hx';exact absurd h0 this
 rw [Ax e2]at hz';exact h.turn j x z hx' hz' h0
theorem Qv (h:BL f) (hb:JY b):BL (Flash.mk (f.Blocks.set i b)):=by
 refine⟨by have:=h.n;simpa using this,λx hx=>?_⟩
 rcases CN hx with hx|rfl
 ·exact h.blk x hx
 exact hb
def Ye (f:Flash) (b l:Int) (t:ByteArray):Prop:=∃x,gi f.Blocks b=some x/\x.Bad=false/\l=(Hb x.Leaves:Int)/\Hb x.Leaves<4/\1<=(L t).length/\(L t).length<=120
def prog (f:Flash) (b l:Int) (y:Leaf):Flash:=Flash.mk (match gi f.Blocks b with
 |some x=>si f.Blocks b (Block.mk x.Bad x.Wear (si x.Leaves l y))
 |none=>f.Blocks)
theorem d9 (h:BL f) (b l:Int) (t:ByteArray):(Ye f b l t/\N9 f b l t=some (prog f b l (Leaf.mk 1 t),true))\/(¬Ye f b l t/\N9 f b l t=some (f,false)):=by
 have hn:=h.n;unfold N9 Wy;rw [FR f h.cap,Oc h];simp only [Aa,Ak,Ac];rw [BW,C5 (by omega) (by omega),Ez];simp only [Aa];by_cases hb:0<=b/\b<=(f.Blocks.length:Int)-1
 ·rw [Ad hb];simp only [Af];have hg:=Qs (l:=f.Blocks) hb.1 (by omega);have hm:f.Blocks[b.toNat]'(by omega)∈f.Blocks:=AC _;generalize d:f.Blocks[b.toNat]'(by omega)=x at hg hm;have hP:=h.blk x hm;rw [hg];simp only [Aa]
  cases a:x.Bad with
  |true=>
   refine .inr ⟨?_,rfl⟩;rintro⟨z,hz,h2,_⟩;rw [hg]at hz
   injection hz with hz
   rw [<-hz,a]at h2;cases h2
  |false=>
   simp only [AH,Af];by_cases c:l<4
   ·rw [Ad c];simp only [Af];rw [Mu x hP.four];simp only [Aa];by_cases hl:l=(Hb x.Leaves:Int)
    ·rw [show(l==(Hb x.Leaves:Int))=true by simpa using hl];simp only [Af];rw [BJ,Ez];simp only [Aa];by_cases ht:1<=(L t).length/\(L t).length<=120
     ·rw [Ad (by omega:1<=((L t).length:Int)/\((L t).length:Int)<=120)];simp only [Ak,Ac,Aa];refine .inl ⟨⟨x,hg,a,hl,by omega,ht⟩,?_⟩;rw [Qs (l:=x.Leaves) (i:=l) (by omega) (by rw [hP.four];omega)];simp only [Aa];unfold prog;rw [hg];simp only [a]
     rw [Ae (by omega:¬(1<=((L t).length:Int)/\((L t).length:Int)<=120))];refine .inr ⟨?_,rfl⟩;rintro⟨z,hz,_,_,_,h5⟩;exact ht h5
    rw [show(l==(Hb x.Leaves:Int))=false by simpa using hl];refine .inr ⟨?_,rfl⟩;rintro⟨z,hz,_,h3,_⟩;rw [hg]at hz
    injection hz with hz
    rw [<-hz]at h3;exact hl h3
   rw [Ae c];refine .inr ⟨?_,rfl⟩;rintro⟨z,hz,_,h3,h4,_⟩;omega
 rw [Ae hb];refine .inr ⟨?_,rfl⟩;rintro⟨z,hz,_⟩;obtain⟨k1,k2⟩:=D6 hz;have:=(Ag.1 k2).1;omega
theorem OD {b l:Int} (h:BL f) (hm:Ye f b l t):BL (prog f b l (Leaf.mk 1 t))/\BL (prog f b l (Leaf.mk 2 t))/\∃A B,JQ 0 f.Blocks=A++B/\(∀p,YS t=some p->JQ 0 (prog f b l (Leaf.mk 1 t)).Blocks=A++ [A4.mk b l p]++B)/\(∀u,JQ 0 (prog f b l (Leaf.mk 2 u)).Blocks=A++B):=by
 obtain⟨x,h1,h2,rfl,h4,h5⟩:=hm;obtain⟨k1,k2⟩:=D6 h1;obtain⟨c,rfl⟩:∃c:Nat,b=(c:Int):=⟨_,(Bq k1).symm⟩;rw [Ba]at k2;have hP:=h.blk x (A6 k2);have hx:x.Leaves[Hb x.Leaves]?=some (x.Leaves[Hb x.Leaves]'(by rw [hP.four];exact h4)):=Ab _;have d:=hP.blank (A3 _) hx
 have a:∀y,prog f (c:Int) (Hb x.Leaves:Int) y=Flash.mk (f.Blocks.set c (Block.mk x.Bad x.Wear (x.Leaves.set (Hb x.Leaves) y))):=λy=>by
  unfold prog;rw [h1];simp only [Ey]
 rw [a,a];refine⟨Qv h (WY hP rfl h4 (.inr (.inl ⟨rfl,h5.1,h5.2⟩)) (by simp)),Qv h (WY hP rfl h4 (.inr (.inr ⟨rfl,h5.2⟩)) (by simp)),?_⟩;obtain⟨A,B,e1,e2⟩:=iS k2 hx;have z:pg (c:Int) (Hb x.Leaves:Int) (x.Leaves[Hb x.Leaves]'(by rw [hP.four];exact h4))=[]:=by unfold pg;rw [Ax (by rw [d];omega)]
 rw [z,A0]at e1;refine⟨A,B,e1,λp hp=>?_,λu=>?_⟩
 ·rw [e2];congr 2;unfold pg;rw [Au rfl,hp]
 rw [a,e2];have:pg (c:Int) (Hb x.Leaves:Int) (Leaf.mk 2 u)=[]:=by unfold pg;rw [Ax (by simp)]
 rw [this,A0]
theorem rI {l:List Leaf} (h:∀x∈l,x.Is=0):nb l=l.length:=by
 induction l with
 |nil=>rfl
 |cons x l ih=>
  have h1:=ih (λy hy=>h y (by simp [hy]));unfold nb at h1⊢;rw [B8,E7,h1,VJ,Au (by simpa using h x (by simp)),Az];omega
theorem vL {l:List Leaf} (h:∀x∈l,x.Is≠0):nb l=0:=by
 induction l with
 |nil=>rfl
 |cons x l ih=>
  have h1:=ih (λy hy=>h y (by simp [hy]));unfold nb at h1⊢;rw [B8,E7,h1,VJ,Ax (by simpa using h x (by simp))]
theorem yY (l m:List Leaf):nb (l++m)=nb l+nb m:=by unfold nb;rw [Cl,VX]
theorem JY.nb (h:JY b):nb b.Leaves=4-Hb b.Leaves:=by
 have a:=bH b.Leaves;have h4:=h.four;have e:Go.TI.nb b.Leaves=Go.TI.nb (b.Leaves.take (Hb b.Leaves))+Go.TI.nb (b.Leaves.drop (Hb b.Leaves)):=by rw [<-yY,Bz]
 rw [e,vL (l:=b.Leaves.take (Hb b.Leaves)),rI (l:=b.Leaves.drop (Hb b.Leaves)),B6,h4]
 ·omega
 ·intro x hx;obtain⟨k,hk,rfl⟩:=AF hx;rw [B6]at hk;rw [Sq];exact h.blank (k:=Hb b.Leaves+k) (by omega) (Ab _)
 intro x hx;obtain⟨k,hk,rfl⟩:=AF hx;rw [AE]at hk;rw [JB];exact(NH b.Leaves).1 k _ (by omega) (Ab _)
def RV (f:Flash) (b l:Int):Prop:=∃x,gi f.Blocks b=some x/\x.Bad=false/\l=(Hb x.Leaves:Int)/\Hb x.Leaves<4
theorem XU (h:BL f):∃v:Int,MU f=some v/\((v= -1/\∀b∈f.Blocks,b.Bad=false->Hb b.Leaves=0\/Hb b.Leaves=4)\/∃x,gi f.Blocks v=some x/\x.Bad=false/\Hb x.Leaves<4):=by
 unfold MU;have hn:=h.n;obtain⟨b,h1,h3⟩:=Bf (body:=λs:Int=>Gz f s) (λ(_:Unit) i=>i) f.Blocks.length (λi _=>∀(j:Nat) b,j<i->f.Blocks[j]?=some b->b.Bad=false->Hb b.Leaves=0\/Hb b.Leaves=4) (λb=>(b= .inl ()/\∀b∈f.Blocks,b.Bad=false->Hb b.Leaves=0\/Hb b.Leaves=4)\/∃i:Nat,∃x,b= .inr (i:Int)/\f.Blocks[i]?=some x/\x.Bad=false/\Hb x.Leaves<4)
  (λ_ i hi hs=>by
   have hg:f.Blocks[i]?=some f.Blocks[i]:=Ab hi;have hP:=h.blk _ (AC hi);have c:=hP.nb;have h4:=hP.four;have d:=bH f.Blocks[i].Leaves;simp only [Gz,AG,Ad hi,Af];rw [iU f i hg (by omega)];simp only [Aa,AB,hg];rw [ad1 (by omega)]
   cases a:f.Blocks[i].Bad with
   |true=>
    refine .inl ⟨(),rfl,λj b hj hb h0=>?_⟩;by_cases e:j=i
    ·subst e;rw [hg]at hb
     injection hb with hb
     rw [<-hb,a]at h0;cases h0
    exact hs j b (by omega) hb h0
   |false=>
    simp only [AH,Af];by_cases e:0<Hb f.Blocks[i].Leaves/\Hb f.Blocks[i].Leaves<4
    ·rw [Ad (by omega),Ad (by omega)];exact .inr ⟨_,rfl,.inr ⟨i,_,rfl,hg,a,e.2⟩⟩
    have:(bif decide (((nb f.Blocks[i].Leaves:Nat):Int)>0)then(some (decide (((f.Blocks[i].Leaves.length-nb f.Blocks[i].Leaves:Nat):Int)>0)))else(some false):Option Bool)=some false:=by
     by_cases e2:nb f.Blocks[i].Leaves=0
     ·rw [Ae (by omega)];rfl
     rw [Ad (by omega),Ae (by omega)];rfl
    rw [this];refine .inl ⟨(),rfl,λj b hj hb h0=>?_⟩;by_cases e:j=i
    ·subst e;rw [hg]at hb
     injection hb with hb
     rw [<-hb];omega
    exact hs j b (by omega) hb h0)
  (λ_ hs=>⟨_,by simp only [Gz,AG,Aq,Aw,Ac],.inl ⟨rfl,λb hb=>by
   obtain⟨j,hj,rfl⟩:=AF hb
   exact hs j _ hj (Ab hj)⟩⟩) (s:=()) (λj b hj=>by omega)
 have h1':Av (λs:Int=>Gz f s) 0=some b:=h1;rw [h1']
 rcases h3 with⟨rfl,h3⟩|⟨i,x,rfl,h4,h5,h6⟩
 ·exact⟨-1,rfl,.inl ⟨rfl,h3⟩⟩
 exact⟨(i:Int),rfl,.inr ⟨x,by rw [AB];exact h4,h5,h6⟩⟩
theorem UH (h:BL f):∃b l:Int,∃ok:Bool,NA f=some (b,l,ok)/\(ok=true->RV f b l)/\(ok=false->∀b∈f.Blocks,b.Bad=false->Hb b.Leaves=4):=by
 have hn:=h.n;obtain⟨o,o1,o2⟩:=XU h;obtain⟨e1,_⟩:=Yv f h.cap;unfold NA;rw [Oc h,o1,e1];simp only [Aa,Ak,Ac]
 rcases o2 with⟨rfl,o2⟩|⟨x,o2,o3,o4⟩
 ·rw [Ae (by omega)];simp only [Ac];have a:∀y∈UR f,RV f y 0:=by
   intro y hy;unfold UR at hy;obtain⟨i,hi,rfl⟩:=AJ.1 hy;obtain⟨c,d⟩:=AU.1 hi;rw [I9]at c;unfold Nw at d;rw [Ab c]at d;simp only [Al,C8,A7]at d;have hP:=h.blk _ (AC c);have:=hP.nb;have:=hP.four;exact⟨_,by rw [AB];exact Ab c,d.1,by omega,by omega⟩
  cases j:UR f with
  |nil=>
   refine⟨0,0,false,rfl,by simp,λ_ b hb g=>?_⟩
   rcases o2 b hb g with e|e
   ·obtain⟨i,hi,rfl⟩:=AF hb;have hm:(i:Int)∈UR f:=by
     unfold UR;refine AJ.2 ⟨i,AU.2 ⟨I9.2 hi,?_⟩,rfl⟩;unfold Nw;rw [Ab hi];have hP:=h.blk _ (AC hi);have:=hP.nb;have:=hP.four;simp only [g,AH,CJ,A7];omega
    rw [j]at hm;cases hm
   exact e
  |cons x l=>
   rw [j]at a;have t:(x::l).length<=10:=by
    rw [<-j];unfold UR;rw [Be];have:=CF (Nw f) (List.range f.Blocks.length);rw [Ch]at this;omega
   have m:(ln (x::l)==0)=false:=by simp [ln];omega
   rw [m];simp only [Ac];have p:gi (x::l) 0=some x:=AB (i:=0);rw [p];simp only [Aa]
   have k:∀y,RV f y 0->∃z,gi f.Blocks y=some z:=λy ⟨z,hz,_⟩=>⟨z,hz⟩
   obtain⟨w,w1,w2⟩:=Tc (body:=λs:Int×Int=>JL f (x::l) s.1 s.2) (λ(b:Int) i=>(b,i)) (x::l).length (λ_ b=>RV f b 0) (λb=>RV f b 0)
    (λb i hi hb=>by
     have hg:(x::l)[i]?=some (x::l)[i]:=Ab hi;have hp:=a _ (AC hi);obtain⟨z1,q⟩:=k _ hp;obtain⟨z2,r⟩:=k _ hb;simp only [JL,AG,Ad hi,Af,AB,hg,Aa,q,r];rw [ad1 (by omega)]
     cases decide (z1.Wear<z2.Wear)with
     |true=>exact .inl ⟨_,rfl,hp⟩
     |false=>exact .inl ⟨_,rfl,hb⟩)
    (λb hb=>⟨b,by simp only [JL,AG,Aq,Aw,Ac],hb⟩) l.length 1 x (by simp;omega) (a x (by simp))
   have e1':((1:Nat):Int)=1:=rfl;rw [e1']at w1;rw [w1];exact⟨w,0,true,rfl,λ_=>w2,by simp⟩
 obtain⟨k1,k2⟩:=D6 o2;rw [Ad (by omega),Af,o2];simp only [Aa];rw [Mu x (h.blk x (A6 k2)).four];exact⟨_,_,true,rfl,λ_=>⟨x,o2,o3,rfl,o4⟩,by simp⟩
def sZ (f:Flash) (b:Int):Prop:=∃x,gi f.Blocks b=some x/\x.Bad=false/\x.Wear≠1000000000
def Sv (f:Flash) (b:Int):Flash:=Flash.mk (match gi f.Blocks b with
 |some x=>si f.Blocks b (Block.mk false (x.Wear+1) Pk)
 |none=>f.Blocks)
theorem qB (h:BL f) (b:Int):(sZ f b/\W0 f b=some (Sv f b,true))\/(¬sZ f b/\W0 f b=some (f,false)):=by
 have hn:=h.n;unfold W0;rw [FR f h.cap,Oc h];simp only [Aa,Ak,Ac];rw [BW,C5 (by omega) (by omega),Ez];simp only [Aa];by_cases hb:0<=b/\b<=(f.Blocks.length:Int)-1
 ·rw [Ad hb];simp only [Ak,Ac];have hg:=Qs (l:=f.Blocks) hb.1 (by omega);have hm:f.Blocks[b.toNat]'(by omega)∈f.Blocks:=AC _;generalize c:f.Blocks[b.toNat]'(by omega)=x at hg hm;have hP:=h.blk x hm;rw [hg];simp only [Aa]
  cases a:x.Bad with
  |true=>
   refine .inr ⟨?_,rfl⟩;rintro⟨z,hz,h2,_⟩;rw [hg]at hz
   injection hz with hz
   rw [<-hz,a]at h2;cases h2
  |false=>
   simp only [Ac,Aa];by_cases hw:x.Wear=1000000000
   ·rw [show(x.Wear==1000000000)=true by simpa using hw];refine .inr ⟨?_,rfl⟩;rintro⟨z,hz,_,h3⟩;rw [hg]at hz
    injection hz with hz
    rw [<-hz]at h3;exact h3 hw
   rw [show(x.Wear==1000000000)=false by simpa using hw];simp only [Ac];rw [Zf];simp only [Aa];have:=hP.wear;rw [Cx (by omega) (by omega)];refine .inl ⟨⟨x,hg,a,hw⟩,?_⟩;unfold Sv;rw [hg]
 rw [Ae hb];refine .inr ⟨?_,rfl⟩;rintro⟨z,hz,_⟩;obtain⟨k1,k2⟩:=D6 hz;have:=(Ag.1 k2).1;omega
theorem f7 {bad:Bool} {w:Int} (h:0<=w/\w<=1000000000):JY (Block.mk bad w Pk):=by
 refine⟨rfl,h,λx hx=> .inl ?_,λk x y hx hy _=>?_⟩
 ·have:=Dy hx;rw [this];exact⟨rfl,rfl⟩
 have:=Dy (A6 hy);rw [this]
theorem WL (i:Int):∀(k:Int) (l:List Leaf),(∀x∈l,x.Is≠1)->UL i k l=[]
 |k,[],_=>rfl
 |k,x::l,h=>by
  rw [UL,WL i (k+1) l (λy hy=>h y (by simp [hy]))];unfold pg;rw [Ax (h x (by simp))];rfl
theorem Uw {b:Int} (h:BL f) (hc:sZ f b):BL (Sv f b)/\JQ 0 (Sv f b).Blocks=(JQ 0 f.Blocks).filter λy=>y.Block !=b:=by
 obtain⟨x,h1,h2,h3⟩:=hc;obtain⟨k1,k2⟩:=D6 h1;obtain⟨c,rfl⟩:∃c:Nat,b=(c:Int):=⟨_,(Bq k1).symm⟩;rw [Ba]at k2;have hP:=h.blk x (A6 k2);have hw:=hP.wear;unfold Sv;rw [h1];simp only [Ey];exact⟨Qv h (f7 ⟨by omega,by omega⟩),eO k2 (WL _ _ _ λy hy=>by rw [Dy hy];simp)⟩
def RI (f:Flash) (s:BY):Prop:=(s.Kind=1/\Ye f s.Block s.Leaf s.Text)\/(s.Kind=2/\sZ f s.Block)
def Ji (f:Flash) (s:BY):Flash:=if s.Kind=1 then prog f s.Block s.Leaf (Leaf.mk 1 s.Text)else Sv f s.Block
theorem RN (h:BL f) (s:BY):(RI f s/\NB f s=some (Ji f s,true))\/(¬RI f s/\NB f s=some (f,false)):=by
 unfold NB;by_cases k1:s.Kind=1
 ·rw [show(s.Kind==1)=true by simpa using k1];simp only [Af]
  rcases d9 h s.Block s.Leaf s.Text with⟨h1,h2⟩|⟨h1,h2⟩
  ·rw [h2];exact .inl ⟨.inl ⟨k1,h1⟩,by unfold Ji;rw [Au k1];rfl⟩
  rw [h2];exact .inr ⟨by rintro(hh|hh);exact h1 hh.2;omega,rfl⟩
 rw [show(s.Kind==1)=false by simpa using k1];simp only [Ac];by_cases k2:s.Kind=2
 ·rw [show(s.Kind==2)=true by simpa using k2];simp only [Af]
  rcases qB h s.Block with⟨h1,h2⟩|⟨h1,h2⟩
  ·rw [h2];exact .inl ⟨.inr ⟨k2,h1⟩,by unfold Ji;rw [Ax k1];rfl⟩
  rw [h2];exact .inr ⟨by rintro(hh|hh);omega;exact h1 hh.2,rfl⟩
 rw [show(s.Kind==2)=false by simpa using k2];simp only [Ac];rw [FR f h.cap];exact .inr ⟨by rintro(hh|hh)<;>omega,rfl⟩
theorem uN {s:BY} (h:BL f) (hs:RI f s):BL (Ji f s):=by
 unfold Ji
 rcases hs with⟨h1,h2⟩|⟨h1,h2⟩
 ·rw [Au h1];exact(OD h h2).1
 rw [Ax (by omega)];exact(Uw h h2).1
theorem RL {ok:Bool} (h:BL f) (steps:List BY) (hs:steps.length<=1000) (p:Page) (ht:EY p=some (t,ok)) (hl:ok=true->1<=(L t).length/\(L t).length<=120):
  (ok=true/\∃b l,RV f b l/\NA f=some (b,l,true)/\Gr f steps p=some (prog f b l (Leaf.mk 1 t),steps++ [BY.mk 1 b l t],true))\/Gr f steps p=some (f,steps,false):=by
 obtain⟨b,l,room,p1,p2,_⟩:=UH h;unfold Gr;rw [ht,p1];simp only [Aa]
 cases ok with
 |false=>exact .inr rfl
 |true=>
  simp only [Ak,Ac,Aa]
  cases room with
  |false=>exact .inr rfl
  |true=>
   simp only [Ak,Ac];have hp:=p2 rfl;have hl':=hl rfl;have hm:Ye f b l t:=by
    obtain⟨x,a1,a2,a3,a4⟩:=hp;exact⟨x,a1,a2,a3,a4,hl'⟩
   rcases RN h (BY.mk 1 b l t)with⟨h1,h2⟩|⟨h1,h2⟩
   ·rw [h2];simp only [Aa];rw [Cq (by simp;omega)];refine .inl ⟨trivial,b,l,hp,rfl,?_⟩;unfold Ji;rfl
   exact absurd (.inl ⟨rfl,hm⟩) h1
end Go.TI
