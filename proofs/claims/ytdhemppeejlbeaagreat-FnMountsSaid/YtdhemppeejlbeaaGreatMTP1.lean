/- Devices come up for the program as they were. No condition; no program is in sight. -/
import Derived.Test.YtdhemppeejlbeaaGreatMTP0
set_option linter.unusedVariables false
set_option linter.unusedSimpArgs false
namespace Go.TI
open Go
theorem qQ (s:ByteArray) (f a:Int):Mg s f a=Au (λn:Int=>FJ s a f n) 0:=by
 show(Au (λn:Int=>FJ s a f n) 0).bind _=_;cases Au (λn:Int=>FJ s a f n) 0<;>rfl
theorem qP (s:ByteArray) (f a:Nat) (hf:f<a) (ha:a<=(L s).length) (hs:(L s).length<=64):∃k:Nat,Au (λn:Int=>FJ s (a:Int) (f:Int) n) 0=some (k:Int)/\k<=31/\a+k<=(L s).length:=by
 obtain⟨b,h1,k,rfl,h2,h3⟩:=Bg (body:=λn:Int=>FJ s (a:Int) (f:Int) n) (λ(_:Unit) i=>i) 31 (λi _=>a+i<=(L s).length) (λb=>∃k:Nat,b=(k:Int)/\k<=31/\a+k<=(L s).length)
  (λ_ i hi hs=>by
   simp only [FJ];rw [Ad (by omega:(i:Int)<31),Af,C6 (by omega) (by omega),C6 (by omega) (by omega),BM];by_cases c:a+i<(L s).length
   ·rw [Ad (by omega:((a:Int)+(i:Int))<((L s).length:Int)),Af];have e1:((f:Int)+(i:Int))=((f+i:Nat):Int):=by omega
    have e2:((a:Int)+(i:Int))=((a+i:Nat):Int):=by omega
    rw [e1,e2,EE s (by omega),EE s c];simp only [Aa]
    cases((((L s)[f+i]).toNat:Int)==(((L s)[a+i]).toNat:Int))with
    |true=>
     simp only [Af];rw [ad1 (by omega)];exact .inl ⟨(),rfl,by omega⟩
    |false=>exact .inr ⟨_,rfl,i,rfl,by omega,hs⟩
   rw [Ae (by omega:¬((a:Int)+(i:Int))<((L s).length:Int)),Ac]
   exact .inr ⟨_,rfl,i,rfl,by omega,hs⟩)
  (λ_ hs=>by
   simp only [FJ];rw [Ae (by omega:¬((31:Nat):Int)<31),Ac]
   exact⟨_,rfl,31,rfl,by omega,hs⟩) (s:=()) (by omega)
 exact⟨k,h1,h2,h3⟩
theorem iJ (s:ByteArray) (a:Nat) (ha:a<=(L s).length) (hs:(L s).length<=64):∃z b:Nat,TQ s (a:Int)=some ((z:Int),(b:Int))/\Au (λq:Int×Int×Int=>Er s (a:Int) q.1 q.2.1 q.2.2) (0,0,(sb (a:Int) 1))=some ((z:Int),(b:Int))/\z<=31/\a+z<=(L s).length/\(z=0\/4<=z/\1<=b/\b<=a):=by
 have c:(λq:Int×Int×Int=>Er s (a:Int) q.1 q.2.1 q.2.2)=λq:Int×Int×Int=>Ii s (a:Int) q.1 q.2.1 q.2.2:=by
  funext ⟨x,y,z⟩;simp only [Er,Ii,qQ]
 rw [c,C4 (by omega) (by omega)];obtain⟨r,h1,z,b,rfl,h2,h3,h4⟩:=Bg (body:=λq:Int×Int×Int=>Ii s (a:Int) q.1 q.2.1 q.2.2) (λ(q:Nat×Nat) i=>((q.1:Int),(q.2:Int),(a:Int)-1-i)) a (λi q=>q.1<=31/\a+q.1<=(L s).length/\(q.1=0\/4<=q.1/\1<=q.2/\q.2<=a)) (λr=>∃z b:Nat,r=((z:Int),(b:Int))/\z<=31/\a+z<=(L s).length/\(z=0\/4<=z/\1<=b/\b<=a))
  (λq i hi hq=>by
   obtain⟨k,m1,m2,m3⟩:=qP s (a-1-i) a (by omega) ha hs;have e1:((a:Int)-1-(i:Int))=((a-1-i:Nat):Int):=by omega
   simp only [Ii,e1];rw [Ad (by omega:(((a-1-i:Nat)):Int)>=0),Af,m1];simp only [Aa];rw [C4 (by omega) (by omega),C4 (by omega) (by omega)];refine .inl ?_;have e2:(((a-1-i:Nat):Int)-1)=(a:Int)-1-((i+1:Nat):Int):=by omega
   have e3:((a:Int)-((a-1-i:Nat):Int))=((1+i:Nat):Int):=by omega
   rw [e2,e3];by_cases h4:4<=k
   ·rw [Ad (by omega:(k:Int)>=4),Af];by_cases h5:q.1<k
    ·rw [Ad (by omega:(k:Int)>(q.1:Int))];exact⟨(k,1+i),rfl,m2,m3,.inr ⟨h4,by omega,by omega⟩⟩
    rw [Ae (by omega:¬(k:Int)>(q.1:Int))];exact⟨q,rfl,hq⟩
   rw [Ae (by omega:¬(k:Int)>=4),Ac]
   exact⟨q,rfl,hq⟩)
  (λq hq=>by
   simp only [Ii];rw [Ae (by omega:¬((a:Int)-1-(a:Int))>=0),Ac]
   exact⟨_,rfl,q.1,q.2,rfl,hq⟩) (s:=(0,0)) ⟨by omega,by omega,.inl rfl⟩
 have e0:(((0:Nat):Int),((0:Nat):Int),(a:Int)-1-0)=((0:Int),(0:Int),(a:Int)-1):=by simp
 simp only [e0]at h1;refine⟨z,b,?_,h1,h2,h3,h4⟩;unfold TQ;rw [C4 (by omega) (by omega),h1];rfl
def Sl (t:Bj):Prop:=(t.Back=0/\t.Size=0/\1<=(L t.Text).length/\(L t.Text).length<=31)\/(1<=t.Back/\t.Back<=64/\4<=t.Size/\t.Size<=31/\L t.Text=[])
variable {s:Store} {v:Vol} {α γ:Type} {l R:List Int} {r n x:Int} {k i:Nat} {f:Flash} {K:Ks}
theorem GJ (l:List α) (x:α):gi (l++ [x]) (l.length:Int)=some x:=by
 rw [AB];simp
theorem Ja (l:List α) (x y:α):si (l++ [x]) (l.length:Int) y=l++ [y]:=by
 rw [E6];simp
theorem fP (s:ByteArray) (hs:(L s).length<=64):∃l,Ki s=some l/\RH s=some l/\l.length<=64/\∀t∈l,Sl t:=by
 unfold Ki RH;rw [BM,Ae (by omega:¬((L s).length:Int)>64),Ac,Ac];obtain⟨l,h1,h2,h3,h4⟩:=QE (body:=λq:List Bj×Int=>Cu s q.1 q.2) (body':=λq:List Bj×Int=>Nl s q.1 q.2) (λq=>(L s).length-q.2.toNat)
  (λq=>∃a:Nat,q.2=(a:Int)/\a<=(L s).length/\q.1.length<=a/\∀t∈q.1,Sl t) (λl=>l.length<=64/\∀t∈l,Sl t)
  (by
   rintro⟨f,at_⟩ ⟨a,ha,h1,h2,h3⟩;simp only at ha h2 h3;subst ha;simp only [Cu,Nl];rw [BM];by_cases i:a<(L s).length
   ·rw [Ad (by omega:(a:Int)<((L s).length:Int)),Af,Af];obtain⟨z,b,m1,m2,m3,m4,m5⟩:=iJ s a h1 hs;rw [m1,m2];simp only [Aa]
    have c:∀x:Bj,ap 32 f [x]=some (f++ [x]):=λx=>Ct (by simp only [An];omega)
    refine .inl ?_;by_cases hz:z=0
    ·subst hz;rw [Ae (by omega:¬((0:Nat):Int)>0),Ac,Ac];have esub:sub s (a:Int) (ad (a:Int) 1)=some (s.extract a (a+1)):=by rw [ad1 (by omega)];exact EZ s (by omega) (by omega)
     have elen:(L (s.extract a (a+1))).length=1:=by rw [HU];simp;omega
     rw [esub,ad1 (by omega),C4 (by rw [BW];omega) (by rw [BW];omega),BW]
     have ecat:∀x:ByteArray,(L x).length<=31->Ty x (s.extract a (a+1))=some (x++s.extract a (a+1)):=λx hx=>G5 _ _ (by rw [elen];omega)
     have e0:Ty (bs []) (s.extract a (a+1))=some (s.extract a (a+1)):=by
      rw [ecat _ (by rw [El];simp)];exact BR some (I1 (by rw [DG,El];rfl))
     have enew:Sl (Bj.mk 0 0 (s.extract a (a+1))):= .inl ⟨rfl,rfl,by simp only;rw [elen];omega,by simp only;rw [elen];omega⟩
     have d:∀(o:List Bj) (x:Bj),(∀t∈o,Sl t)->Sl x->∀t∈o++ [x],Sl t:=λo x ho hx t ht=>by
      rcases Ai.1 ht with ht|ht
      ·exact ho t ht
      rw [Ay]at ht;subst ht;exact hx
     have fin:∀o:List Bj,o.length<=a+1->(∀t∈o,Sl t)->(∃a':Nat,((a+1:Nat):Int)=(a':Int)/\a'<=(L s).length/\o.length<=a'/\∀t∈o,Sl t)/\(L s).length-(((a+1:Nat)):Int).toNat<(L s).length-((a:Int)).toNat:=λo g h=>⟨⟨a+1,rfl,by omega,g,h⟩,by omega⟩
     rcases GL f with rfl|⟨o,x,rfl⟩
     ·simp only [Bk,Int.ofNat_zero,Int.zero_sub];rw [Ad (by omega:(-1:Int)<0),Ae (by omega:¬(-1:Int)>=0)];simp only [Af,Ac,Aa,c];rw [show ad (-1) 1=(([]:List Bj).length:Int)from rfl];simp only [GJ,Aa,e0,Ja];exact⟨_,rfl,rfl,fin _ (by simp) (d _ _ (by simp) enew)⟩
     rw [GM]at h2 h3 c⊢;simp only [Ah,An]at h2⊢;have ek:(((o.length+1:Nat):Int)-1)=(o.length:Int):=by omega
     rw [ek,Ae (by omega:¬(o.length:Int)<0),Ad (by omega:(o.length:Int)>=0)];simp only [Af,Ac,GJ,Aa];have hx:=h3 x (by simp);have e:=d (o++ [x]) _ h3 enew;have elast:ad (o.length:Int) 1=((o++ [x]).length:Int):=by rw [ad1 (by omega)];simp
     rcases hx with⟨x1,x2,x3,x4⟩|⟨x1,x2,x3,x4,x5⟩
     ·rw [x1];simp only [show((0:Int)==0)=true from rfl,Af,show decide ((0:Int)>0)=false from rfl,Ac];rw [BM];by_cases h31:(L x.Text).length<31
      ·rw [Ad (by omega:((L x.Text).length:Int)<31),Ae (by omega:¬((L x.Text).length:Int)>=31)];simp only [Af,Ac,Aa,GJ,ecat _ x4,Ja];simp only [x1];refine⟨_,rfl,rfl,fin _ (by simp;omega) (d _ _ (λt ht=>h3 t (by simp [ht])) (.inl ⟨rfl,x2,?_,?_⟩))⟩
       ·simp only;rw [DG,Ah,elen];omega
       simp only;rw [DG,Ah,elen];omega
      rw [Ae (by omega:¬((L x.Text).length:Int)<31),Ad (by omega:((L x.Text).length:Int)>=31)];simp only [Af,Ac,Aa,c,elast,GJ,e0,Ja];exact⟨_,rfl,rfl,fin _ (by simp;omega) e⟩
     have hb:(x.Back==0)=false:=by simp;omega
     rw [hb,Ad (by omega:x.Back>0)];simp only [Af,Ac,Aa,c,elast,GJ,e0,Ja];exact⟨_,rfl,rfl,fin _ (by simp;omega) e⟩
    rw [Ad (by omega:(z:Int)>0),Af,Af,c];simp only [Aa];rw [C6 (by omega) (by omega)];refine⟨_,rfl,rfl,⟨a+z,by simp,by omega,by simp;omega,?_⟩,by simp only;omega⟩;intro t ht
    rcases Ai.1 ht with ht|ht
    ·exact h3 t ht
    rw [Ay]at ht;subst ht;refine .inr ⟨?_,?_,?_,?_,by simp only;rw [El]⟩<;>simp only<;>omega
   rw [Ae (by omega:¬(a:Int)<((L s).length:Int)),Ac,Ac]
   exact .inr ⟨_,rfl,rfl,by omega,h3⟩) ((L s).length) ([],0) (by simp) ⟨0,rfl,by omega,by simp,by simp⟩
 rw [h1,h2];exact⟨l,rfl,rfl,h3,h4⟩
theorem Sn (l m:List Int):L (Hz (l++m))=L (Hz l)++L (Hz m):=by rw [IY,IY,IY,Cq]
theorem LZ (l:List Int):(L (Hz l)).length=l.length:=by rw [IY,Be]
theorem oZ (b:ByteArray):L (Hz (gP b))=L b:=by
 rw [IY,gP,EY];have:((λn:Int=>UInt8.ofNat n.toNat)∘λc:UInt8=>(c.toNat:Int))=id:=by
  funext c;simp
 rw [this,RY];rfl
theorem r9 (l:List Int) (b:ByteArray):aps l b=ap 1 l (gP b):=by
 have:(gP b).length=b.size:=by simp [gP]
 unfold aps ap;rw [this,Yk]
theorem ZE (b:ByteArray):(gP b).length=(L b).length:=by simp [gP,L]
theorem fW (s:ByteArray):∃z ok,E7 s=some (z,ok)/\OG s=some (z,ok)/\(ok=false->z=bs [])/\(ok=true->(L s).length<=64/\((L z)[0]?=some 122\/(L z)[0]?=some 114)):=by
 unfold E7 OG;rw [BM];by_cases hs:(L s).length<=64
 ·rw [Ae (by omega:¬((L s).length:Int)>64),Ac,Ac];obtain⟨l,t1,t2,t3,t4⟩:=fP s hs;rw [t1,t2];simp only [Aa];obtain⟨z,v,h1,h2,rfl,h3,h4⟩:=nE (body:=λq:ByteArray×Int=>Et l q.1 q.2) (body':=λq:List Int×Int=>KE l q.1 q.2) (λv i=>(Hz v,i)) (λv i=>(v,i)) l.length (λi v=>v.length<=1+33*i/\(L (Hz v))[0]?=some 122) (λz v=>z=Hz v/\v.length<=4000/\(L (Hz v))[0]?=some 122)
   (λv i hi hv=>by
    have hg:l[i]?=some l[i]:=Ab hi;have c:=hv.1;have ht:=t4 _ (AC hi);refine .inl ?_;simp only [Et,KE,AG,Ad hi,Af,AB,hg,Aa]
    have b:∀(a:ByteArray) (m:List Int),(L a).length<=4000->m.length<=2->Ty a (Hz m)=some (a++Hz m):=λa m h1 h2=>G5 _ _ (by rw [LZ];omega)
    have h0:∀m:List Int,(L (Hz (v++m)))[0]?=some 122:=λm=>by
     rw [Sn,AM]
     ·exact hv.2
     rcases GD (L (Hz v)).length with h|h
     ·have:=hv.2;rw [A9 h]at this;cases this
     exact h
    rcases ht with⟨x1,x2,x3,x4⟩|⟨x1,x2,x3,x4,x5⟩
    ·rw [x1];simp only [show((0:Int)==0)=true from rfl,Af,show decide ((0:Int)>0)=false from rfl,Ac];rw [b _ _ (by rw [LZ];omega) (by simp),Ct (by simp only [An];omega)];simp only [Aa];rw [G5 _ _ (by rw [DG,Ah,LZ,LZ];simp only [An];omega),r9,Ct (by rw [ZE];simp only [Ah,An];omega)];simp only [Aa];rw [ad1 (by omega)];refine⟨v++([IntKind.u8.wrap (Gb l[i].Text)]++gP l[i].Text),?_,by rw [Ao],?_,h0 _⟩
     ·congr 4;apply I1;rw [DG,DG,Sn,Sn,oZ,Ao]
     simp only [Ah,An,ZE];omega
    have hb:(l[i].Back==0)=false:=by simp;omega
    rw [hb,Ad (by omega:l[i].Back>0)];simp only [Af,Ac];rw [b _ _ (by rw [LZ];omega) (by simp),Ct (by simp only [A0,Bk];omega)];simp only [Aa];rw [ad1 (by omega)];refine⟨v++ [IntKind.u8.wrap (ad 128 l[i].Size),IntKind.u8.wrap l[i].Back],?_,rfl,?_,h0 _⟩
    ·congr 4;apply I1;rw [DG,Sn]
    simp only [Ah,A0,Bk];omega)
   (λv hv=>⟨_,_,by simp only [Et,AG,Ap,Av,Ac],by simp only [KE,AG,Ap,Av,Ac],rfl,by have:=hv.1;omega,hv.2⟩) (s:=[122]) ⟨by simp,by rw [IY];rfl⟩
  have e0:(Hz [122],(0:Int))=(bs [122],(0:Int)):=by rw [show Hz [122]=bs [122]from I1 (by rw [IY,El];rfl)]
  simp only [e0]at h1;rw [h1,h2];simp only [Aa];rw [BM,LZ,BW,C6 (by omega) (by omega)];by_cases hc:((L s).length:Int)+1<=(v.length:Int)
  ·rw [Ad hc,Af,G5 _ _ (by rw [El];simp only [An];omega)];refine⟨_,true,rfl,rfl,by simp,λ_=>⟨hs,.inr ?_⟩⟩;rw [DG,El];rfl
  rw [Ae hc,Ac];exact⟨_,true,rfl,rfl,by simp,λ_=>⟨hs,.inl h4⟩⟩
 rw [Ad (by omega:((L s).length:Int)>64),Af,Af];exact⟨_,false,rfl,rfl,by simp,by simp⟩
def Pc (t:Bj):Prop:=(t.Back=0/\t.Size=0/\1<=(L t.Text).length/\(L t.Text).length<=31)\/(t.Back≠0/\1<=t.Size/\t.Size<=31/\L t.Text=[])
theorem bX:QK=Fu:=by
 funext l;unfold QK Fu;have hb:OF l=DV l:=by
  funext out y;unfold OF DV
  cases decide (y<ln l)with
  |false=>rfl
  |true=>
   simp only [Af]
   cases gi l y with
   |none=>rfl
   |some t=>
    simp only [Aa,eZ,WQ,r9]
    have h2:(λs:List Int×Int=>SU t s.1 s.2)=λs:List Int×Int=>DU t s.1 s.2:=rfl
    rw [h2]
    cases t.Back==0 with
    |false=>rfl
    |true=>
     simp only [Af];cases t.Size !=0<;>cases(decide (1<=Gb t.Text)&&decide (Gb t.Text<=31))<;>rfl
 rw [hb]
theorem OX (l:List Bj) (hl:l.length<=1048576):∃p ok,Fu l=some (p,ok)/\(ok=true->∀t∈l,Pc t):=by
 unfold Fu;obtain⟨r,h1,h2⟩:=Bg (body:=λq:List Int×Int=>DV l q.1 q.2) (λ(o:List Int) i=>(o,i)) l.length (λi o=>o.length<=64/\∀(j:Nat) t,j<i->l[j]?=some t->Pc t) (λr=>(∃o,r= .inl o/\∀t∈l,Pc t)\/r= .inr (bs [],false))
  (λo i hi ho=>by
   have hg:l[i]?=some l[i]:=Ab hi;obtain⟨h,d⟩:=ho;simp only [DV,AG,Ad hi,Af,AB,hg,Aa,WQ];have bad:∀k:(List Int)⊕((List Int×Int)⊕((List Int)⊕((ByteArray×Bool)))),k= .inr (.inr (.inr (bs [],false)))->∃b,(some k).bind (Sum.elim (λj1=>(bif(decide ((ln j1)>64))then(some (.inr (.inr ((bs []),false))))else(some (.inl (j1,(ad (i:Int) 1)))))) some)=some (.inr b)/\((∃o,b= .inl o/\∀t∈l,Pc t)\/b= .inr (bs [],false)):=by
    rintro k rfl;exact⟨_,rfl,.inr rfl⟩
   have good:∀(o':List Int),Pc l[i]->(∃s',(some (.inl o':(List Int)⊕((List Int×Int)⊕((List Int)⊕((ByteArray×Bool)))))).bind (Sum.elim (λj1=>(bif(decide ((ln j1)>64))then(some (.inr (.inr ((bs []),false))))else(some (.inl (j1,(ad (i:Int) 1)))))) some)=some (.inl (s',((i+1:Nat):Int)))/\s'.length<=64/\∀(j:Nat) t,j<i+1->l[j]?=some t->Pc t)\/∃b,(some (.inl o':(List Int)⊕((List Int×Int)⊕((List Int)⊕((ByteArray×Bool)))))).bind (Sum.elim (λj1=>(bif(decide ((ln j1)>64))then(some (.inr (.inr ((bs []),false))))else(some (.inl (j1,(ad (i:Int) 1)))))) some)=some (.inr b)/\((∃o,b= .inl o/\∀t∈l,Pc t)\/b= .inr (bs [],false)):=by
    intro o' ht;simp only [Aa,B6];by_cases h64:o'.length<=64
    ·rw [Ae (by rw [BW];omega),Ac,ad1 (by omega)];refine .inl ⟨o',rfl,h64,λj t hj a=>?_⟩;by_cases e:j=i
     ·subst e;rw [hg]at a
      injection a with a
      rw [<-a];exact ht
     exact d j t (by omega) a
    rw [Ad (by rw [BW];omega),Af];exact .inr ⟨_,rfl,.inr rfl⟩
   by_cases hb:l[i].Back=0
   ·rw [hb];simp only [show((0:Int)==0)=true from rfl,Af];rw [BM];by_cases hx:(1<=(L l[i].Text).length/\(L l[i].Text).length<=31)/\l[i].Size=0
    ·obtain⟨⟨f,g⟩,c⟩:=hx;rw [Ad (by omega:(1:Int)<=((L l[i].Text).length:Int)),Ad (by omega:((L l[i].Text).length:Int)<=31),c];simp only [H3,Aj,Ac,Aa,show((0:Int) !=0)=false from rfl];rw [Ct (by rw [ZE];omega)];simp only [Aa];exact good _ (.inl ⟨hb,c,f,g⟩)
    by_cases h1:1<=(L l[i].Text).length/\(L l[i].Text).length<=31
    ·have hs:(l[i].Size !=0)=true:=by simp;intro e;exact hx ⟨h1,e⟩
     rw [Ad (by omega:(1:Int)<=((L l[i].Text).length:Int)),Ad (by omega:((L l[i].Text).length:Int)<=31),hs];simp only [H3,Aj,Ac,Af,Aa];exact .inr (bad _ rfl)
    have hd:(decide ((1:Int)<=((L l[i].Text).length:Int))&&decide (((L l[i].Text).length:Int)<=31))=false:=by
     rw [Ea,AX,AX];omega
    rw [hd];simp only [AJ,Af,Aa];exact .inr (bad _ rfl)
   have hb':(l[i].Back==0)=false:=by simpa using hb
   rw [hb'];simp only [Ac];rw [BW,P3,El];by_cases hx:(1<=l[i].Back/\l[i].Back<=(o.length:Int))/\(1<=l[i].Size/\l[i].Size<=31)/\L l[i].Text=[]
   ·obtain⟨⟨y1,y2⟩,⟨y3,y4⟩,y5⟩:=hx;rw [Ad y1,Ad y2,Ad y3,Ad y4,Ad y5];simp only [H3,Aj,Ac,Aa];obtain⟨o',q1,q2⟩:=Bg (body:=λq:List Int×Int=>DU l[i] q.1 q.2) (λ(o:List Int) k=>(o,k)) l[i].Size.toNat (λk u=>u.length=o.length+k) (λ_=>True)
     (λu k hk hu=>by
      simp only [DU];rw [Ad (by omega:(k:Int)<l[i].Size),Af,C4 (by rw [BW];omega) (by rw [BW];omega),BW,Qd (by omega) (by omega)];simp only [Aa];rw [Ct (by simp only [An];omega),ad1 (by omega)]
      exact .inl ⟨_,rfl,by simp only [Ah,An];omega⟩)
     (λu hu=>⟨u,by simp only [DU];rw [Ae (by omega),Ac],trivial⟩) (s:=o) (by omega)
    rw [q1];simp only [Aa];exact good _ (.inr ⟨hb,y3,y4,y5⟩)
   refine .inr ?_
   cases c1:(decide (1<=l[i].Back)&&decide (l[i].Back<=(o.length:Int)))with
   |false=>
    simp only [AJ,Af,Aa];exact bad _ rfl
   |true=>
    simp only [Aj,Ac,Aa]
    cases c2:(decide (1<=l[i].Size)&&decide (l[i].Size<=31))with
    |false=>
     simp only [AJ,Af,Aa];exact bad _ rfl
    |true=>
     simp only [Aj,Ac,Aa];have c3:decide (L l[i].Text=[])=false:=by
      rw [AX];intro e;simp only [Ak,A6]at c1 c2;exact hx ⟨c1,c2,e⟩
     rw [c3];simp only [AJ,Af]
     exact bad _ rfl)
  (λo ho=>⟨_,by simp only [DV,AG,Ap,Av,Ac],.inl ⟨o,rfl,λt ht=>by
   obtain⟨j,hj,rfl⟩:=AF ht
   exact ho.2 j _ hj (Ab hj)⟩⟩) (s:=[]) ⟨by simp,λj t hj=>by omega⟩
 rw [h1]
 rcases h2 with⟨o,rfl,h2⟩|rfl
 ·exact⟨_,true,rfl,λ_=>h2⟩
 exact⟨_,false,rfl,by simp⟩
theorem Vm (c:UInt8):IntKind.i64.wrap (c.toNat:Int)=(c.toNat:Int):=Ns (by omega) (by have:=c.toNat_lt;omega)
theorem Yv (rem:ByteArray) (a:List Bj) (h:0<(L rem).length) (ho:a.length<=1048576) (hr:(L rem).length<=1048576):
  DQ rem a=some (if 128<=(L rem)[0].toNat/\2<=(L rem).length then .inl (rem.extract 2 (L rem).length,a++ [Bj.mk (((L rem)[1]?.getD 0).toNat:Int) (((L rem)[0].toNat:Int)-128) (bs [])])
   else if(L rem)[0].toNat<128/\(L rem)[0].toNat<(L rem).length then .inl (rem.extract (1+(L rem)[0].toNat) (L rem).length,a++ [Bj.mk 0 0 (rem.extract 1 (1+(L rem)[0].toNat))])
   else .inr (.inr ([],false))):=by
 have d:=(L rem)[0].toNat_lt;have b:seq rem (bs [])=false:=by
  rw [P3,El,AX];intro e;rw [e]at h;simp at h
 have c:∀x:Bj,ap 32 a [x]=some (a++ [x]):=λx=>Ct (by simp only [An];omega)
 unfold DQ;rw [b];have s0:sx rem 0=some ((L rem)[0].toNat:Int):=EE rem (i:=0) h;simp only [AJ,Af,s0,Aa,Vm,BM,c];have c0:ad 1 ((L rem)[0].toNat:Int)=((1+(L rem)[0].toNat:Nat):Int):=by rw [C6 (by omega) (by omega)];omega
 rw [c0];by_cases h1:128<=(L rem)[0].toNat
 ·rw [Ad (by omega:((L rem)[0].toNat:Int)>=128),Ae (by omega:¬((L rem)[0].toNat:Int)<128)];simp only [Af,Ac,Aa];by_cases h2:2<=(L rem).length
  ·rw [Ad (by omega:((L rem).length:Int)>=2),Af,Aw ⟨h1,h2⟩];have s1:sx rem 1=some ((L rem)[1].toNat:Int):=EE rem (i:=1) (by omega);have s2:sub rem 2 ((L rem).length:Int)=some (rem.extract 2 (L rem).length):=EZ rem (i:=2) h2 (A3 _);rw [s1,s2,C4 (by omega) (by omega)];simp only [Aa,Vm];rw [Ab (by omega:1<(L rem).length)];rfl
  rw [Ae (by omega:¬((L rem).length:Int)>=2),Ac,Ax (λe=>h2 e.2),Ax (λe=>by omega)]
 rw [Ae (by omega:¬((L rem)[0].toNat:Int)>=128),Ad (by omega:((L rem)[0].toNat:Int)<128),Ax (λe=>h1 e.1)];simp only [Af,Ac,Aa];by_cases h2:(L rem)[0].toNat<(L rem).length
 ·rw [Ad (by omega:((L rem)[0].toNat:Int)<((L rem).length:Int)),Af,Aw ⟨by omega,h2⟩];have s1:sub rem 1 ((1+(L rem)[0].toNat:Nat):Int)=some (rem.extract 1 (1+(L rem)[0].toNat)):=EZ rem (i:=1) (by omega) (by omega);have s2:sub rem ((1+(L rem)[0].toNat:Nat):Int) ((L rem).length:Int)=some (rem.extract (1+(L rem)[0].toNat) (L rem).length):=EZ rem (by omega) (A3 _);rw [s1,s2];rfl
 rw [Ae (by omega:¬((L rem)[0].toNat:Int)<((L rem).length:Int)),Ac,Ax (λe=>h2 e.2)]
theorem VW (rem:ByteArray) (a:List Bj) (h:(L rem).length=0):DQ rem a=some (.inr (.inl a)):=by
 have b:seq rem (bs [])=true:=by
  rw [P3,El,A6];exact A9 h
 unfold DQ;rw [b];rfl
theorem Yt (t:ByteArray) (b:List Bj) (a:Nat) (h:a<(L t).length) (ho:b.length<=1048576) (hr:(L t).length<=1048576):
  Cd t b (a:Int)=some (if 128<(L t)[a].toNat then(if a+2<=(L t).length then .inl (b++ [Bj.mk (((L t)[a+1]?.getD 0).toNat:Int) (((L t)[a].toNat:Int)-128) (bs [])],((a+2:Nat):Int))else .inr (.inr (b,false)))
   else if a+1+(L t)[a].toNat<=(L t).length then .inl (b++ [Bj.mk 0 0 (t.extract (a+1) (a+1+(L t)[a].toNat))],((a+1+(L t)[a].toNat:Nat):Int))
   else .inr (.inr (b,false))):=by
 have d:=(L t)[a].toNat_lt
 have c:∀x:Bj,ap 32 b [x]=some (b++ [x]):=λx=>Ct (by simp only [An];omega)
 have c2:ad (a:Int) 2=((a+2:Nat):Int):=by rw [C6 (by omega) (by omega)];omega
 have c3:ad ((a+1:Nat):Int) ((L t)[a].toNat:Int)=((a+1+(L t)[a].toNat:Nat):Int):=by rw [C6 (by omega) (by omega)];omega
 unfold Cd;rw [BM,Ad (by omega:(a:Int)<((L t).length:Int)),Af,EE t h];simp only [Aa,Vm,c];rw [c2,ad1 (by omega),c3];by_cases h1:128<(L t)[a].toNat
 ·rw [Ad (by omega:((L t)[a].toNat:Int)>128),Af,Aw h1];by_cases h2:a+2<=(L t).length
  ·rw [Ae (by omega:¬((a+2:Nat):Int)>((L t).length:Int)),Ac,Aw h2,EE t (by omega:a+1<(L t).length),C4 (by omega) (by omega)];simp only [Aa,Vm];rw [Ab (by omega:a+1<(L t).length)];rfl
  rw [Ad (by omega:((a+2:Nat):Int)>((L t).length:Int)),Af,Ax h2]
 rw [Ae (by omega:¬((L t)[a].toNat:Int)>128),Ac,Ax h1];by_cases h2:a+1+(L t)[a].toNat<=(L t).length
 ·rw [Ae (by omega:¬((a+1+(L t)[a].toNat:Nat):Int)>((L t).length:Int)),Ac,Aw h2,EZ t (by omega) h2];rfl
 rw [Ad (by omega:((a+1+(L t)[a].toNat:Nat):Int)>((L t).length:Int)),Af,Ax h2]
theorem VV (t:ByteArray) (b:List Bj) (a:Nat) (h:(L t).length<=a):Cd t b (a:Int)=some (.inr (.inl b)):=by
 unfold Cd;rw [BM,Ae (by omega:¬(a:Int)<((L t).length:Int)),Ac]
theorem oT (rem:ByteArray) (a:List Bj) (h:a.length+(L rem).length<=1048576):∃r,Au (λq:ByteArray×List Bj=>DQ q.1 q.2) (rem,a)=some r/\((∃l,r= .inl l/\l.length<=1048576/\∀t∈a,t∈l)\/r= .inr ([],false)):=by
 obtain⟨r,h1,_,h2⟩:=QE (body:=λq:ByteArray×List Bj=>DQ q.1 q.2) (body':=λq:ByteArray×List Bj=>DQ q.1 q.2) (λq=>(L q.1).length) (λq=>q.2.length+(L q.1).length<=1048576/\∀t∈a,t∈q.2) (λr=>(∃l,r= .inl l/\l.length<=1048576/\∀t∈a,t∈l)\/r= .inr ([],false))
  (by
   rintro⟨rem,o⟩ ⟨hl,ho⟩;simp only at hl ho;simp only
   rcases GD (L rem).length with h0|h0
   ·rw [VW rem o h0];exact .inr ⟨_,rfl,rfl,.inl ⟨o,rfl,by omega,ho⟩⟩
   rw [Yv rem o h0 (by omega) (by omega)];split
   ·rename_i hc;refine .inl ⟨_,rfl,rfl,⟨?_,λt ht=>A8 _ (ho t ht)⟩,?_⟩
    ·simp only [Ah,An,HU,AE,B5];omega
    simp only [HU,AE,B5];omega
   split
   ·rename_i hc;refine .inl ⟨_,rfl,rfl,⟨?_,λt ht=>A8 _ (ho t ht)⟩,?_⟩
    ·simp only [Ah,An,HU,AE,B5];omega
    simp only [HU,AE,B5];omega
   exact .inr ⟨_,rfl,rfl,.inr rfl⟩) _ (rem,a) (A3 _) ⟨h,λt ht=>ht⟩
 exact⟨r,h1,h2⟩
theorem oS (t:ByteArray) (b:List Bj) (a:Nat) (ha:a<=(L t).length) (h:b.length<=a) (hr:(L t).length<=1048576):∃r,Au (λq:List Bj×Int=>Cd t q.1 q.2) (b,(a:Int))=some r/\((∃l,r= .inl l/\l.length<=1048576/\∀x∈b,x∈l)\/∃l,r= .inr (l,false)/\l.length<=1048576):=by
 obtain⟨r,h1,_,h2⟩:=QE (body:=λq:List Bj×Int=>Cd t q.1 q.2) (body':=λq:List Bj×Int=>Cd t q.1 q.2) (λq=>(L t).length-q.2.toNat) (λq=>∃a:Nat,q.2=(a:Int)/\a<=(L t).length/\q.1.length<=a/\∀x∈b,x∈q.1) (λr=>(∃l,r= .inl l/\l.length<=1048576/\∀x∈b,x∈l)\/∃l,r= .inr (l,false)/\l.length<=1048576)
  (by
   rintro⟨o,at_⟩ ⟨a,ha,hl,hb,ho⟩;simp only at ha hb ho;subst ha;simp only
   rcases Dd a (L t).length with h0|h0
   ·rw [Yt t o a h0 (by omega) hr];split
    ·split
     ·refine .inl ⟨_,rfl,rfl,⟨a+2,rfl,by omega,by simp only [Ah,An];omega,λt ht=>A8 _ (ho t ht)⟩,by simp only;omega⟩
     exact .inr ⟨_,rfl,rfl,.inr ⟨o,rfl,by omega⟩⟩
    split
    ·refine .inl ⟨_,rfl,rfl,⟨_,rfl,by assumption,by simp only [Ah,An];omega,λt ht=>A8 _ (ho t ht)⟩,by simp only;omega⟩
    exact .inr ⟨_,rfl,rfl,.inr ⟨o,rfl,by omega⟩⟩
   rw [VV t o a h0]
   exact .inr ⟨_,rfl,rfl,.inl ⟨o,rfl,by omega,ho⟩⟩) _ (b,(a:Int)) (A3 _) ⟨a,rfl,ha,h,λt ht=>ht⟩
 exact⟨r,h1,h2⟩
theorem oR (t:ByteArray) (hr:(L t).length<=1048576):∀(n a:Nat) (rem:ByteArray) (d:List Bj),(L t).length-a<=n->a<=(L t).length->L rem=(L t).drop a->d.length<=a->
  ∃ri rs,Au (λq:ByteArray×List Bj=>DQ q.1 q.2) (rem,d)=some ri/\Au (λq:List Bj×Int=>Cd t q.1 q.2) (d,(a:Int))=some rs/\
   ((∃l,ri= .inl l/\rs= .inl l/\l.length<=1048576)\/((ri= .inr ([],false)\/∃l,ri= .inl l/\l.length<=1048576/\∃x∈l,¬Pc x)/\((∃l,rs= .inr (l,false)/\l.length<=1048576)\/∃l,rs= .inl l/\l.length<=1048576/\∃x∈l,¬Pc x))):=by
 intro n
 induction n with
 |zero=>
  intro a rem d h1 h2 h3 h4;have ha:a=(L t).length:=by omega
  have g:(L rem).length=0:=by rw [h3,ha];simp
  refine⟨_,_,by rw [AA];simp only [VW rem d g],by rw [AA];simp only [VV t d a (by omega)],.inl ⟨d,rfl,rfl,by omega⟩⟩
 |succ n ih=>
  intro a rem d h1 h2 h3 h4
  rcases Dd a (L t).length with h0|h0
  ·have o:(L rem).length=(L t).length-a:=by rw [h3];simp
   have h:0<(L rem).length:=by omega
   have i:(L rem)[0]=(L t)[a]:=by simp only [h3];simp
   have j:(L rem)[1]?.getD 0=(L t)[a+1]?.getD 0:=by rw [h3,BK]
   have c:=Yv rem d h (by omega) (by omega);have b:=Yt t d a h0 (by omega) hr
   have f:∀k,L (rem.extract k (L rem).length)=(L t).drop (a+k):=λk=>by
    rw [HU,h3,CB,AO];simp only [B5];omega
   rw [i,j]at c
   rcases RX (L t)[a].toNat 128 with hc|hc|hc
   ·rw [Ax (by omega)]at c;rw [Ax (by omega)]at b;by_cases hk:a+1+(L t)[a].toNat<=(L t).length
    ·rw [Aw (by omega)]at c;rw [Aw hk]at b;obtain⟨ri,rs,q1,q2,q3⟩:=ih (a+1+(L t)[a].toNat) (rem.extract (1+(L t)[a].toNat) (L rem).length) (d++ [Bj.mk 0 0 (t.extract (a+1) (a+1+(L t)[a].toNat))]) (by omega) hk (by rw [f,H1]) (by simp only [Ah,An];omega);have etx:rem.extract 1 (1+(L t)[a].toNat)=t.extract (a+1) (a+1+(L t)[a].toNat):=by
      apply I1;rw [HU,HU,h3,CB];congr 1;omega
     refine⟨ri,rs,?_,?_,q3⟩
     ·rw [AA];simp only [c];rw [etx];exact q1
     rw [AA];simp only [b];exact q2
    rw [Ax (by omega)]at c;rw [Ax hk]at b;exact⟨_,_,by rw [AA];simp only [c],by rw [AA];simp only [b],.inr ⟨.inl rfl,.inl ⟨d,rfl,by omega⟩⟩⟩
   ·
    have hI:∃ri,Au (λq:ByteArray×List Bj=>DQ q.1 q.2) (rem,d)=some ri/\(ri= .inr ([],false)\/∃l,ri= .inl l/\l.length<=1048576/\∃x∈l,¬Pc x):=by
     by_cases hk:2<=(L rem).length
     ·rw [Aw ⟨by omega,hk⟩]at c;obtain⟨r,q1,q2⟩:=oT (rem.extract 2 (L rem).length) (d++ [Bj.mk (((L t)[a+1]?.getD 0).toNat:Int) (((L t)[a].toNat:Int)-128) (bs [])]) (by rw [f];simp only [Ah,An,B5];omega);refine⟨r,by rw [AA];simp only [c];exact q1,?_⟩
      rcases q2 with⟨l,rfl,q3,q4⟩|rfl
      ·refine .inr ⟨l,rfl,q3,_,q4 _ (AI _ (Ay.2 rfl)),?_⟩;intro hk
       rcases hk with⟨_,_,k3,_⟩|⟨_,k2,_⟩
       ·simp only [El,Bk]at k3;omega
       simp only at k2;omega
      exact .inl rfl
     rw [Ax (λe=>hk e.2),Ax (by omega)]at c;exact⟨_,by rw [AA];simp only [c],.inl rfl⟩
    have hS:∃rs,Au (λq:List Bj×Int=>Cd t q.1 q.2) (d,(a:Int))=some rs/\((∃l,rs= .inr (l,false)/\l.length<=1048576)\/∃l,rs= .inl l/\l.length<=1048576/\∃x∈l,¬Pc x):=by
     rw [Ax (by omega)]at b;by_cases hk:a+1+(L t)[a].toNat<=(L t).length
     ·rw [Aw hk]at b;obtain⟨r,q1,q2⟩:=oS t (d++ [Bj.mk 0 0 (t.extract (a+1) (a+1+(L t)[a].toNat))]) (a+1+(L t)[a].toNat) hk (by simp only [Ah,An];omega) hr;refine⟨r,by rw [AA];simp only [b];exact q1,?_⟩
      rcases q2 with⟨l,rfl,q3,q4⟩|⟨l,rfl,q3⟩
      ·refine .inr ⟨l,rfl,q3,_,q4 _ (AI _ (Ay.2 rfl)),?_⟩;intro m
       rcases m with⟨_,_,_,k4⟩|⟨k1,_⟩
       ·simp only [HU,AE,B5]at k4;omega
       exact k1 rfl
      exact .inl ⟨l,rfl,q3⟩
     rw [Ax hk]at b;exact⟨_,by rw [AA];simp only [b],.inl ⟨d,rfl,by omega⟩⟩
    obtain⟨ri,q1,q2⟩:=hI;obtain⟨rs,q3,q4⟩:=hS;exact⟨ri,rs,q1,q3,.inr ⟨q2,q4⟩⟩
   rw [Aw hc]at b;by_cases hk:a+2<=(L t).length
   ·rw [Aw ⟨by omega,by omega⟩]at c;rw [Aw hk]at b;obtain⟨ri,rs,q1,q2,q3⟩:=ih (a+2) (rem.extract 2 (L rem).length) (d++ [Bj.mk (((L t)[a+1]?.getD 0).toNat:Int) (((L t)[a].toNat:Int)-128) (bs [])]) (by omega) hk (f 2) (by simp only [Ah,An];omega);exact⟨ri,rs,by rw [AA];simp only [c];exact q1,by rw [AA];simp only [b];exact q2,q3⟩
   rw [Ax (by omega),Ax (by omega)]at c;rw [Ax hk]at b;exact⟨_,_,by rw [AA];simp only [c],by rw [AA];simp only [b],.inr ⟨.inl rfl,.inl ⟨d,rfl,by omega⟩⟩⟩
  have ha:a=(L t).length:=by omega
  have g:(L rem).length=0:=by rw [h3,ha];simp
  refine⟨_,_,by rw [AA];simp only [VW rem d g],by rw [AA];simp only [VV t d a (by omega)],.inl ⟨d,rfl,rfl,by omega⟩⟩
theorem pV (t:ByteArray) (hr:(L t).length<=1048576):∃li oi ls os pi ki ps ks,RF t=some (li,oi)/\Jd t=some (ls,os)/\QK li=some (pi,ki)/\Fu ls=some (ps,ks)/\((oi=os/\pi=ps/\ki=ks)\/((oi=false\/ki=false)/\(os=false\/ks=false))):=by
 obtain⟨ri,rs,q1,q2,q3⟩:=oR t hr ((L t).length) 0 t [] (by omega) (by omega) (by simp) (by simp);have e0:(([]:List Bj),((0:Nat):Int))=([],0):=rfl;simp only [e0]at q2;unfold RF Jd;rw [q1,q2,bX];have none:∀l:List Bj,l.length<=1048576->(∃x∈l,¬Pc x)->∃p,Fu l=some (p,false):=by
  rintro l hl ⟨x,hx,hn⟩;obtain⟨p,ok,h1,h2⟩:=OX l hl
  cases ok with
  |false=>exact⟨p,h1⟩
  |true=>exact absurd (h2 rfl x hx) hn
 rcases q3 with⟨l,rfl,rfl,hl⟩|⟨hi,hs⟩
 ·obtain⟨p,ok,h1,_⟩:=OX l hl;exact⟨l,true,l,true,p,ok,p,ok,rfl,rfl,h1,h1,.inl ⟨rfl,rfl,rfl⟩⟩
 have hI:∃li oi pi ki,(some ri).bind (Sum.elim (λv1=>(some (v1,true))) some)=some (li,oi)/\Fu li=some (pi,ki)/\(oi=false\/ki=false):=by
  rcases hi with rfl|⟨l,rfl,hl,hb⟩
  ·obtain⟨p,ok,h1,_⟩:=OX [] (by simp);exact⟨[],false,p,ok,rfl,h1,.inl rfl⟩
  obtain⟨p,h1⟩:=none l hl hb;exact⟨l,true,p,false,rfl,h1,.inr rfl⟩
 have hS:∃li oi pi ki,(some rs).bind (Sum.elim (λv1=>(some (v1,true))) some)=some (li,oi)/\Fu li=some (pi,ki)/\(oi=false\/ki=false):=by
  rcases hs with⟨l,rfl,hl⟩|⟨l,rfl,hl,hb⟩
  ·obtain⟨p,ok,h1,_⟩:=OX l hl;exact⟨l,false,p,ok,rfl,h1,.inl rfl⟩
  obtain⟨p,h1⟩:=none l hl hb;exact⟨l,true,p,false,rfl,h1,.inr rfl⟩
 obtain⟨li,oi,pi,ki,a1,a2,a3⟩:=hI;obtain⟨ls,os,ps,ks,b1,b2,b3⟩:=hS;exact⟨li,oi,ls,os,pi,ki,ps,ks,a1,b1,a2,b2,.inr ⟨a3,b3⟩⟩
theorem Yj (t:ByteArray) (hr:(L t).length<=1048576):∃u ok,FD t=some (u,ok)/\SS t=some (u,ok)/\(ok=false->u=bs [])/\(ok=true->(L u).length<=64):=by
 unfold FD SS;rw [BM,P3,El];by_cases h0:L t=[]
 ·rw [h0];exact⟨_,false,rfl,rfl,by simp,by simp⟩
 have a:0<(L t).length:=by
  rcases GD (L t).length with h|h
  ·exact absurd (A9 h) h0
  exact h
 have e1:(((L t).length:Int)==0)=false:=by simp;exact h0
 rw [e1,Ae h0,Ac,Ac];have s1:sub t 1 ((L t).length:Int)=some (t.extract 1 (L t).length):=EZ t (i:=1) (by omega) (A3 _);have s0:sx t 0=some ((L t)[0].toNat:Int):=EE t (i:=0) a;rw [s1,s0];simp only [Aa];generalize hx:t.extract 1 (L t).length=x;have b:(L x).length<=1048576:=by rw [<-hx,HU];simp;omega
 obtain⟨li,oi,ls,os,pi,ki,ps,ks,a1,a2,a3,a4,a5⟩:=pV x b;rw [a1,a2];simp only [Aa];rw [a3,a4];simp only [Aa];have back:∀j:ByteArray,∃u ok,((E7 j).bind λv3=>(bif(!v3.2)then(some true)else(some (!(seq v3.1 t))):Option (Bool)).bind λj2=>bif j2 then(some ((bs []),false))else(some (j,true)):Option (ByteArray×Bool))=some (u,ok)/\
   ((OG j).bind λv3=>(bif(!v3.2)then(some true)else(some (!(seq v3.1 t))):Option (Bool)).bind λj2=>bif j2 then(some ((bs []),false))else(some (j,true)):Option (ByteArray×Bool))=some (u,ok)/\(ok=false->u=bs [])/\(ok=true->(L u).length<=64/\((L t)[0].toNat=122\/(L t)[0].toNat=114)):=by
  intro j;obtain⟨z,ok,p1,p2,p3,p4⟩:=fW j;rw [p1,p2];simp only [Aa]
  cases ok with
  |false=>exact⟨_,false,rfl,rfl,by simp,by simp⟩
  |true=>
   simp only [Aj,Ac,Aa]
   cases hz:seq z t with
   |false=>exact⟨_,false,rfl,rfl,by simp,by simp⟩
   |true=>
    have c:z=t:=by rw [Kc,A6]at hz;exact hz
    obtain⟨p5,p6⟩:=p4 rfl;refine⟨_,true,rfl,rfl,by simp,λ_=>⟨p5,?_⟩⟩;rw [c,Ab a]at p6
    rcases p6 with p6|p6
    ·injection p6 with p6;left;rw [p6];rfl
    injection p6 with p6;right;rw [p6];rfl
 by_cases h122:(L t)[0].toNat=122
 ·have c1:((((L t)[0].toNat:Nat):Int)==122)=true:=by simp [h122]
  have c2:((((L t)[0].toNat:Nat):Int) !=114)=true:=by simp [h122]
  rw [c1,c2];simp only [Af]
  rcases a5 with⟨rfl,rfl,rfl⟩|⟨hi,hs⟩
  ·cases oi with
   |false=>exact⟨_,false,rfl,rfl,by simp,by simp⟩
   |true=>
    cases ki with
    |false=>exact⟨_,false,rfl,rfl,by simp,by simp⟩
    |true=>
     simp only [Aj,Ac,Aa,B6];obtain⟨u,ok,b1,b2,b3,b4⟩:=back pi;exact⟨u,ok,b1,b2,b3,λh=>(b4 h).1⟩
  refine⟨bs [],false,?_,?_,by simp,by simp⟩
  ·rcases hs with rfl|rfl
   ·rfl
   cases os<;>rfl
  rcases hi with rfl|rfl
  ·rfl
  cases oi<;>rfl
 have c1:((((L t)[0].toNat:Nat):Int)==122)=false:=by simp;omega
 rw [c1];simp only [Ac,Aa,B6];by_cases h114:(L t)[0].toNat=114
 ·have c2:((((L t)[0].toNat:Nat):Int) !=114)=false:=by simp [h114]
  rw [c2];simp only [Ac,Aa,B6];obtain⟨u,ok,b1,b2,b3,b4⟩:=back x;exact⟨u,ok,b1,b2,b3,λh=>(b4 h).1⟩
 have c2:((((L t)[0].toNat:Nat):Int) !=114)=true:=by simp;omega
 rw [c2];simp only [Af];have nope:∀(j u:ByteArray) (ok:Bool),(ok=true->(L u).length<=64/\((L t)[0].toNat=122\/(L t)[0].toNat=114))->ok=false:=by
  intro j u ok d
  cases ok with
  |false=>rfl
  |true=>rcases(d rfl).2 with h|h<;>omega
 obtain⟨u,ok,b1,b2,b3,b4⟩:=back x;have k1:=nope x u ok b4;subst k1;have k2:=b3 rfl;subst k2;refine⟨bs [],false,b1,?_,by simp,by simp⟩
 cases oi with
 |false=>rfl
 |true=>
  cases ki with
  |false=>rfl
  |true=>
   simp only [Aj,Ac,Aa,B6];obtain⟨u,ok,d1,d2,d3,d4⟩:=back pi;have k1:=nope pi u ok d4;subst k1;have k2:=d3 rfl;subst k2;exact d2
def jC (a:Arena):Prop:=a.Knots.length<=1048576
theorem lQ (x a b:Int):BY x a b=some (decide (a<=x/\x<=b)):=by
 rw [WQ];congr 1;rw [Ee];simp
theorem Tw (a:Arena):Ir a=Gt a:=by
 unfold Ir Gt;have hb:LI a=DX a:=by
  funext y;unfold LI DX
  cases decide (y<ln a.Knots)with
  |false=>rfl
  |true=>
   simp only [Af]
   cases gi a.Knots y with
   |none=>rfl
   |some k=>
    simp only [Aa]
    cases h:(ln k.Kids !=4)with
    |true=>rfl
    |false=>
     simp only [Ac];have h4:ln k.Kids=4:=by simpa using h
     have:(λs:Int=>LH a y k s)=λs:Int=>DW a y k s:=by
      funext s;unfold LH DW;rw [h4,eZ]
     rw [this]
 rw [hb]
def PT (a:Arena) (i:Nat) (k:BI) (n:Int):Prop:=if k.Leaf=true then 0<=n else n= -1\/(0<=n/\n<i/\∃k',gi a.Knots n=some k'/\k'.Leaf=true)
theorem j8 (a:Arena) (ha:jC a):∃v,Gt a=some v/\(v=true->∀(i:Nat) k,a.Knots[i]?=some k->k.Kids.length=4/\∀n∈k.Kids,PT a i k n):=by
 unfold jC at ha;unfold Gt;obtain⟨r,h1,h2⟩:=Bg (body:=λs:Int=>DX a s) (λ(_:Unit) i=>i) a.Knots.length (λi _=>∀(j:Nat) k,j<i->a.Knots[j]?=some k->k.Kids.length=4/\∀n∈k.Kids,PT a j k n) (λr=>r= .inr false\/r= .inl ()/\∀(i:Nat) k,a.Knots[i]?=some k->k.Kids.length=4/\∀n∈k.Kids,PT a i k n)
  (λ_ i hi hs=>by
   obtain⟨k,hk⟩:∃k,a.Knots[i]?=some k:=⟨_,Ab hi⟩;simp only [DX,AG,Ad hi,Af,AB,hk,Aa];by_cases h4:k.Kids.length=4
   ·have e1:(ln k.Kids !=4)=false:=by simp [ln,h4]
    simp only [e1,Ac];obtain⟨r,q1,q2⟩:=Bg (body:=λs:Int=>DW a (i:Int) k s) (λ(_:Unit) j=>j) 4 (λj _=>∀(m:Nat) n,m<j->k.Kids[m]?=some n->PT a i k n) (λr=>r= .inr (.inr (.inr false))\/r= .inl ()/\∀n∈k.Kids,PT a i k n)
     (λ_ j hj d=>by
      obtain⟨n,hn⟩:∃n,k.Kids[j]?=some n:=⟨_,Ab (by omega)⟩;simp only [DW];rw [Ad (by omega:(j:Int)<4),Af,AB,hn];simp only [Aa]
      have good:PT a i k n->(∃s':Unit,(bif false then(some (.inr (.inr (.inr (.inr false)))))else(some (.inl (ad (j:Int) 1))):Option ((Int)⊕((Unit)⊕((Int)⊕((Unit)⊕(Bool))))))=some (.inl ((j+1:Nat):Int))/\∀(m:Nat) n,m<j+1->k.Kids[m]?=some n->PT a i k n):=λf=>by
       refine⟨(),by rw [Ac,ad1 (by omega)],λm n' hm b=>?_⟩;by_cases e:m=j
       ·subst e;rw [hn]at b
        injection b with b
        rw [<-b];exact f
       exact d m n' (by omega) b
      cases hl:k.Leaf with
      |true=>
       simp only [Af,Aj,Ac];by_cases h0:n<0
       ·rw [Ad h0,Af];exact .inr ⟨_,rfl,.inl rfl⟩
       rw [Ae h0,Ac];simp only [Aa];exact .inl (good (by unfold PT;rw [Aw hl];omega))
      |false=>
       simp only [Ac,AJ,Af];by_cases h1:n= -1
       ·have:(n != -1)=false:=by simp [h1]
        rw [this];simp only [Ac,Aa];exact .inl (good (by unfold PT;rw [Ax (by rw [hl];simp)];exact .inl h1))
       have:(n != -1)=true:=by simp [h1]
       rw [this];simp only [Af];rw [C4 (by omega) (by omega),lQ];simp only [Aa];by_cases h2:0<=n/\n<=(i:Int)-1
       ·rw [Ad h2];simp only [Aj,Ac];rw [Qd h2.1 (by omega)];simp only [Aa]
        cases g:(a.Knots[n.toNat]'(by omega)).Leaf with
        |true=>
         simp only [Aj];refine .inl (good ?_);unfold PT;rw [Ax (by rw [hl];simp)];exact .inr ⟨h2.1,by omega,_,Qd h2.1 (by omega),g⟩
        |false=>
         simp only [AJ,Af];exact .inr ⟨_,rfl,.inl rfl⟩
       rw [Ae h2];simp only [AJ,Af,Aa]
       exact .inr ⟨_,rfl,.inl rfl⟩)
     (λ_ d=>⟨_,by simp only [DW];rw [Ae (by omega:¬((4:Nat):Int)<4),Ac],.inr ⟨rfl,λn hn=>by
      obtain⟨m,hm,rfl⟩:=AF hn
      exact d m _ (by omega) (Ab hm)⟩⟩) (s:=()) (λm n hm=>by omega)
    have q1':Au (λs:Int=>DW a (i:Int) k s) 0=some r:=q1;rw [q1']
    rcases q2 with rfl|⟨rfl,q2⟩
    ·exact .inr ⟨_,rfl,.inl rfl⟩
    simp only [Aa,B6];rw [ad1 (by omega)];refine .inl ⟨(),rfl,λj k' hj c=>?_⟩;by_cases e:j=i
    ·subst e;rw [hk]at c
     injection c with c
     rw [<-c];exact⟨h4,q2⟩
    exact hs j k' (by omega) c
   have e1:(ln k.Kids !=4)=true:=by simp [ln];omega
   simp only [e1,Af]
   exact .inr ⟨_,rfl,.inl rfl⟩)
  (λ_ hs=>⟨_,by simp only [DX,AG,Ap,Av,Ac],.inr ⟨rfl,λi k hk=>hs i k (Ag.1 hk).1 hk⟩⟩) (s:=()) (λj k hj=>by omega)
 have h1':Au (λs:Int=>DX a s) 0=some r:=h1;rw [h1']
 rcases h2 with rfl|⟨rfl,h2⟩
 ·exact⟨_,rfl,by simp⟩
 exact⟨_,rfl,λ_=>h2⟩
theorem sO (a:Arena) (ha:jC a) (root:Int) (s:Nat) (hs:s<16):∃v,Oo a root (s:Int)=some v/\V9 a root (s:Int)=some v:=by
 have f:a.Knots.length<=1048576:=ha;obtain⟨ok,h1,h2⟩:=j8 a ha;unfold Oo V9;rw [Tw,h1,eZ];simp only [Aa,lQ];rw [Ad (by omega:(0:Int)<=(s:Int)/\(s:Int)<=15)];simp only [Aj,Ac,Aa];have d:∃b,Gw a root=some b/\Hc a root=some (b||root== -1)/\(b=true->0<=root/\∃k,gi a.Knots root=some k/\k.Leaf=false):=by
  unfold Gw Hc;rw [eZ,C4 (by rw [BW];omega) (by rw [BW];omega),BW,lQ];simp only [Aa];by_cases hr:0<=root/\root<=(a.Knots.length:Int)-1
  ·have e1:(root== -1)=false:=by simp;omega
   rw [Ad hr,e1];simp only [Af,Ac,NU];rw [Qd hr.1 (by omega)];exact⟨_,rfl,rfl,λhb=>⟨hr.1,_,rfl,by simpa using hb⟩⟩
  rw [Ae hr];simp only [Ac];refine⟨false,rfl,?_,by simp⟩;cases root== -1<;>rfl
 obtain⟨b,r1,r2,r3⟩:=d;rw [r1,r2];simp only [Aa]
 cases ok with
 |false=>
  simp only [AJ,Af,Aa];cases b<;>exact⟨0,rfl,rfl⟩
 |true=>
  simp only [Aj,Ac]
  cases b with
  |false=>
   simp only [Tv,AJ,Af,Aa]
   cases hm:(root== -1)with
   |false=>exact⟨0,rfl,rfl⟩
   |true=>
    have hr:root= -1:=by simpa using hm
    simp only [Aj,Ac,Aa,Mf,hr];rw [Ad (by omega:(-1:Int)<0)];exact⟨0,rfl,rfl⟩
  |true=>
   obtain⟨hr,k,hk,hl⟩:=r3 rfl;simp only [Bool.true_or,Aj,Ac,Aa,Mf,RG,hk];rw [Ae (by omega:¬root<0),Ac];obtain⟨g1,g2⟩:=DK hk;obtain⟨k4,kk⟩:=h2 rfl root.toNat k g2;have eq4:qu (s:Int) 4=((s/4:Nat):Int):=by
    unfold qu;rw [show Int.tdiv (s:Int) 4=((s/4:Nat):Int)from rfl,Ns (by omega) (by omega)]
   have em:Int.tmod (s:Int) 4=((s %4:Nat):Int):=rfl;rw [eq4,em,Qd (by omega) (by omega)];simp only [Aa,Bc];have e:k.Kids[s/4]'(by omega)∈k.Kids:=AC _;have c:=kk _ e;unfold PT at c;rw [Ax (by rw [hl];simp)]at c
   rcases c with c|⟨c1,c2,k',c3,c4⟩
   ·rw [c,Ad (by omega:(-1:Int)<0)];exact⟨0,rfl,rfl⟩
   rw [Ae (by omega),Ac,c3];simp only [Aa];obtain⟨g3,g4⟩:=DK c3;obtain⟨k4',_⟩:=h2 rfl _ k' g4;rw [Qd (by omega) (by omega)];exact⟨_,rfl,rfl⟩
theorem f8 (a:Arena) (ha:jC a) (root:Int):∃l,IN a root=some l/\QN a root=some l/\l.length=16:=by
 unfold IN QN;obtain⟨l,h1,h2,h3⟩:=SI (body:=λs:List Int×Int=>GQ a root s.1 s.2) (body':=λs:List Int×Int=>M0 a root s.1 s.2) (λ(o:List Int) i=>(o,i)) (λ(o:List Int) i=>(o,i)) 16 (λi o=>o.length=i) (λo=>o.length=16)
  (λo i hi ho=>by
   obtain⟨v,g1,g2⟩:=sO a ha root i hi;simp only [GQ,M0];rw [Ad (by omega:(i:Int)<16),Af,Af,g1,g2];simp only [Aa];rw [Ct (by simp only [An];omega),ad1 (by omega)]
   exact .inl ⟨_,rfl,rfl,by simp only [Ah,An];omega⟩)
  (λo ho=>⟨o,by simp only [GQ];rw [Ae (by omega:¬((16:Nat):Int)<16),Ac],by simp only [M0];rw [Ae (by omega:¬((16:Nat):Int)<16),Ac],ho⟩) (s:=[]) rfl
 rw [h1,h2];exact⟨l,rfl,rfl,h3⟩
def bG:A4:=A4.mk 0 0 (Page.mk 0 0 0 0 0 (bs []))
def LD (c:Int) (y:A4):Bool:=y.Page.Kind==1&&y.Page.Tx==c
def u0 (r:List A4) (o:Option Nat):A4:=match o with
 |some j=>r[j]?.getD bG
 |none=>bG
def eD (c:Int) (r:List A4) (n:Nat) (o:Option Nat):Prop:=match o with
 |none=>∀(k:Nat) y,k<n->r[k]?=some y->LD c y=false
 |some j=>j<n/\(∃y,r[j]?=some y/\LD c y=true)/\∀(k:Nat) y,j<k->k<n->r[k]?=some y->LD c y=false
theorem nC (r:List A4) (hr:r.length<=1048576) (c:Int):∃o,KL r c=some (u0 r o,o.isSome)/\eD c r r.length o:=by
 unfold KL;rw [C4 (by rw [BW];omega) (by rw [BW];omega),BW];obtain⟨b,h1,h2⟩:=Bg (body:=λs:Int=>H8 r c s) (λ(_:Unit) i=>(r.length:Int)-1-i) r.length (λi _=>∀(k:Nat) y,r.length-i<=k->k<r.length->r[k]?=some y->LD c y=false) (λb=>(b= .inl ()/\eD c r r.length none)\/∃j,b= .inr (u0 r (some j),true)/\eD c r r.length (some j))
  (λ_ i hi hs=>by
   have e1:((r.length:Int)-1-(i:Int))=((r.length-1-i:Nat):Int):=by omega
   have a:r.length-1-i<r.length:=by omega
   have hg:r[r.length-1-i]?=some r[r.length-1-i]:=Ab a;simp only [H8,e1];rw [Ad (by omega:((r.length-1-i:Nat):Int)>=0),Af];simp only [AB,hg,Aa]
   have next:LD c r[r.length-1-i]=false->∃s':Unit,(some (.inl (sb ((r.length-1-i:Nat):Int) 1)):Option ((Int)⊕((Unit)⊕((A4×Bool)))))=some (.inl ((r.length:Int)-1-((i+1:Nat):Int)))/\∀(k:Nat) y,r.length-(i+1)<=k->k<r.length->r[k]?=some y->LD c y=false:=λd=>by
    refine⟨(),by rw [C4 (by omega) (by omega)];congr 2;omega,λk y h1 h2 h3=>?_⟩;by_cases e:k=r.length-1-i
    ·subst e;rw [hg]at h3
     injection h3 with h3
     rw [<-h3];exact d
    exact hs k y (by omega) h2 h3
   cases hk:r[r.length-1-i].Page.Kind==1 with
   |false=>
    simp only [Ac,Aa];exact .inl (next (by unfold LD;rw [hk];rfl))
   |true=>
    simp only [Af,Aa]
    cases ht:r[r.length-1-i].Page.Tx==c with
    |false=>
     simp only [Ac];exact .inl (next (by unfold LD;rw [ht,Bool.and_false]))
    |true=>
     simp only [Af];refine .inr ⟨_,rfl,.inr ⟨r.length-1-i,?_,a,⟨_,hg,by unfold LD;rw [hk,ht];rfl⟩,λk y h1 h2 h3=>hs k y (by omega) h2 h3⟩⟩
     simp only [u0,hg,BA])
  (λ_ hs=>⟨_,by simp only [H8];rw [Ae (by omega),Ac],.inl ⟨rfl,λk y h1 h2=>hs k y (by omega) h1 h2⟩⟩) (s:=()) (λk y h1 h2=>by omega)
 have e0:((r.length:Int)-1-0)=(r.length:Int)-1:=by omega
 rw [e0]at h1;rw [h1]
 rcases h2 with⟨rfl,h2⟩|⟨j,rfl,h2⟩
 ·exact⟨none,rfl,h2⟩
 exact⟨some j,rfl,h2⟩
theorem pW {y:A4} (hT:∀b∈f.Blocks,∀x∈b.Leaves,(L x.Text).length<=1048576) (h:PU f y):(L y.Page.Text).length<=90:=by
 obtain⟨b,x,h1,h2,_,h3⟩:=h;obtain⟨_,g1⟩:=DK h1;obtain⟨_,g2⟩:=DK h2;obtain⟨p,ok,k1,_,_,k2⟩:=Jv x.Text (by have:=hT b (A7 g1) x (A7 g2);omega);rw [h3]at k1
 injection k1 with k1
 injection k1 with k1 k3
 have hp:=k2 k3.symm;obtain⟨v,q1,_,q2⟩:=Ug p;rw [hp]at q1
 injection q1 with q1
 obtain⟨_,_,_,_,_,q3⟩:=q2 q1.symm;rw [k1];rw [BM]at q3;omega
structure vG (f:Flash) (r:List A4):Prop where
 s:Ft f=some r
 i:Jq f=some r
 len:r.length<=1048576
 page:∀y∈r,PU f y
 text:∀y∈r,(L y.Page.Text).length<=90
 Ri:Ri BQ r
theorem WR (x a b:Int):IE x a b=some (decide (a<=x/\x<=b)):=by
 unfold IE;by_cases h:x>=a
 ·rw [Ad h,Af];by_cases h2:x<=b
  ·rw [Ad h2,Ad ⟨h,h2⟩]
  rw [Ae h2,Ae λhh=>h2 hh.2]
 rw [Ae h,Ac,Ae λhh=>h hh.1]
theorem Le (h:l.length<=1048576):HM l=some l:=by
 unfold HM;rw [Ky (by omega)];rfl
theorem Qb (a:Arena) (h:rV a.Knots):HO a=some a:=by
 unfold HO;have q:=SJ (body:=λs:Int×List BI=>HN a s.1 s.2) a.Knots (λk=>k)
  (λi x b hx ho=>by
   have hi:=(Ag.1 hx).1;have hk:=h.2 x (A7 hx);simp only [HN,AG,Ad hi,Af,AB,hx,Aa];rw [Le hk];simp only [Aa];have:=h.1;rw [Ct (by simp;omega),ad1 (by omega)]
   rfl)
  (λb=>by simp only [HN,AG,Ap,Av,Ac])
 rw [q];simp
theorem PY (s:Store) (h:rV s.Arena.Knots) (hv:s.Vols.length<=1048576):HL s=some s:=by
 unfold HL;rw [Ky (by omega),Qb _ h];rfl
theorem OK (a:Arena) (ha:a.Knots.length<=1048576):Ir a=some (CU a.Knots):=by rw [Tw,JE a ha]
theorem PX (a:Arena) (ha:a.Knots.length<=1048576) (r:Int):Gw a r=some (decide (0<=r/\r<(a.Knots.length:Int))&&!(BD a.Knots r).Leaf):=by
 unfold Gw;rw [WR,BW,C4 (by omega) (by omega)];simp only [Aa];by_cases h:0<=r/\r<(a.Knots.length:Int)
 ·rw [Ad (by omega:0<=r/\r<=(a.Knots.length:Int)-1),Ad h,Af,Hy h.1 h.2];simp
 rw [Ae (by omega:¬(0<=r/\r<=(a.Knots.length:Int)-1)),Ae h,Ac];simp
theorem d7 {a:Arena} (ha:a.Knots.length<=1048576) (hr:D6 a.Knots r=true):(bif(r !=(-1))then((Gw a r).bind λv2=>some (!v2))else(some false):Option Bool)=some false:=by
 rcases Ck hr with rfl|⟨h0,h1,hl⟩
 ·rfl
 rw [show(r !=(-1))=true by simp;omega,Af,PX a ha,Ad ⟨h0,h1⟩,hl];rfl
theorem iR {s:Nat} (a:Arena) (ha:a.Knots.length<=1048000) (hK:CU a.Knots=true) (hr:D6 a.Knots r=true) (hs:s<16) (hn:0<=n):
  V8 a r (s:Int) n=some (Arena.mk (IA a.Knots r s n),(a.Knots.length:Int)+1):=by
 unfold V8;rw [Qb _ (KI hK (by omega)),OK a (by omega),WR,hK];simp only [Aa,Aj,Ac];rw [Ad (by omega:0<=(s:Int)/\(s:Int)<=15),Ae (by omega:¬n<0)];simp only [Aj,Ac,Aa];have hq:(bif(r !=(-1))then((Gw a r).bind λv2=>bif(!v2)then(some true)else(some false))else(some false):Option Bool)=some false:=by
  rcases Ck hr with rfl|⟨h0,h1,hl⟩
  ·rfl
  rw [show(r !=(-1))=true by simp;omega,Af,PX a (by omega),Ad ⟨h0,h1⟩,hl];rfl
 rw [hq,mk4];simp only [Aa,Ac];have fin:∀(lf tp:List Int),lf.length=4->tp.length=4->IA a.Knots r s n=a.Knots++ [BI.mk true (lf.set (s %4) n),BI.mk false (tp.set (s/4) (a.Knots.length:Int))]->
   ((gi lf (Int.tmod (s:Int) 4)).bind λx4=>(gi tp (qu (s:Int) 4)).bind λx5=>(ap 32 a.Knots [(BI.mk true (si lf (Int.tmod (s:Int) 4) n)),(BI.mk false (si tp (qu (s:Int) 4) (ln a.Knots)))]).bind λq2=>some ((Arena.mk q2),(ad (ln a.Knots) 1)))=some (Arena.mk (IA a.Knots r s n),(a.Knots.length:Int)+1):=by
  intro lf tp h1 h2 h3;rw [wW hs,oU,AB,AB,Ab (by omega),Ab (by omega)];simp only [Aa];rw [Ct (by simp;omega),E6,E6,BW,<-h3,ad1 (by omega)];rfl
 rcases Ck hr with rfl|⟨h0,h1,hl⟩
 ·rw [Ae (by omega:¬(-1:Int)>=0)];simp only [Ac,Aa];have hx:gi [(-1:Int),(-1),(-1),(-1)] (qu (s:Int) 4)=some (-1):=by
   rw [wW hs,AB];have:s/4<4:=by omega
   match s/4,this with
   |0,_=>rfl
   |1,_=>rfl
   |2,_=>rfl
   |3,_=>rfl
   |n+4,h=>omega
  rw [hx];simp only [Aa];rw [Ae (by omega:¬(-1:Int)>=0)];simp only [Ac,Aa];have:=fin [0,0,0,0] [(-1),(-1),(-1),(-1)] rfl rfl rfl;rw [hx]at this;exact this
 rw [Ad (by omega:r>=0),Af,Hy h0 h1];have h4:=(ES hK h0 h1).1;simp only [Aa];rw [Le (by omega)];simp only [Aa];have hx:gi (BD a.Knots r).Kids (qu (s:Int) 4)=some (JQ (BD a.Knots r) (s/4)):=by rw [wW hs,eS (by omega:s/4<(BD a.Knots r).Kids.length)]
 rw [hx];simp only [Aa]
 rcases FI hK h0 h1 hl (show s/4<4 by omega)with e|⟨e1,e2,e3⟩
 ·rw [Ae (by omega:¬JQ (BD a.Knots r) (s/4)>=0)];simp only [Ac,Aa];have:=fin [0,0,0,0] (BD a.Knots r).Kids rfl h4 (by unfold IA MP QZ;simp only [Ax (show¬r<0 by omega),Aw (show JQ (BD a.Knots r) (s/4)<0 by omega)]);rw [hx]at this;exact this
 rw [Ad (by omega:JQ (BD a.Knots r) (s/4)>=0),Af,Hy e1 (by omega)];have h5:=(ES hK e1 (by omega)).1;simp only [Aa];rw [Le (by omega)];simp only [Aa];have:=fin (BD a.Knots (JQ (BD a.Knots r) (s/4))).Kids (BD a.Knots r).Kids h5 h4 (by unfold IA MP QZ;simp only [Ax (show¬r<0 by omega),Ax (show¬JQ (BD a.Knots r) (s/4)<0 by omega)]);rw [hx]at this;exact this
theorem VB (l:List Int) (n:Int) (hl:l.length<=1048576):My l n=some (l.contains n):=by
 unfold My;obtain⟨b,h1,h2⟩:=Bg (body:=λs:Int=>Jp l n s) (λ(_:Unit) i=>i) l.length (λi _=>n∉l.take i) (λb=>(b= .inr true/\n∈l)\/(b= .inl ()/\n∉l))
  (λ_ i hi hs=>by
   have hx:=Ab hi;simp only [Jp,AG,Ad hi,Af,AB,hx,Aa];rw [ad1 (by omega)]
   cases e:(l[i]==n)with
   |true=>exact .inr ⟨_,rfl,.inl ⟨rfl,by
    have e2:l[i]=n:=by simpa using e
    rw [<-e2]
    exact AC hi⟩⟩
   |false=>
    refine .inl ⟨(),by simp only [Ac],?_⟩;rw [Aq hi,Ai,Ay];rintro(h|h)
    ·exact hs h
    rw [h]at e;simp at e)
  (λ_ hs=>⟨.inl (),by simp only [Jp,AG,Ap,Av,Ac],.inr ⟨rfl,by rw [AP]at hs;exact hs⟩⟩) (s:=()) (by simp)
 have h1':Au (λs:Int=>Jp l n s) 0=some b:=h1;rw [h1']
 rcases h2 with⟨rfl,h⟩|⟨rfl,h⟩
 ·simp [h]
 simp [h]
theorem SP (a:Arena) (ha:a.Knots.length<=1048000) (hK:CU a.Knots=true) (hr:D6 a.Knots r=true):∃l,ND a r=some l/\l.length<=5/\∀i:Nat,(i:Int)∈l↔M1 a.Knots r i=true:=by
 unfold ND;rw [PX a (by omega)];simp only [Aa]
 rcases Ck hr with rfl|⟨h0,h1,hl⟩
 ·rw [Ae (by omega:¬((0:Int)<= -1/\(-1:Int)<(a.Knots.length:Int)))];exact⟨[],rfl,by simp,λi=>by simp [M1]⟩
 rw [Ad ⟨h0,h1⟩,hl,Hy h0 h1];simp only [AJ,H3,Aj,Ac,Aa];obtain⟨h4,hk⟩:=ES hK h0 h1;obtain⟨l,q1,q2,q3⟩:=Bg (body:=λs:List Int×Int=>JJ a (BD a.Knots r) s.1 s.2) (λ(o:List Int) i=>(o,i)) (BD a.Knots r).Kids.length
  (λi o=>o.length<=1+i/\∀n:Nat,(n:Int)∈o↔(r=(n:Int)\/(n:Int)∈(BD a.Knots r).Kids.take i)) (λo=>o.length<=5/\∀n:Nat,(n:Int)∈o↔(r=(n:Int)\/(n:Int)∈(BD a.Knots r).Kids))
  (λo i hi ho=>by
   obtain⟨o1,o2⟩:=ho;have hx:=Ab hi;have et:(BD a.Knots r).Kids.take (i+1)=(BD a.Knots r).Kids.take i++ [(BD a.Knots r).Kids[i]]:=Aq hi;refine .inl ?_;simp only [JJ,AG,Ad hi,Af,AB,hx,Aa];rw [WR,BW,C4 (by omega) (by omega),ad1 (by omega)];simp only [Aa];have b:(BD a.Knots r).Kids[i]=JQ (BD a.Knots r) i:=by
    have:=(hk i (by omega)).1;rw [hx]at this;injection this
   rcases FI hK h0 h1 hl (show i<4 by omega)with e|⟨e1,e2,e3⟩
   ·rw [Ae (by omega),Ac];refine⟨o,rfl,by omega,λn=>?_⟩;rw [o2,et,Ai,Ay,b,e];constructor
    ·rintro(h|h)
     ·exact .inl h
     exact .inr (.inl h)
    rintro(h|h|h)
    ·exact .inl h
    ·exact .inr h
    omega
   rw [Ad (by omega),Af,VB o _ (by omega)];simp only [Aa]
   cases hc:o.contains (BD a.Knots r).Kids[i]with
   |true=>
    have hm:(BD a.Knots r).Kids[i]∈o:=by simpa using hc
    refine⟨o,rfl,by omega,λn=>?_⟩;rw [o2,et,Ai,Ay];constructor
    ·rintro(h|h)
     ·exact .inl h
     exact .inr (.inl h)
    rintro(h|h|h)
    ·exact .inl h
    ·exact .inr h
    rw [<-h]at hm;exact(o2 n).1 hm
   |false=>
    simp only [AJ,Af];rw [Ct (by simp;omega)];refine⟨_,rfl,by simp;omega,λn=>?_⟩;rw [Ai,Ay,o2,et,Ai,Ay];constructor
    ·rintro((h|h)|h)
     ·exact .inl h
     ·exact .inr (.inl h)
     exact .inr (.inr h)
    rintro(h|h|h)
    ·exact .inl (.inl h)
    ·exact .inl (.inr h)
    exact .inr h)
  (λo ho=>⟨o,by simp only [JJ,AG,Ap,Av,Ac],by have:=ho.1;omega,by have:=ho.2;rw [AP]at this;exact this⟩) (s:=[r]) ⟨by simp,λn=>by simp [eq_comm]⟩
 rw [q1];refine⟨l,rfl,q2,λi=>?_⟩;rw [q3];unfold M1;rw [Ad h0,CH,Cx,A6,CN];constructor
 ·rintro(h|h)
  ·exact .inl h
  exact .inr ⟨_,h,by simp⟩
 rintro(h|⟨x,h,k⟩)
 ·exact .inl h
 right;have:x=(i:Int):=by simpa using k
 rw [<-this];exact h
theorem aW (a:Arena) (ha:a.Knots.length<=1048000) (hK:CU a.Knots=true) (R:List Int) (hc:R.length<=1000) (hR:∀r∈R,D6 a.Knots r=true) (v:List Int):∃l,Au (λs:List Int×Int=>F5 a R v s.1 s.2) ([],0)=some (.inl l)/\l.length<=5000/\∀i:Nat,(i:Int)∈l↔C1 a.Knots R i=true:=by
 obtain⟨b,h1,l,rfl,h3,h4⟩:=Bg (body:=λs:List Int×Int=>F5 a R v s.1 s.2) (λ(o:List Int) i=>(o,i)) R.length (λi o=>o.length<=5*i/\∀n:Nat,(n:Int)∈o↔C1 a.Knots (R.take i) n=true) (λb=>∃l,b= .inl l/\l.length<=5000/\∀i:Nat,(i:Int)∈l↔C1 a.Knots R i=true)
  (λo i hi ho=>by
   obtain⟨o1,o2⟩:=ho;have hx:=Ab hi;have hr:=hR _ (AC hi);obtain⟨m,m1,m2,m3⟩:=SP a ha hK hr;simp only [F5,AG,Ad hi,Af,AB,hx,Aa];rw [d7 (by omega) hr];simp only [Aa,Ac];rw [m1];simp only [Aa];rw [Ct (by omega),ad1 (by omega)];refine .inl ⟨o++m,rfl,by simp;omega,λn=>?_⟩;rw [Ai,o2,m3];unfold C1
   rw [Sm hx,Cx])
  (λo ho=>⟨_,by simp only [F5,AG,Ap,Av,Ac],o,rfl,by have:=ho.1;omega,by have:=ho.2;rw [AP]at this;exact this⟩) (s:=[]) ⟨by simp,λn=>by simp [C1]⟩
 exact⟨l,h1,h3,h4⟩
theorem XV (a:Arena) (ha:a.Knots.length<=1048000) (hK:CU a.Knots=true) (R:List Int) (hR:∀r∈R,D6 a.Knots r=true) (l:List Int) (h7:l.length<=5000) (hl:∀i:Nat,(i:Int)∈l↔C1 a.Knots R i=true):
  Au (λs:List Int×Int×List BI=>Fz a l s.1 s.2.1 s.2.2) (List.replicate a.Knots.length 0,0,[])=some (Q9 a.Knots R a.Knots.length,Ra a.Knots R):=by
 have n:∀i:Nat,l.contains (i:Int)=C1 a.Knots R i:=λi=>by
  cases hu:C1 a.Knots R i with
  |true=>exact List.contains_iff_mem.2 ((hl i).2 hu)
  |false=>
   cases hc:l.contains (i:Int)with
   |false=>rfl
   |true=>have:=(hl i).1 (by simpa using hc);rw [hu]at this;cases this
 obtain⟨b,h1,h2⟩:=Bg (body:=λs:List Int×Int×List BI=>Fz a l s.1 s.2.1 s.2.2) (λ(o:List Int×List BI) i=>(o.1,i,o.2)) a.Knots.length
  (λi o=>o=(Q9 a.Knots R i,((List.range i).filter (C1 a.Knots R)).map (Vr a.Knots R))) (λb=>b=(Q9 a.Knots R a.Knots.length,Ra a.Knots R))
  (λo i hi ho=>by
   subst ho;have h0:(0:Int)<=(i:Int):=by omega
   have g:(i:Int)<(a.Knots.length:Int):=by omega
   simp only [Fz,AG,Ad hi,Af];rw [Hy h0 g,VB l _ (by omega),n];simp only [Aa]
   cases hu:C1 a.Knots R i with
   |false=>
    simp only [AJ,Af];rw [ad1 (by omega)];refine .inl ⟨(Q9 a.Knots R i,((List.range i).filter (C1 a.Knots R)).map (Vr a.Knots R)),rfl,?_⟩;congr 1
    ·unfold Q9;apply CG;intro j hj;by_cases e:j=i
     ·subst e;rw [Ax (by omega),Ax (by rw [hu];simp)]
     by_cases h:j<i/\C1 a.Knots R j=true
     ·rw [Aw h,Aw ⟨by omega,h.2⟩]
     rw [Ax h,Ax (λh3=>h ⟨by omega,h3.2⟩)]
    rw [Ed,AR,Cl (by rw [hu];simp)];simp
   |true=>
    simp only [Aj,Ac];obtain⟨h4,hk⟩:=ES hK h0 g;have w:gi (Q9 a.Knots R i) (i:Int)=some 0:=by
     unfold Q9;rw [AB,Hl hi,Ax (by omega)]
    rw [w,Le (by omega)];simp only [Aa];have h6:=vW (K:=a.Knots) (R:=R) i;have p:(((List.range i).filter (C1 a.Knots R)).map (Vr a.Knots R)).length=XS a.Knots R i:=by rw [Be];rfl
    have f:si (Q9 a.Knots R i) (i:Int) (ln (((List.range i).filter (C1 a.Knots R)).map (Vr a.Knots R)))=Q9 a.Knots R (i+1):=by
     rw [BW,p,E6];unfold Q9;apply N4;intro j hj;by_cases e:j=i
     ·subst e;rw [Aw ⟨by omega,hu⟩,Aw rfl]
     rw [Ax e];by_cases h:j<i/\C1 a.Knots R j=true
     ·rw [Aw h,Aw ⟨by omega,h.2⟩]
     rw [Ax h,Ax (λh3=>h ⟨by omega,h3.2⟩)]
    have inner:Au (λs:Int×List Int=>Fy (Q9 a.Knots R i) (i:Int) (((List.range i).filter (C1 a.Knots R)).map (Vr a.Knots R)) (BD a.Knots (i:Int)) s.1 s.2) (0,(BD a.Knots (i:Int)).Kids)=some (Vr a.Knots R i).Kids:=by
     have q:=Mu (body:=λs:Int×List Int=>Fy (Q9 a.Knots R i) (i:Int) (((List.range i).filter (C1 a.Knots R)).map (Vr a.Knots R)) (BD a.Knots (i:Int)) s.1 s.2) (λl k=>(k,l)) (λ_ x=>bif(BD a.Knots (i:Int)).Leaf then x else LP a.Knots R x) (BD a.Knots (i:Int)).Kids
      (λk l x y m d=>by
       have z:=(Ag.1 d).1;have t:k<4:=by omega
       have ex:x=JQ (BD a.Knots (i:Int)) k:=by have:=(hk k t).1;rw [d]at this;injection this
       have same:l.set k x=l:=by
        apply C7;intro j;rw [Ci];split
        ·rename_i e5;subst e5;rw [Aw (Ag.1 m).1,m]
        rfl
       simp only [Fy,AG,Ad z,Af,AB,d,Aa];rw [f]
       cases u:(BD a.Knots (i:Int)).Leaf with
       |true=>
        simp only [Aj,Ac,Af,Aa];rw [same,ad1 (by omega)]
       |false=>
        simp only [AJ,Af,Ac,Aa]
        rcases FI hK h0 g u t with e|⟨e1,e2,e3⟩
        ·rw [Ae (by omega:¬x>=0),Ac,ad1 (by omega)];have:LP a.Knots R x=x:=by unfold LP;rw [Ax (by omega)]
         rw [this,same]
        rw [Ad (by omega:x>=0),Af];obtain⟨c,hc⟩:∃c:Nat,x=(c:Int):=⟨x.toNat,by omega⟩;have h5:x∈(BD a.Knots (i:Int)).Kids:=A7 d;have v:=Sg (VR hK hR hu u) h0 h5 (by omega);rw [hc]at v;rw [hc,AB];unfold Q9;rw [Hl (by omega)];simp only [Aa];rw [Aw ⟨by omega,v⟩,m];simp only [Aa];rw [E6,ad1 (by omega)];unfold LP;rw [Aw (by omega)]
        rfl)
      (λl y=>by simp only [Fy,AG,Ap,Av,Ac])
     rw [Ig]at q;rw [q];unfold Vr
     cases(BD a.Knots (i:Int)).Leaf with
     |true=>simp
     |false=>rfl
    rw [inner];simp only [Aa];rw [Ct (by rw [p];simp;omega)];simp only [Aa];rw [ad1 (by omega),f];refine .inl ⟨(_,_),rfl,?_⟩;congr 1;rw [Ed,AR,Ca hu,FP,Cq]
    rfl)
  (λo ho=>⟨o,by simp only [Fz,AG,Ap,Av,Ac],ho⟩) (s:=(List.replicate a.Knots.length 0,[])) (by
   unfold Q9;simp only [Nat.not_lt_zero,false_and,FV];rw [IW,Ch]
   rfl)
 rw [<-h2];exact h1
theorem iP (a:Arena) (ha:a.Knots.length<=1048000) (hK:CU a.Knots=true) (R:List Int) (hc:R.length<=1000) (hR:∀r∈R,D6 a.Knots r=true):LE a R=some (Arena.mk (Ra a.Knots R),R.map (LP a.Knots R)):=by
 unfold LE;rw [Le (by omega)];simp only [Aa];obtain⟨l,l1,l2,l3⟩:=aW a ha hK R hc hR R;rw [l1,OK a (by omega),hK];simp only [Aa,B6,Aj,Ac];rw [BW,TK (by omega) (by omega)];simp only [Aa];rw [XV a ha hK R hR l l2 l3];simp only [Aa];have hb:(λs:List Int×Int=>Ec R (Q9 a.Knots R a.Knots.length,Ra a.Knots R) s.1 s.2)=(λs:List Int×Int=>Ec R (Q9 a.Knots R a.Knots.length,Ra a.Knots R) s.1 s.2):=rfl;have q:=Mu (body:=λs:List Int×Int=>Ec R (Q9 a.Knots R a.Knots.length,Ra a.Knots R) s.1 s.2) (λl k=>(l,k)) (λ_ x=>LP a.Knots R x) R
  (λk l x h d b=>by
   have hk:=(Ag.1 b).1;simp only [Ec,AG,Ad hk,Af,AB,b,Aa]
   rcases Ck (hR x (A7 b))with e|⟨e1,e2,e3⟩
   ·rw [Ae (by omega:¬x>=0),Ac,ad1 (by omega)];have:LP a.Knots R x=x:=by unfold LP;rw [Ax (by omega)]
    rw [this,show l.set k x=l from by
     apply C7;intro j;rw [Ci];split
     ·rename_i e5;subst e5;rw [Aw (Ag.1 d).1,d]
     rfl]
   rw [Ad (by omega:x>=0),Af];obtain⟨c,f⟩:∃c:Nat,x=(c:Int):=⟨x.toNat,by omega⟩;have g:=Nt (K:=a.Knots) (A7 b) e1;rw [f]at g;rw [f,AB];unfold Q9;rw [Hl (by omega)];simp only [Aa];rw [Aw ⟨by omega,g⟩,d];simp only [Aa];rw [E6,ad1 (by omega)];unfold LP;rw [Aw (by omega)]
   rfl)
  (λl h=>by simp only [Ec,AG,Ap,Av,Ac])
 rw [Ig]at q;have q':Au (λs:List Int×Int=>Ec R (Q9 a.Knots R a.Knots.length,Ra a.Knots R) s.1 s.2) (R,0)=some (R.map (LP a.Knots R)):=q;rw [q'];rfl
theorem Mx (h:StoreR s):KC s=some (JZ s):=by
 have hl:=h.len;have hf:=h.few;have e:(B9 s).length=s.Vols.length:=by unfold B9;rw [Be]
 unfold KC;have hr:Au (λq:List Int×Int=>EL s q.1 q.2) ([],0)=some (B9 s):=by
  obtain⟨b,h1,h2⟩:=Bg (body:=λq:List Int×Int=>EL s q.1 q.2) (λ(o:List Int) i=>(o,i)) s.Vols.length (λi o=>o=(s.Vols.take i).map Vol.Root) (λb=>b=B9 s)
   (λo i hi ho=>by
    have hx:=Ab hi;simp only [EL,AG,Ad hi,Af,AB,hx,Aa];rw [Ct (by rw [ho];simp;omega)];simp only [Aa];rw [ad1 (by omega)]
    exact .inl ⟨_,rfl,by rw [ho,DR,hx,Cq];rfl⟩)
   (λo ho=>⟨o,by simp only [EL,AG,Ap,Av,Ac],by rw [ho,AO (A3 _)];rfl⟩) (s:=[]) rfl
  rw [<-h2];exact h1
 rw [hr];simp only [Aa];rw [iP _ (by omega) h.ar _ (by omega) h.root];simp only [Aa];have q:=Mu (body:=λq:Int×List Vol=>Gx s (Arena.mk (Ra s.Arena.Knots (B9 s)),(B9 s).map (LP s.Arena.Knots (B9 s))) q.1 q.2) (λl i=>(i,l)) (λ_ v=>Vol.mk v.Id (LP s.Arena.Knots (B9 s) v.Root)) s.Vols
  (λi l x c d a=>by
   have hi:=(Ag.1 a).1;simp only [Gx,AG,Ad hi,Af];have:gi ((B9 s).map (LP s.Arena.Knots (B9 s))) (i:Int)=some (LP s.Arena.Knots (B9 s) x.Root):=by
    rw [AB,AL];unfold B9;rw [AL,a];rfl
   rw [this,AB,d];simp only [Aa]
   rw [E6,ad1 (by omega)])
  (λl c=>by simp only [Gx,AG,Ap,Av,Ac])
 rw [Ig]at q;rw [q];rfl
abbrev Vs:=List (Int×List Int)
def LJ (l:Vs) (id:Int):Option (List Int):=(l.find? λp=>p.1==id).map Prod.snd
def nO (l:Vs) (id:Int) (a:List Int):Vs:=(l.filter λp=>decide (p.1<id))++ [(id,a)]++l.filter λp=>decide (p.1>id)
def AAY (l:Vs) (id:Int):Vs:=l.filter λp=>p.1 !=id
def gO (l:Vs) (id:Int) (s:Nat) (n:Int):Vs:=l.map λp=>if p.1=id then(p.1,p.2.set s n)else p
def GR (r:Ds):Bool:=decide (0<=r.Arg/\r.Arg<=1000000000)&&(bif r.Kind==1 then r.Vol==0&&r.Chunk==0 else decide (2<=r.Kind/\r.Kind<=5)&&decide (1<=r.Vol/\r.Vol<=9)&&(r.Kind==4||r.Chunk==0)&&
 (bif r.Kind==2 then decide (r.Arg<=9)else bif r.Kind==3 then r.Arg==0 else bif r.Kind==4 then decide (r.Arg<16)&&decide (1<=r.Chunk/\r.Chunk<=1000000000)else decide (r.Arg<16)))
def Sc:List Int:=List.replicate 16 0
def DY (l:Vs) (nx:Int) (r:Ds):Option (Vs×Int):=
 if GR r=false then none
 else if r.Kind=1 then some ([],if r.Arg=0 then 1 else r.Arg)
 else if r.Kind=2 then
  if(0<r.Arg/\LJ l r.Arg=none)\/LJ l r.Vol≠none\/l.length=3 then none
  else some (nO l r.Vol (if 0<r.Arg then(LJ l r.Arg).getD Sc else Sc),nx)
 else if LJ l r.Vol=none\/r.Chunk=1000000000 then none
 else if r.Kind=3 then some (AAY l r.Vol,nx)
 else some (gO l r.Vol r.Arg.toNat r.Chunk,max nx (r.Chunk+1))
theorem LO (r:Ds):MJ r=some (GR r):=by
 unfold MJ GR;simp only [Ex,Aa]
 cases decide (0<=r.Arg/\r.Arg<=1000000000)with
 |false=>rfl
 |true=>
  simp only [Aj,Ac,CH]
  cases r.Kind==1 with
  |true=>
   simp only [Af];cases r.Vol==0<;>rfl
  |false=>
   simp only [Ac]
   cases decide (2<=r.Kind/\r.Kind<=5)with
   |false=>rfl
   |true=>
    cases decide (1<=r.Vol/\r.Vol<=9)with
    |false=>rfl
    |true=>
     have e1:(r.Kind !=4)=!(r.Kind==4):=rfl;have e2:(r.Chunk !=0)=!(r.Chunk==0):=rfl;rw [e1,e2];cases r.Kind==4<;>cases r.Chunk==0<;>cases r.Kind==2<;>cases r.Kind==3<;>cases decide (r.Arg<16)<;>rfl
theorem FR (s:Store) (hv:s.Vols.length<=1048576) (id:Int):(Eq s id=some (-1)/\∀v∈s.Vols,v.Id≠id)\/∃k:Nat,∃v,Eq s id=some (k:Int)/\s.Vols[k]?=some v/\v.Id=id/\∀j w,j<k->s.Vols[j]?=some w->w.Id≠id:=by
 unfold Eq;obtain⟨b,h1,h2⟩:=Bg (body:=λq:Int=>Ke s id q) (λ(_:Unit) i=>i) s.Vols.length (λi _=>∀j w,j<i->s.Vols[j]?=some w->w.Id≠id)
  (λb=>(b= .inl ()/\∀v∈s.Vols,v.Id≠id)\/∃k:Nat,∃v,b= .inr (k:Int)/\s.Vols[k]?=some v/\v.Id=id/\∀j w,j<k->s.Vols[j]?=some w->w.Id≠id)
  (λ_ i hi hs=>by
   have hx:=Ab hi;simp only [Ke,AG,Ad hi,Af,AB,hx,Aa]
   cases e:(s.Vols[i].Id==id)with
   |true=>exact .inr ⟨_,rfl,.inr ⟨i,_,rfl,hx,by simpa using e,hs⟩⟩
   |false=>
    simp only [Ac];rw [ad1 (by omega)];refine .inl ⟨(),rfl,λj w hj hw=>?_⟩;by_cases e2:j=i
    ·subst e2;rw [hx]at hw
     injection hw with hw
     rw [<-hw];simpa using e
    exact hs j w (by omega) hw)
  (λ_ hs=>⟨_,by simp only [Ke,AG,Ap,Av,Ac],.inl ⟨rfl,λv hv=>by
   obtain⟨j,hj,rfl⟩:=AF hv
   exact hs j _ hj (Ab hj)⟩⟩) (s:=()) (λj w hj=>by omega)
 have h1':Au (λq:Int=>Ke s id q) 0=some b:=h1;rw [h1']
 rcases h2 with⟨rfl,h2⟩|⟨k,v,rfl,h2⟩
 ·exact .inl ⟨rfl,h2⟩
 exact .inr ⟨k,v,rfl,h2⟩
theorem NH {id:Int}:(∀v∈s.Vols,v.Id≠id)↔LJ (BJ s) id=none:=by
 unfold LJ BJ;rw [Option.map_eq_none_iff,EN];constructor
 ·intro h p hp;obtain⟨v,hv,rfl⟩:=AH.1 hp;simpa using h v hv
 intro h v hv;have:=h _ (AH.2 ⟨v,hv,rfl⟩);simpa using this
theorem vA {w:Vol} (h:(s.Vols.map Vol.Id).Pairwise (·<·)) (hv:v∈s.Vols) (hw:w∈s.Vols) (e:v.Id=w.Id):v=w:=by
 obtain⟨i,hi,rfl⟩:=AF hv;obtain⟨j,hj,rfl⟩:=AF hw;have gi:(s.Vols.map Vol.Id)[i]?=some s.Vols[i].Id:=by rw [AL,Ab hi];rfl
 have gj:(s.Vols.map Vol.Id)[j]?=some s.Vols[j].Id:=by rw [AL,Ab hj];rfl
 rcases RX i j with h1|h1|h1
 ·have:=N6 h h1 gi gj;omega
 ·subst h1;rfl
 have:=N6 h h1 gj gi;omega
theorem NG (h:(s.Vols.map Vol.Id).Pairwise (·<·)) (hv:v∈s.Vols):LJ (BJ s) v.Id=some (E4 s.Arena.Knots v.Root):=by
 unfold LJ;have hm:(v.Id,E4 s.Arena.Knots v.Root)∈BJ s:=AH.2 ⟨v,hv,rfl⟩
 cases hf:(BJ s).find? λp=>p.1==v.Id with
 |none=>
  rw [EN]at hf;have:=hf _ hm;simp at this
 |some p=>
  have h1:=List.find?_some hf;have h2:=List.mem_of_find?_eq_some hf;obtain⟨w,hw,rfl⟩:=AH.1 h2;have:w=v:=vA h hw hv (by simpa using h1);rw [this];rfl
theorem JP (s:Store):(BJ s).length=s.Vols.length:=by unfold BJ;rw [Be]
theorem dP (K:Ks):E4 K (-1)=Sc:=by
 unfold E4 Sc;rw [<-Ch (n:=16),<-IW,Ch];apply CG;intro s hs;rfl
theorem jI (s:Store) (p:Int->Bool) (t:Store) (hk:t.Arena=s.Arena) (hv:t.Vols=s.Vols.filter λv=>p v.Id):BJ t=(BJ s).filter λq=>p q.1:=by
 unfold BJ;rw [hk,hv,List.filter_map];rfl
theorem QG {body:List Vol×Int->Option ((List Vol×Int)⊕List Vol)} (l:List Vol) (p:Vol->Bool) (o:List Vol) (hM:l.length+o.length<=1048576) (h1:∀(i:Nat) v (a:List Vol),l[i]?=some v->a.length<=1048576->body (a,(i:Int))=some (.inl (bif p v then a++ [v]else a,((i+1:Nat):Int)))) (h2:∀a,body (a,(l.length:Int))=some (.inr a)):
  Au body (o,0)=some (o++l.filter p):=by
 obtain⟨b,h3,h4⟩:=Bg (body:=body) (λ(q:List Vol) i=>(q,i)) l.length (λi q=>q=o++(l.take i).filter p) (λb=>b=o++l.filter p)
  (λq i hi hq=>by
   have hx:=Ab hi;refine .inl ⟨_,h1 i _ q hx ?_,?_⟩
   ·rw [hq,Ah];have:=Dc p (l.take i);rw [AE]at this;omega
   rw [hq,DR,hx,AR]
   cases e:p l[i]with
   |true=>simp [e]
   |false=>simp [e])
  (λq hq=>⟨q,h2 q,by rw [hq,AO (A3 _)]⟩) (s:=o) (by simp)
 rw [h3,h4]
theorem rA {R':List Int} (h:∀r∈R,r∈R') (hu:C1 K R i=true):C1 K R' i=true:=by
 unfold C1 at hu⊢;rw [CN]at hu⊢;obtain⟨r,hr,h2⟩:=hu;exact⟨r,h r hr,h2⟩
theorem Wf {l:List Vol} (h:(l.map Vol.Id).Pairwise (·<·)) (v:Vol):(((l.filter λw=>decide (w.Id<v.Id))++ [v]++l.filter λw=>decide (w.Id>v.Id)).map Vol.Id).Pairwise (·<·):=by
 rw [Jy]at h;rw [Jy,Ao,Bx];refine⟨h.filter _,?_,?_⟩
 ·rw [Co,CW];exact⟨λw hw=>by simpa using(AT.1 hw).2,h.filter _⟩
 intro a ha b hb;have h1:a.Id<v.Id:=by simpa using(AT.1 ha).2
 rw [Co,BB]at hb
 rcases hb with rfl|hb
 ·exact h1
 have:b.Id>v.Id:=by simpa using(AT.1 hb).2
 omega
theorem Y4 (l:List Vol) (id:Int):(l.filter λw=>decide (w.Id<id)).length+(l.filter λw=>decide (w.Id>id)).length<=l.length:=by
 induction l with
 |nil=>simp
 |cons v l ih=>
  simp only [List.filter_cons,A0];by_cases h1:v.Id<id
  ·rw [Aw (by simpa using h1),Ax (by simp;omega),A0];omega
  rw [Ax (by simpa using h1)];split
  ·rw [A0];omega
  omega
def K6 (s:Store) (r:Ds) (o:Option (Store×Bool)):Prop:=match DY (BJ s) s.Next r with
 |none=>o=some (s,false)
 |some (l,nx)=>∃t,o=some (t,true)/\CV t/\BJ t=l/\t.Next=nx
theorem nV {r:Ds} (h:CV s) (hr:GR r=true) (hk:r.Kind=2):K6 s r (F9 s r):=by
 have hl:=h.len;have d:=KI h.ar (by have:=h.few;omega);have a:=FC s d (by omega);have hb:GR r=true:=hr;unfold GR at hr;rw [hk]at hr;simp at hr;unfold K6 DY;rw [hb,hk];simp only [IL,FV,BU,show¬((2:Int)=1) by omega];unfold F9;have root:(LJ (BJ s) r.Arg=none/\0<r.Arg/\(bif(decide (r.Arg>0))then((Eq s r.Arg).bind λv1=>bif(decide (v1<0))then((DZ s).bind λv2=>some (.inr (v2,false)))else((gi s.Vols v1).bind λx1=>some (.inl x1.Root)))else(some (.inl (-1))):Option ((Int)⊕((Store×Bool))))=some (.inr (s,false)))\/
   (¬(0<r.Arg/\LJ (BJ s) r.Arg=none)/\∃q,D6 s.Arena.Knots q=true/\(q= -1\/q∈B9 s)/\E4 s.Arena.Knots q=(if 0<r.Arg then(LJ (BJ s) r.Arg).getD Sc else Sc)/\(bif(decide (r.Arg>0))then((Eq s r.Arg).bind λv1=>bif(decide (v1<0))then((DZ s).bind λv2=>some (.inr (v2,false)))else((gi s.Vols v1).bind λx1=>some (.inl x1.Root)))else(some (.inl (-1))):Option ((Int)⊕((Store×Bool))))=some (.inl q)):=by
  by_cases h0:0<r.Arg
  ·rw [Ad (by omega:r.Arg>0)];simp only [Af]
   rcases FR s (by omega) r.Arg with⟨h1,h2⟩|⟨k,v,h1,h2,h3,_⟩
   ·left;rw [h1,a];exact⟨NH.1 h2,h0,rfl⟩
   right;rw [h1];have hm:=A7 h2;have hg:=NG h.asc hm;rw [h3]at hg;refine⟨λhh=>(by rw [hg]at hh;cases hh.2),v.Root,h.root _ (AH.2 ⟨v,hm,rfl⟩),.inr (AH.2 ⟨v,hm,rfl⟩),?_,?_⟩
   ·rw [Aw h0,hg];rfl
   simp only [Aa];rw [Ae (by omega),Ac,AB,h2];rfl
  right;rw [Ae (by omega:¬r.Arg>0),Ax h0];exact⟨λhh=>h0 hh.1,-1,rfl,.inl rfl,dP _,rfl⟩
 rcases root with⟨g1,g2,g3⟩|⟨g1,q,g2,g3,g4,g5⟩
 ·rw [g3,Aw (.inl ⟨g2,g1⟩)];rfl
 rw [g5];simp only [Aa,B6]
 rcases FR s (by omega) r.Vol with⟨h1,h2⟩|⟨k,v,h1,h2,h3,_⟩
 ·rw [h1];simp only [Aa];rw [Ae (by omega),Ac,BW];have j:LJ (BJ s) r.Vol=none:=NH.1 h2;by_cases h3:s.Vols.length=3
  ·rw [h3,Aw (.inr (.inr (by rw [JP,h3])))];simp only [Aa];rw [a];rfl
  have e3:((s.Vols.length:Int)==3)=false:=by simp;omega
  rw [e3,Ax (by
   rintro(hh|hh|hh)
   ·exact g1 hh
   ·exact hh j
   rw [JP]at hh;exact h3 hh)]
  simp only [Aa,Ac];rw [a];simp only [Aa];have k1:=QG (body:=λq:List Vol×Int=>GF s r q.1 q.2) s.Vols (λv=>decide (v.Id<r.Vol)) [] (by simp;omega)
   (λi v c hv ho=>by
    have hi:=(Ag.1 hv).1;simp only [GF,AG,Ad hi,Af,AB,hv,Aa];rw [ad1 (by omega)]
    cases decide (v.Id<r.Vol)with
    |true=>simp only [Af];rw [Ct (by simp;omega)];rfl
    |false=>rfl)
   (λc=>by simp only [GF,AG,Ap,Av,Ac])
  rw [A5]at k1;rw [k1];simp only [Aa];have l:=Y4 s.Vols r.Vol;rw [Ct (by simp;omega)];simp only [Aa];have k2:=QG (body:=λq:List Vol×Int=>GE s r q.1 q.2) s.Vols (λv=>decide (v.Id>r.Vol)) ((s.Vols.filter λv=>decide (v.Id<r.Vol))++ [Vol.mk r.Vol q]) (by simp;omega)
   (λi v c hv ho=>by
    have hi:=(Ag.1 hv).1;simp only [GE,AG,Ad hi,Af,AB,hv,Aa];rw [ad1 (by omega)]
    cases decide (v.Id>r.Vol)with
    |true=>simp only [Af];rw [Ct (by simp;omega)];rfl
    |false=>rfl)
   (λc=>by simp only [GE,AG,Ap,Av,Ac])
  rw [k2];simp only [Aa];have f:((s.Vols.filter λv=>decide (v.Id<r.Vol))++ [Vol.mk r.Vol q]++s.Vols.filter λv=>decide (v.Id>r.Vol)).length<=3:=by simp only [Ah,A0,Bk];omega
  have g:∀x∈B9 s,x∈(B9 (Store.mk ((s.Vols.filter λv=>decide (v.Id<r.Vol))++ [Vol.mk r.Vol q]++s.Vols.filter λv=>decide (v.Id>r.Vol)) s.Arena s.Next)):=by
   intro x hx;obtain⟨v,hv,rfl⟩:=AH.1 hx;refine AH.2 ⟨v,?_,rfl⟩;have:=h2 v hv;simp only [Ai,AT,Ay];by_cases e:v.Id<r.Vol
   ·exact .inl (.inl ⟨hv,by simpa using e⟩)
   exact .inr ⟨hv,by simp;omega⟩
  have b:∀x∈(B9 (Store.mk ((s.Vols.filter λv=>decide (v.Id<r.Vol))++ [Vol.mk r.Vol q]++s.Vols.filter λv=>decide (v.Id>r.Vol)) s.Arena s.Next)),x= -1\/x∈B9 s:=by
   intro x hx;obtain⟨v,hv,rfl⟩:=AH.1 hx;simp only [Ai,AT,Ay]at hv
   rcases hv with(hv|rfl)|hv
   ·exact .inr (AH.2 ⟨v,hv.1,rfl⟩)
   ·exact g3
   exact .inr (AH.2 ⟨v,hv.1,rfl⟩)
  refine⟨_,rfl,⟨⟨f,h.ar,h.nx,?_,Wf h.asc (Vol.mk r.Vol q),?_,?_,h.few⟩,?_⟩,?_,rfl⟩
  ·intro v hv;simp only [Ai,AT,Ay]at hv
   rcases hv with(hv|rfl)|hv
   ·exact h.ids v hv.1
   ·show 1<=r.Vol/\r.Vol<=9;omega
   exact h.ids v hv.1
  ·intro x hx
   rcases b x hx with e|e
   ·rw [e];rfl
   exact h.root x e
  ·intro x hx
   rcases b x hx with e|e
   ·intro y hy;rw [e]at hy;change y∈E4 s.Arena.Knots (-1)at hy;rw [dP]at hy;have:=Dy hy;have:=h.nx;show y<s.Next;omega
   exact h.lt x e
  ·intro i hi;exact rA g (h.used i hi)
  rw [<-g4];unfold nO BJ;simp only [Cq,BZ,jT,List.filter_map];rfl
 rw [h1];simp only [Aa];rw [Ad (by omega),Af];have hg:=NG h.asc (A7 h2);rw [h3]at hg;rw [Aw (.inr (.inl (by rw [hg];simp)))];simp only [Aa,Af];rw [a];rfl
theorem Rt {l:List Vol} (h:(l.map Vol.Id).Pairwise (·<·)) (hv:l[k]?=some v):l.take k++l.drop (k+1)=l.filter λw=>w.Id !=v.Id:=by
 rw [Jy]at h;have hk:=(Ag.1 hv).1;have e:l=l.take k++v::l.drop (k+1):=by
  have h2:=Bi hk;rw [(Ag.1 hv).2]at h2;rw [<-h2,Bw]
 rw [e,Bx]at h;obtain⟨h1,h2,h3⟩:=h;rw [CW]at h2
 conv=>rhs;rw [e]
 rw [AR,Cl (by simp)];congr 1
 ·symm;rw [Ga];intro w hw;have:=h3 w hw v (by simp);simp;omega
 symm;rw [Ga];intro w hw;have:=h2.1 w hw;simp;omega
theorem rM (h:CV s) (id:Int):StoreR (Store.mk (s.Vols.filter λw=>w.Id !=id) s.Arena s.Next):=by
 have hl:=h.len;refine⟨?_,h.ar,h.nx,λv hv=>h.ids v (AT.1 hv).1,?_,?_,?_,h.few⟩
 ·have:=Dc (λw:Vol=>w.Id !=id) s.Vols;show(s.Vols.filter λw=>w.Id !=id).length<=3;omega
 ·have:=h.asc;rw [Jy]at this⊢;exact this.filter _
 ·intro x hx;obtain⟨w,hw,rfl⟩:=AH.1 hx;exact h.root _ (AH.2 ⟨w,(AT.1 hw).1,rfl⟩)
 intro x hx;obtain⟨w,hw,rfl⟩:=AH.1 hx;exact h.lt _ (AH.2 ⟨w,(AT.1 hw).1,rfl⟩)
theorem vU {t:Nat} (h:CV s) (h2:s.Vols[k]?=some v) (ht:t<16) (hn:0<=n) (g:n+1<=1000000000):StoreR (Store.mk (s.Vols.set k (Vol.mk v.Id ((s.Arena.Knots.length:Int)+1))) (Arena.mk (IA s.Arena.Knots v.Root t n)) (max s.Next (n+1))):=by
 have hl:=h.len;have hm:=A7 h2;have d:=(Ag.1 h2).1;have a:=h.root _ (AH.2 ⟨v,hm,rfl⟩);have i:=h.small
 have b:∀w∈s.Vols.set k (Vol.mk v.Id ((s.Arena.Knots.length:Int)+1)),w∈s.Vols\/w=Vol.mk v.Id ((s.Arena.Knots.length:Int)+1):=λw hw=>CK hw
 refine⟨by simpa using hl,wX h.ar a ht hn,?_,?_,?_,?_,?_,?_⟩
 ·have:=h.nx;show 1<=max s.Next (n+1)/\max s.Next (n+1)<=1000000000;omega
 ·intro w hw
  rcases b w hw with hw|rfl
  ·exact h.ids w hw
  exact h.ids v hm
 ·have:(s.Vols.set k (Vol.mk v.Id ((s.Arena.Knots.length:Int)+1))).map Vol.Id=s.Vols.map Vol.Id:=by
   rw [List.map_set];show(s.Vols.map Vol.Id).set k v.Id=_;apply C7;intro j;rw [Ci];split
   ·rename_i e;subst e;rw [Be,Aw d,AL,h2];rfl
   rfl
  rw [this];exact h.asc
 ·intro x hx;obtain⟨w,hw,rfl⟩:=AH.1 hx
  rcases b w hw with hw|rfl
  ·exact pK (h.root _ (AH.2 ⟨w,hw,rfl⟩))
  exact mV
 ·intro x hx y hy;obtain⟨w,hw,rfl⟩:=AH.1 hx;show y<max s.Next (n+1)
  rcases b w hw with hw|rfl
  ·have f:=h.root _ (AH.2 ⟨w,hw,rfl⟩);have c:y∈E4 s.Arena.Knots w.Root:=by rw [<-kM (X:=[BI.mk true (MP s.Arena.Knots v.Root t n),BI.mk false (QZ s.Arena.Knots v.Root t)]) h.ar f];exact hy
   have:=h.lt _ (AH.2 ⟨w,hw,rfl⟩) y c;omega
  have c:y∈(E4 s.Arena.Knots v.Root).set t n:=by rw [<-kW (s:=t) (n:=n) h.ar a (by omega)];exact hy
  rcases CK c with c|rfl
  ·have:=h.lt _ (AH.2 ⟨v,hm,rfl⟩) y c;omega
  omega
 show(IA s.Arena.Knots v.Root t n).length<=1000;unfold IA;simp;omega
theorem Xf (h:CV s) (r:Ds):K6 s r (Q3 s r):=by
 have hl:=h.len;have d:=KI h.ar (by have:=h.few;omega);have a:=FC s d (by omega);unfold Q3;rw [P7 h,LO];simp only [Aa,Aj,Ac]
 cases hb:GR r with
 |false=>
  simp only [AJ,Af];rw [a];unfold K6 DY;rw [hb];rfl
 |true=>
  simp only [Aj,Ac];have hr:=hb;unfold GR at hr
  cases k1:(r.Kind==1)with
  |true=>
   have e1:r.Kind=1:=by simpa using k1
   rw [e1]at hr;simp at hr;unfold K6 DY;rw [hb,e1];simp only [IL,FV,BU,Af];have:(bif(r.Arg==0)then(some 1)else(some r.Arg):Option (Int))=some (if r.Arg=0 then 1 else r.Arg):=by
    by_cases e:r.Arg=0
    ·rw [Aw e,e];rfl
    rw [Ax e,show(r.Arg==0)=false by simpa using e];rfl
   rw [this];refine⟨_,rfl,⟨⟨by simp,rfl,?_,by simp,by simp,by simp [B9],by simp [B9],by simp⟩,by simp⟩,rfl,rfl⟩;show 1<=(if r.Arg=0 then 1 else r.Arg)/\(if r.Arg=0 then 1 else r.Arg)<=1000000000;split<;>omega
  |false=>
   simp only [Ac];have n1:r.Kind≠1:=by simpa using k1
   rw [k1]at hr
   cases k2:(r.Kind==2)with
   |true=>
    simp only [Af];have:=nV h hb (by simpa using k2);have e:((F9 s r).bind λv4=>some (v4.1,v4.2))=F9 s r:=by cases F9 s r<;>rfl
    rw [e];exact this
   |false=>
    simp only [Ac];have n2:r.Kind≠2:=by simpa using k2
    rw [k2]at hr;have hv:1<=r.Vol/\r.Vol<=9:=by simp at hr;omega
    unfold K6 DY;rw [hb];simp only [IL,FV,Ax n1,Ax n2]
    rcases FR s (by omega) r.Vol with⟨h1,h2⟩|⟨k,v,h1,h2,h3,_⟩
    ·rw [h1];simp only [Aa];rw [Ad (by omega),Af,Aw (.inl (NH.1 h2))];simp only [Aa,Af];rw [a];rfl
    rw [h1];simp only [Aa];rw [Ae (by omega),Ac];simp only [Aa];have hm:=A7 h2;have g:=(Ag.1 h2).1;have hg:=NG h.asc hm;rw [h3]at hg
    cases hc:(r.Chunk==1000000000)with
    |true=>
     simp only [Af];rw [Aw (.inr (by simpa using hc)),a];rfl
    |false=>
     simp only [Ac];have i:r.Chunk≠1000000000:=by simpa using hc
     rw [Ax (by
      rintro(hh|hh)
      ·rw [hg]at hh;cases hh
      exact i hh),a]
     simp only [Aa]
     cases k3:(r.Kind==3)with
     |true=>
      have e3:r.Kind=3:=by simpa using k3
      rw [Aw e3];simp only [Af];rw [BW,ad1 (by omega)];have d1:dr s.Vols 0 (k:Int)=some (s.Vols.take k):=by
       unfold dr;rw [Aw ⟨by omega,by omega,by omega⟩];simp
      have d2:dr s.Vols ((k+1:Nat):Int) (s.Vols.length:Int)=some (s.Vols.drop (k+1)):=by
       unfold dr;rw [Aw ⟨by omega,by omega,by omega⟩,Bc,Bc,AO (by simp)]
      rw [d1,d2];simp only [Aa];rw [Ky (by simp;omega)];simp only [Aa];rw [Ct (by simp;omega),Rt h.asc h2,h3];simp only [Aa];have hR:=rM h r.Vol;rw [I6 hR];refine⟨_,rfl,kF hR,?_,rfl⟩;rw [Yy hR];exact jI s (λid=>id !=r.Vol) _ rfl rfl
     |false=>
      have n3:r.Kind≠3:=by simpa using k3
      rw [Ax n3];simp only [Ac];rw [k3]at hr;have ha:0<=r.Arg/\r.Arg<16/\0<=r.Chunk/\r.Chunk<=1000000000:=by
       cases k4:(r.Kind==4)with
       |true=>rw [k4]at hr;simp at hr;omega
       |false=>rw [k4]at hr;simp at hr;omega
      obtain⟨t,ht⟩:∃t:Nat,r.Arg=(t:Int):=⟨_,(Bp ha.1).symm⟩;rw [AB,h2];simp only [Aa];have c:=h.root _ (AH.2 ⟨v,hm,rfl⟩);rw [ht,Ws _ (by have:=h.few;omega) h.ar c (by omega) ha.2.2.1];simp only [Aa];rw [E6];have o:=h.small;have hR:=vU h h2 (show t<16 by omega) ha.2.2.1 (show r.Chunk+1<=1000000000 by omega);have f:BJ (Store.mk (s.Vols.set k (Vol.mk v.Id ((s.Arena.Knots.length:Int)+1))) (Arena.mk (IA s.Arena.Knots v.Root t r.Chunk)) (max s.Next (r.Chunk+1)))=gO (BJ s) r.Vol t r.Chunk:=by
       unfold BJ gO;simp only [EY];apply C7;intro j;rw [AL,AL,Ci];by_cases e:k=j
       ·subst e;rw [Aw rfl,Aw g,h2];simp only [Bz,Function.comp];rw [Aw h3,kW h.ar c (by omega)]
       rw [Ax e]
       cases hj:s.Vols[j]? with
       |none=>rfl
       |some w=>
        have l:=A7 hj;have m:w.Id≠r.Vol:=by
         intro e2;have gi:(s.Vols.map Vol.Id)[k]?=some v.Id:=by rw [AL,h2];rfl
         have gj:(s.Vols.map Vol.Id)[j]?=some w.Id:=by rw [AL,hj];rfl
         rcases RX k j with q|q|q
         ·have:=N6 h.asc q gi gj;omega
         ·exact e q
         have:=N6 h.asc q gj gi;omega
        simp only [Bz,Function.comp];rw [Ax m];have:=kM (X:=[BI.mk true (MP s.Arena.Knots v.Root t r.Chunk),BI.mk false (QZ s.Arena.Knots v.Root t)]) h.ar (h.root _ (AH.2 ⟨w,l,rfl⟩));unfold IA;rw [this]
      have n:∀b:Bool,b=decide (r.Chunk>=s.Next)->(bif b then((GP (Store.mk (s.Vols.set k (Vol.mk v.Id ((s.Arena.Knots.length:Int)+1))) (Arena.mk (IA s.Arena.Knots v.Root t r.Chunk)) (ad r.Chunk 1))).bind λv11=>some (v11,true))else((GP (Store.mk (s.Vols.set k (Vol.mk v.Id ((s.Arena.Knots.length:Int)+1))) (Arena.mk (IA s.Arena.Knots v.Root t r.Chunk)) s.Next)).bind λv12=>some (v12,true)))=(GP (Store.mk (s.Vols.set k (Vol.mk v.Id ((s.Arena.Knots.length:Int)+1))) (Arena.mk (IA s.Arena.Knots v.Root t r.Chunk)) (max s.Next (r.Chunk+1)))).bind λv=>some (v,true):=by
       intro b hb;have:=h.nx;by_cases e:r.Chunk>=s.Next
       ·rw [hb,Ad e,Af,C6 (by omega) (by omega),show max s.Next (r.Chunk+1)=r.Chunk+1 by omega]
       rw [hb,Ae e,Ac,show max s.Next (r.Chunk+1)=s.Next by omega]
      rw [n _ rfl,I6 hR];refine⟨_,rfl,kF hR,?_,rfl⟩;rw [Yy hR,f,Bc]
theorem qS (hK:CU K=true) (hR:∀r∈R,D6 K r=true) (hi:i<K.length) (hu:C1 K R i=true) (hl:(BD K (i:Int)).Leaf=true) (hn:n∈(BD K (i:Int)).Kids):∃r∈R,n∈E4 K r:=by
 unfold C1 at hu;obtain⟨r,hr,h⟩:=CN.1 hu;unfold M1 at h;rw [Ak,A6,Cx,A6,CN]at h;obtain⟨h0,h⟩:=h
 rcases Ck (hR r hr)with e|⟨_,h1,h2⟩
 ·omega
 rcases h with h|⟨x,hx,he⟩
 ·rw [h,hl]at h2;cases h2
 have a:x=(i:Int):=by simpa using he
 obtain⟨h4,hk⟩:=ES hK h0 h1;obtain⟨j,hj,b⟩:=AF hx;have c:JQ (BD K r) j=(i:Int):=by
  have:=(hk j (by omega)).1;rw [Ab hj,b]at this
  injection this with this
  rw [<-this,a]
 obtain⟨g4,gk⟩:=ES hK (r:=(i:Int)) (by omega) (by omega);obtain⟨t,ht,d⟩:=AF hn;have f:JQ (BD K (i:Int)) t=n:=by
  have:=(gk t (by omega)).1;rw [Ab ht,d]at this
  injection this with this
  exact this.symm
 refine⟨r,hr,AH.2 ⟨4*j+t,by simp;omega,?_⟩⟩;unfold Ph;rw [Ax (by omega),show(4*j+t)/4=j by omega,show(4*j+t) %4=t by omega,c,Ax (by omega),f]
theorem UB (h:CV s):NF s=some true:=by
 have hl:=h.len;have hf:=h.few;unfold NF;rw [BW,Ae (by omega),Ac,OK _ (by omega),h.ar,WR,Ad h.nx];simp only [Aa,Aj,Ac];obtain⟨b,h1,l,rfl,h3,h4⟩:=Bg (body:=λq:List Int×Int=>Io s q.1 q.2) (λ(o:List Int) i=>(o,i)) s.Vols.length (λi o=>o.length<=5*i/\∀n:Nat,(n:Int)∈o↔C1 s.Arena.Knots ((B9 s).take i) n=true) (λb=>∃l,b= .inl l/\l.length<=5000/\∀i:Nat,(i:Int)∈l↔C1 s.Arena.Knots (B9 s) i=true)
  (λo i hi ho=>by
   obtain⟨o1,o2⟩:=ho;have hx:=Ab hi;have hm:s.Vols[i]∈s.Vols:=AC hi;have a:s.Vols[i].Root∈B9 s:=AH.2 ⟨_,hm,rfl⟩;have hr:=h.root _ a;have e:(B9 s)[i]?=some s.Vols[i].Root:=by unfold B9;rw [AL,hx];rfl
   obtain⟨m,m1,m2,m3⟩:=SP s.Arena (by omega) h.ar hr;simp only [Io,AG,Ad hi,Af,AB,hx,Aa];rw [WR,Ad (h.ids _ hm),d7 (by omega) hr];simp only [Aa,Aj,Ac];have hj:(bif(decide ((i:Int)>0))then((gi s.Vols (sb (i:Int) 1)).bind λx2=>bif(decide (x2.Id>=s.Vols[i].Id))then(some true)else(some false))else(some false):Option Bool)=some false:=by
    by_cases h0:i=0
    ·rw [Ae (by omega:¬(i:Int)>0),Ac]
    rw [Ad (by omega:(i:Int)>0),Af,C4 (by omega) (by omega),show(i:Int)-1=((i-1:Nat):Int) by omega,AB,Ab (by omega)];simp only [Aa];have:=N6 h.asc (show i-1<i by omega) (x:=s.Vols[i-1].Id) (y:=s.Vols[i].Id) (by rw [AL,Ab (by omega)];rfl) (by rw [AL,Ab (by omega)];rfl);rw [Ae (by omega),Ac]
   rw [hj];simp only [Aa,Ac];rw [m1];simp only [Aa];rw [Ct (by omega),ad1 (by omega)];refine .inl ⟨o++m,rfl,by simp;omega,λn=>?_⟩;rw [Ai,o2,m3];unfold C1
   rw [Sm e,Cx])
  (λo ho=>⟨_,by simp only [Io,AG,Ap,Av,Ac],o,rfl,by have:=ho.1;omega,by
   have:=ho.2;rw [AO (by unfold B9;rw [Be];exact A3 _)]at this
   exact this⟩) (s:=[]) ⟨by simp,λn=>by simp [C1]⟩
 have h1':Au (λq:List Int×Int=>Io s q.1 q.2) ([],0)=some (.inl l):=h1;rw [h1'];simp only [Aa,B6];obtain⟨c,q1,q2⟩:=Bg (body:=λq:Int=>Im s l q) (λ(_:Unit) i=>i) s.Arena.Knots.length (λ_ _=>True) (λc=>c= .inl ())
  (λ_ i hi _=>by
   have hu:=h.used i hi;simp only [Im,AG,Ad hi,Af];rw [Hy (by omega) (by omega),VB l _ (by omega),List.contains_iff_mem.2 ((h4 i).2 hu)];simp only [Aa,Aj,Ac];obtain⟨d,e1,e2⟩:=Bg (body:=λq:Int=>Il s (BD s.Arena.Knots (i:Int)) q) (λ(_:Unit) i=>i) (BD s.Arena.Knots (i:Int)).Kids.length (λ_ _=>True) (λc=>c= .inl ())
    (λ_ k hk _=>by
     have hx:=Ab hk;have h44:=(ES h.ar (r:=(i:Int)) (by omega) (by omega)).1;simp only [Il,AG,Ad hk,Af,AB,hx,Aa];rw [ad1 (by omega)]
     cases f:(BD s.Arena.Knots (i:Int)).Leaf with
     |false=>exact .inl ⟨(),rfl,trivial⟩
     |true=>
      obtain⟨r,r1,r2⟩:=qS h.ar h.root hi hu f (AC hk);have:=h.lt r r1 _ r2;rw [Ae (by omega)]
      exact .inl ⟨(),rfl,trivial⟩)
    (λ_ _=>⟨_,by simp only [Il,AG,Ap,Av,Ac],rfl⟩) (s:=()) trivial
   have e1':Au (λq:Int=>Il s (BD s.Arena.Knots (i:Int)) q) 0=some d:=e1;rw [e1',e2];simp only [Aa,B6];rw [ad1 (by omega)]
   exact .inl ⟨(),rfl,trivial⟩)
  (λ_ _=>⟨_,by simp only [Im,AG,Ap,Av,Ac],rfl⟩) (s:=()) trivial
 have q1':Au (λq:Int=>Im s l q) 0=some c:=q1;rw [q1',q2];rfl
theorem VK (k:IntKind) (n:Nat) (h:n<=12) (hk:k= .u8\/k= .u64):k.wrap (n:Int)=(n:Int):=by
 have:n=0\/n=1\/n=2\/n=3\/n=4\/n=5\/n=6\/n=7\/n=8\/n=9\/n=10\/n=11\/n=12:=by omega
 rcases hk with rfl|rfl<;>rcases this with rfl|rfl|rfl|rfl|rfl|rfl|rfl|rfl|rfl|rfl|rfl|rfl|rfl<;>rfl
set_option maxRecDepth 20000 in
theorem Yh (n:Nat) (h:n<=12):∃v,TL (IntKind.u64.wrap (n:Int))=some v:=by
 rw [VK _ n h (.inr rfl)];unfold TL WJ;generalize hT:(bs _)=T;have a:13<=(L T).length:=by rw [<-hT,El];decide
 rw [Ae (by omega:¬(n:Int)>=4294967296),Ac];simp only [Aa];rw [Ae (by omega:¬(n:Int)>=65536),Ac];simp only [Aa];rw [Ae (by omega:¬(n:Int)>=256),Ac];simp only [Aa];rw [VK _ n h (.inl rfl),EE (i:=n) _ (by omega)];exact⟨_,rfl⟩
theorem mM (a:γ->Int) (l:List γ) (hl:l.length<=12):∃r,Oc (M8 a) l=some r/\Ri a r/\Cj a l r:=by
 obtain⟨v,hv⟩:=Yh l.length hl;obtain⟨r,h1,h2,h3⟩:=Ih a [] l [] (by simp;omega);refine⟨r,?_,h2,h3⟩;unfold Oc;rw [BW,hv];simp only [Aa];unfold E5;rw [AA];simp only [F8];rw [C4 (by omega) (by omega),Ad (by omega:(l.length:Int)-0<=12),Af];have h1':BO (M8 a) l 0 (l.length:Int)=some r:=by simpa using h1
 rw [h1'];rfl
def asc (l:List Int):Prop:=l.Pairwise λx y=>x<y
theorem VH:∀{a b:List Int},asc a->asc b->(∀x,x∈a↔x∈b)->a=b
 |[],[],_,_,_=>rfl
 |[],y::b,_,_,h=>by have:=(h y).2 CA;cases this
 |x::a,[],_,_,h=>by have:=(h x).1 CA;cases this
 |x::a,y::b,ha,hb,h=>by
  obtain⟨a1,a2⟩:=CW.1 ha;obtain⟨b1,b2⟩:=CW.1 hb;have c:x=y:=by
   have h1:=(h x).1 CA;have h2:=(h y).2 CA
   rcases BB.1 h1 with h1|h1
   ·exact h1
   rcases BB.1 h2 with h2|h2
   ·exact h2.symm
   have:=a1 y h2;have:=b1 x h1;omega
  subst c;congr 1
  refine VH a2 b2 λz=>⟨λhz=>?_,λhz=>?_⟩
  ·rcases BB.1 ((h z).1 (Dk _ hz))with e|e
   ·have:=a1 z hz;omega
   exact e
  rcases BB.1 ((h z).2 (Dk _ hz))with e|e
  ·have:=b1 z hz;omega
  exact e
def q8 (l:List Int) (x:Int):List Int:=l.filter (λy=>decide (y<x))++(if x>0 then [x]else [])++l.filter (λy=>decide (y>x))
theorem QQ {body:List Int×Int->Option ((List Int×Int)⊕(List Int))} (l:List Int) (p:Int->Bool) (o:List Int) (hM:l.length+o.length<=1073741824) (hb:∀(u:List Int) (i:Nat) x,l[i]?=some x->u.length<=o.length+i->body (u,(i:Int))=(bif p x then((ap 8 u [x]).bind λc=>some (.inl (c,ad (i:Int) 1)))else some (.inl (u,ad (i:Int) 1)))) (he:∀u,body (u,(l.length:Int))=some (.inr u)):Au body (o,0)=some (o++l.filter p):=by
 obtain⟨b,h1,rfl⟩:=Bg (body:=body) (λ(u:List Int) i=>(u,i)) l.length (λi u=>u=o++(l.take i).filter p) (λu=>u=o++l.filter p)
  (λu i hi hu=>by
   have hg:l[i]?=some l[i]:=Ab hi;have a:u.length<=o.length+i:=by
    rw [hu,Ah];have:=Dc p (l.take i);simp only [AE]at this;omega
   refine .inl ?_;rw [hb u i _ hg a];have et:l.take (i+1)=l.take i++ [l[i]]:=by rw [Aq hi]
   cases hp:p l[i]with
   |true=>
    simp only [Af];rw [Ct (by simp only [An];omega),ad1 (by omega)];refine⟨_,rfl,?_⟩;rw [et,AR,hu,Ca (by simpa using hp),FP,Ao]
   |false=>
    simp only [Ac];rw [ad1 (by omega)];refine⟨_,rfl,?_⟩
    rw [et,AR,hu,Cl (by simp [hp]),FP,Az])
  (λu hu=>⟨u,he u,by rw [hu,AP]⟩) (s:=o) (by simp)
 exact h1
theorem yB (l:List Int) (x:Int) (hl:l.length<=33554432):MG l x=some (q8 l x):=by
 unfold MG
 rw [QQ (body:=λs:List Int×Int=>HC l x s.1 s.2) l (λy=>decide (y<x)) [] (by simp only [Bk];omega)
  (λu i y hy _=>by
   have hi:=(Ag.1 hy).1
   simp only [HC,AG,Ad hi,Af,AB,hy,Aa])
  (λu=>by simp only [HC,AG,Ap,Av,Ac])]
 simp only [Aa,A5];have h1:=Dc (λy=>decide (y<x)) l
 have step:∀o:List Int,o.length<=33554433->Au (λs:List Int×Int=>Gk l x s.1 s.2) (o,0)=some (o++l.filter (λy=>decide (y>x))):=λo ho=>
  QQ (body:=λs:List Int×Int=>Gk l x s.1 s.2) l (λy=>decide (y>x)) o (by omega)
   (λu i y hy _=>by
    have hi:=(Ag.1 hy).1
    simp only [Gk,AG,Ad hi,Af,AB,hy,Aa])
   (λu=>by simp only [Gk,AG,Ap,Av,Ac])
 unfold q8;by_cases hx:x>0
 ·rw [Ad hx,Af,Ct (by simp only [An];omega),Aw hx];simp only [Aa];rw [step _ (by simp only [Ah,An];omega)];rfl
 rw [Ae hx,Ac,Ax hx];simp only [Aa];rw [step _ (by omega),Az];rfl
theorem lO {y:Int} (hl:∀z∈l,0<z):y∈q8 l x↔y∈l\/(y=x/\0<x):=by
 unfold q8;simp only [Ai,AT,A6];constructor
 ·rintro((⟨h1,_⟩|h1)|⟨h1,_⟩)
  ·exact .inl h1
  ·split at h1
   ·rename_i hx;rw [Ay]at h1;exact .inr ⟨h1,hx⟩
   cases h1
  exact .inl h1
 rintro(h1|⟨rfl,h2⟩)
 ·rcases Int.lt_trichotomy y x with h|h|h
  ·exact .inl (.inl ⟨h1,h⟩)
  ·subst h;have:=hl y h1;exact .inl (.inr (by rw [Aw this];exact Ay.2 rfl))
  exact .inr ⟨h1,h⟩
 exact .inl (.inr (by rw [Aw h2];exact Ay.2 rfl))
theorem lP (h:asc l):asc (q8 l x):=by
 unfold q8 asc;rw [Bx,Bx];refine⟨⟨List.Pairwise.filter _ h,?_,?_⟩,List.Pairwise.filter _ h,?_⟩
 ·split<;>simp
 ·intro a ha b hb;split at hb
  ·rw [Ay]at hb;subst hb;simpa using(AT.1 ha).2
  cases hb
 intro a ha b hb;have c:x<b:=by simpa using(AT.1 hb).2
 rcases Ai.1 ha with ha|ha
 ·have:a<x:=by simpa using(AT.1 ha).2
  omega
 split at ha
 ·rw [Ay]at ha;omega
 cases ha
theorem WP (l:List Int) (x:Int) (h:asc l):(q8 l x).length<=l.length+1:=by
 have hd:(l.filter (λy=>decide (y<x))).length+(l.filter (λy=>decide (y>x))).length<=l.length:=by
  have e:∀l:List Int,(l.filter (λy=>decide (y<x))).length+(l.filter (λy=>decide (y>x))).length<=l.length:=by
   intro l
   induction l with
   |nil=>simp
   |cons z l ih=>
    simp only [List.filter_cons,A0];by_cases h1:z<x
    ·rw [Aw (by simpa using h1),Ax (by simp;omega)];simp only [A0];omega
    by_cases h2:z>x
    ·rw [Ax (by simpa using h1),Aw (by simpa using h2)];simp only [A0];omega
    rw [Ax (by simpa using h1),Ax (by simpa using h2)];omega
  exact e l
 unfold q8;simp only [Ah];split<;>simp only [An,Bk]<;>omega
noncomputable def aL (s:Store) (n:Nat):List Int:=((s.Vols.take n).map λv=>(IN s.Arena v.Root).getD []).flatten
theorem m8 (s:Store) (n:Nat) (h:n<s.Vols.length):aL s (n+1)=aL s n++(IN s.Arena s.Vols[n].Root).getD []:=by
 unfold aL;rw [Aq h,Cq,List.flatten_append];simp
def iM (s:Store) (n:Nat) (l:List Int):Prop:=asc l/\∀x,x∈l↔x∈aL s n/\0<x
theorem dJ (s:Store) (hv:s.Vols.length<=1048576) (ha:jC s.Arena):∃l,KU s=some l/\iM s s.Vols.length l/\l.length<=16777216:=by
 unfold KU;obtain⟨l,h1,h2,h3⟩:=Bg (body:=λq:List Int×Int=>KT s q.1 q.2) (λ(o:List Int) i=>(o,i)) s.Vols.length (λi o=>iM s i o/\o.length<=16*i) (λo=>iM s s.Vols.length o/\o.length<=16777216)
  (λo i hi ho=>by
   have hg:s.Vols[i]?=some s.Vols[i]:=Ab hi;obtain⟨⟨d,e⟩,g⟩:=ho;obtain⟨a,a1,_,a2⟩:=f8 s.Arena ha s.Vols[i].Root;refine .inl ?_;simp only [KT,AG,Ad hi,Af,AB,hg,Aa,a1];obtain⟨u,q1,⟨q2,q3⟩,q4⟩:=Bg (body:=λq:List Int×Int=>KS a q.1 q.2) (λ(u:List Int) k=>(u,k)) a.length (λk u=>(asc u/\∀x,x∈u↔(x∈aL s i++a.take k)/\0<x)/\u.length<=o.length+k) (λu=>(asc u/\∀x,x∈u↔(x∈aL s i++a)/\0<x)/\u.length<=o.length+a.length)
    (λu k hk hu=>by
     have f:a[k]?=some a[k]:=Ab hk;obtain⟨⟨b,c⟩,j⟩:=hu;refine .inl ?_;simp only [KS,AG,Ad hk,Af,AB,f,Aa];rw [yB u a[k] (by omega),ad1 (by omega)];refine⟨_,rfl,⟨lP b,λx=>?_⟩,by have:=WP u a[k] b;omega⟩;rw [lO (λz hz=>((c z).1 hz).2),c,Aq hk];simp only [Ai,Ay];constructor
     ·rintro(⟨h,h0⟩|⟨rfl,h0⟩)
      ·exact⟨h.imp id .inl,h0⟩
      exact⟨.inr (.inr rfl),h0⟩
     rintro⟨h|h|h,h0⟩
     ·exact .inl ⟨.inl h,h0⟩
     ·exact .inl ⟨.inr h,h0⟩
     exact .inr ⟨h,by omega⟩)
    (λu hu=>⟨u,by simp only [KS,AG,Ap,Av,Ac],by rw [AP]at hu;exact hu⟩) (s:=o) ⟨⟨d,λx=>by rw [e];simp⟩,by omega⟩
   rw [q1];simp only [Aa];rw [ad1 (by omega)];refine⟨u,rfl,⟨q2,λx=>?_⟩,by omega⟩
   rw [q3,m8 s i hi,a1,BA])
  (λo ho=>⟨o,by simp only [KT,AG,Ap,Av,Ac],ho.1,by omega⟩) (s:=[]) ⟨⟨List.Pairwise.nil,λx=>by simp [aL]⟩,by simp⟩
 rw [h1];exact⟨l,rfl,h2,h3⟩
def uniq (l:List Int) (n:Nat):List Int:=((List.range n).filter λi=>i==0||l[i-1]?.getD 0 !=l[i]?.getD 0).map λi=>l[i]?.getD 0
theorem uV (x a b:Int):IE x a b=some (decide (a<=x/\x<=b)):=by
 unfold IE;by_cases h:x>=a
 ·rw [Ad h,Af];congr 1;rw [Ee];simp;omega
 rw [Ae h,Ac,Ae (by omega)]
theorem Tn (b:Bool) (x y:α):(bif b then some x else some y)=some (bif b then x else y):=by cases b<;>rfl
def cn (n:Nat) (p:Nat->Bool):Nat:=((List.range n).filter p).length
theorem mC (n:Nat) (p:Nat->Bool):cn (n+1) p=cn n p+(bif p n then 1 else 0):=by
 unfold cn;rw [Ed,AR,Ah]
 cases h:p n with
 |true=>rw [Ca (by simpa using h)];simp
 |false=>rw [Cl (by simp [h])];simp
theorem rQ (n:Nat) (p:Nat->Bool):cn n p<=n:=by
 have:=Dc p (List.range n);rw [Ch]at this;exact this
theorem Zo {body:Int×Int->Option ((Int×Int)⊕Int)} (n:Nat) (p:Nat->Bool) (n0:Int) (h0:0<=n0) (hM:(n:Int)+n0<=1152921504606846976) (hb:∀(m:Int) (i:Nat),i<n->body (m,(i:Int))=(bif p i then some (.inl (ad m 1,ad (i:Int) 1))else some (.inl (m,ad (i:Int) 1)))) (he:∀m,body (m,(n:Int))=some (.inr m)):Au body (n0,0)=some (n0+(cn n p:Int)):=by
 obtain⟨b,h1,rfl⟩:=Bg (body:=body) (λ(m:Int) i=>(m,i)) n (λi m=>m=n0+(cn i p:Int)) (λm=>m=n0+(cn n p:Int))
  (λm i hi hm=>by
   have hc:=rQ i p;refine .inl ?_;rw [hb m i hi]
   cases hp:p i with
   |true=>
    simp only [Af];rw [C6 (by omega) (by omega),ad1 (by omega)];refine⟨_,rfl,?_⟩;rw [mC,hp,hm];simp;omega
   |false=>
    simp only [Ac];rw [ad1 (by omega)];refine⟨_,rfl,?_⟩;rw [mC,hp,hm]
    simp)
  (λm hm=>⟨m,he m,hm⟩) (s:=n0) (by simp [cn])
 exact h1
theorem Zf {body:List γ×Int->Option ((List γ×Int)⊕List γ)} (by_:Nat) (n:Nat) (p:Nat->Bool) (g:Nat->γ) (hM:n*by_<=140737488355328) (hn:n<=1152921504606846976) (hb:∀(u:List γ) (i:Nat),i<n->body (u,(i:Int))=(bif p i then((ap by_ u [g i]).bind λc=>some (.inl (c,ad (i:Int) 1)))else some (.inl (u,ad (i:Int) 1)))) (he:∀u,body (u,(n:Int))=some (.inr u)):Au body ([],0)=some (((List.range n).filter p).map g):=by
 obtain⟨b,h1,rfl⟩:=Bg (body:=body) (λ(u:List γ) i=>(u,i)) n (λi u=>u=((List.range i).filter p).map g) (λu=>u=((List.range n).filter p).map g)
  (λu i hi hu=>by
   have a:u.length<=i:=by
    rw [hu,Be];exact rQ i p
   refine .inl ?_;rw [hb u i hi]
   cases hp:p i with
   |true=>
    simp only [Af];have:(u.length+ [g i].length)*by_<=n*by_:=BC _ (by simp only [An];omega);rw [Ct (by omega),ad1 (by omega)];refine⟨_,rfl,?_⟩;rw [Ed,AR,Ca (by simpa using hp),FP,Cq,hu];rfl
   |false=>
    simp only [Ac];rw [ad1 (by omega)];refine⟨_,rfl,?_⟩
    rw [Ed,AR,Cl (by simp [hp]),FP,Az,hu])
  (λu hu=>⟨u,he u,hu⟩) (s:=[]) (by simp)
 exact h1
def cI (c:Int) (r:List A4):Nat->Option Nat
 |0=>none
 |n+1=>bif LD c (r[n]?.getD bG)then some n else cI c r n
theorem VU (c:Int) (r:List A4):∀n,n<=r.length->eD c r n (cI c r n)
 |0,_=>λk y hk=>by omega
 |n+1,hn=>by
  have hg:r[n]?=some r[n]:=Ab (by omega);have ih:=VU c r n (by omega);unfold cI;rw [hg,BA]
  cases hi:LD c r[n]with
  |true=>exact⟨by omega,⟨_,hg,hi⟩,λk y h1 h2=>by omega⟩
  |false=>
   simp only [Ac]
   cases ht:cI c r n with
   |none=>
    rw [ht]at ih;intro k y hk hy;by_cases e:k=n
    ·subst e;rw [hg]at hy;injection hy with hy;rw [<-hy];exact hi
    exact ih k y (by omega) hy
   |some j=>
    rw [ht]at ih;obtain⟨h1,h2,h3⟩:=ih;refine⟨by omega,h2,λk y hj hk hy=>?_⟩;by_cases e:k=n
    ·subst e;rw [hg]at hy;injection hy with hy;rw [<-hy];exact hi
    exact h3 k y hj (by omega) hy
def Fj (a:Int) (y:A4):Bool:=y.Page.Kind==2&&decide (y.Page.Tx>=a)
def lH (r:List A4) (a:List Bool) (c:Int):List Bool:=match cI c r r.length with
 |some i=>a.set i true
 |none=>a
theorem YR {c:Int} (r:List A4) (d:List Int) (hr:r.length<=1048576) (hc:d[k]?=some c) (b:List Bool) (ho:b.length=r.length):∀n,n<=r.length->
  Au (λs:List Bool×Int=>EO r d (k:Int) s.1 s.2) (b,(n:Int)-1)=some (match cI c r n with|some i=>b.set i true|none=>b)
 |0,_=>by
  rw [AA];simp only [EO];rw [Ae (by omega),Ac];rfl
 |n+1,hn=>by
  have hg:r[n]?=some r[n]:=Ab (by omega);have f:b[n]?=some b[n]:=Ab (by omega);have e:((n+1:Nat):Int)-1=(n:Int):=by omega
  have ht:cI c r (n+1)=bif LD c r[n]then some n else cI c r n:=by
   rw [cI,hg,BA]
  have hj:(bif r[n].Page.Kind==1 then some (r[n].Page.Tx==c)else some false)=some (LD c r[n]):=by
   unfold LD;cases r[n].Page.Kind==1<;>rfl
  have hb:EO r d (k:Int) b (n:Int)=some (bif LD c r[n]then .inl (b.set n true,-2)else .inl (b,(n:Int)-1)):=by
   simp only [EO];rw [Ad (by omega),Af];simp only [AB,hg,f,hc,Aa];rw [hj,Aa,C4 (by omega) (by omega),C4 (a:=(n:Int)) (by omega) (by omega)];cases LD c r[n]<;>simp only [Af,Ac,E6]<;>rfl
  rw [e,AA];simp only [hb,ht]
  cases LD c r[n]with
  |true=>
   simp only [Af];rw [AA];simp only [EO];rw [Ae (by omega),Ac]
  |false=>exact YR r d hr hc b ho n (by omega)
theorem lG (r:List A4) (a:List Bool) (c:Int):(lH r a c).length=a.length:=by
 unfold lH;split<;>simp
theorem uI (r:List A4) (a:List Bool) (c:Int) (j:Nat):(lH r a c)[j]?=a[j]?.map (λb=>b||(cI c r r.length==some j)):=by
 unfold lH
 cases cI c r r.length with
 |none=>
  show a[j]?=a[j]?.map (λb=>b||((none:Option Nat)==some j));have e:(λb:Bool=>b||((none:Option Nat)==some j))=id:=by
   funext b;cases b<;>rfl
  rw [e,Option.map_id];rfl
 |some i=>
  simp only [Ci];by_cases e:i=j
  ·subst e;simp only [BU];by_cases hi:i<a.length
   ·rw [Aw hi,Ab hi];simp
   rw [Ax hi,D1 (by omega)];rfl
  rw [Ax e];have:(some i==some j)=false:=by simpa using e
  rw [this];have e2:(λb:Bool=>b||false)=id:=by
   funext b;cases b<;>rfl
  rw [e2,Option.map_id];rfl
theorem d9 (r:List A4) (j:Nat):∀(a:List Int) (d:List Bool),(a.foldl (lH r) d)[j]?=d[j]?.map (λb=>b||a.any (λc=>cI c r r.length==some j))
 |[],d=>by simp
 |c::a,d=>by
  simp only [L0,List.any_cons];rw [d9 r j a,uI];cases d[j]? <;>simp [Bool.or_assoc]
theorem eV (r:List A4):∀(a:List Int) (b:List Bool),(a.foldl (lH r) b).length=b.length
 |[],b=>rfl
 |c::a,b=>by simp only [L0];rw [eV r a,lG]
theorem V5 (r:List A4) (d:List Int) (a:Int) (hr:r.length<=1048576) (hl:d.length<=16777216):HB r d a=some (d.foldl (lH r) (r.map (Fj a))):=by
 unfold HB;have g:mk 1 false (ln r)=some (List.replicate r.length false):=by
  unfold mk;rw [BW,Aw ⟨by omega,by omega,by omega⟩,Bc]
 rw [g,Aa];obtain⟨u,h1,rfl⟩:=Bg (body:=λs:List Bool×Int=>HA r a s.1 s.2) (λ(u:List Bool) i=>(u,i)) r.length (λi u=>u=(r.take i).map (Fj a)++List.replicate (r.length-i) false) (λu=>u=r.map (Fj a))
  (λu i hi hu=>by
   have hg:r[i]?=some r[i]:=Ab hi;have e:r.length-i=(r.length-(i+1))+1:=by omega
   have f:((r.take i).map (Fj a)).length=i:=by rw [Be,AE];omega
   rw [e,FZ]at hu;have et:(r.take (i+1)).map (Fj a)=(r.take i).map (Fj a)++ [Fj a r[i]]:=by rw [Aq hi,Cq];rfl
   have h:gi u (i:Int)=some false:=by rw [hu];have:=uY ((r.take i).map (Fj a)) false (List.replicate (r.length-(i+1)) false);rw [f]at this;exact this
   have j:∀b,si u (i:Int) b=(r.take i).map (Fj a)++b::List.replicate (r.length-(i+1)) false:=λb=>by rw [hu];have:=tL ((r.take i).map (Fj a)) false b (List.replicate (r.length-(i+1)) false);rw [f]at this;exact this
   refine .inl ⟨(r.take (i+1)).map (Fj a)++List.replicate (r.length-(i+1)) false,?_,rfl⟩;simp only [HA,AG,Ad hi,Af];rw [AB,hg,Aa,h];simp only [Aa,j];rw [ad1 (by omega),et]
   cases hk:r[i].Page.Kind==2 with
   |true=>simp [Fj,hk]
   |false=>simp [Fj,hk])
  (λu hu=>⟨u,by simp only [HA,AG,Ap,Av,Ac],by rw [hu];simp⟩) (s:=List.replicate r.length false) (by simp)
 rw [h1,Aa];have h2:=O5 (body:=λs:List Bool×Int=>H9 r d s.1 s.2) (λ(u:List Bool) i=>(u,i)) d (λu _ c=>(.inl (lH r u c):List Bool⊕List Bool)) (λu=>u) (λ_ u=>u.length=r.length)
  (λu i c hc hu=>by
   have hi:=(Ag.1 hc).1;refine⟨?_,λu' hu'=>by injection hu' with hu';rw [<-hu',lG,hu]⟩;simp only [H9,AG,Ad hi,Af];rw [show ln r=(r.length:Int)from rfl,C4 (by omega) (by omega),YR r d hr hc u hu r.length (A3 _),Aa,ad1 (by omega)]
   rfl)
  (λu hu=>by simp only [H9,AG,Ap,Av,Ac]) (s:=r.map (Fj a)) (by simp)
 rw [h2,Aa];have:∀(l:List Int) (i:Nat) (u:List Bool),NI (λu _ c=>(.inl (lH r u c):List Bool⊕List Bool)) (λu=>u) l i u=l.foldl (lH r) u:=by
  intro l
  induction l with
  |nil=>intro i u;rfl
  |cons c l ih=>intro i u;simp only [NI,L0];exact ih _ _
 rw [this]
def bk (r:List A4) (b:Int) (j:Nat):Bool:=(r[j]?.getD bG).Block==b
theorem qB (r:List A4) (nd:List Bool) (b:Int) (hr:r.length<=1048576) (hn:nd.length=r.length):Qw r nd b=some ((cn r.length (λj=>nd[j]?.getD false&&bk r b j):Nat):Int):=by
 unfold Qw
 rw [Zo (body:=λs:Int×Int=>Md r nd b s.1 s.2) r.length (λj=>nd[j]?.getD false&&bk r b j) 0 (by omega) (by omega)
  (λm i hi=>by
   have hg:r[i]?=some r[i]:=Ab hi;have a:nd[i]?=some nd[i]:=Ab (by omega);simp only [Md,AG,Ad hi,Af,AB,hg,a,Aa,BA,bk]
   cases nd[i]<;>simp)
  (λm=>by simp only [Md,AG,Ap,Av,Ac])]
 simp
theorem rZ (x:Block) (hl:x.Leaves.length<=1048576):∃n:Int,NE x=some n/\Od x=some (!decide (n<ln x.Leaves)):=by
 have a:∀l:List Leaf,(cn l.length (λj=>(l[j]?.getD (Leaf.mk 1 (bs []))).Is==0)=l.length↔l.zipIdx.all (λz=>z.1.Is==0)=true):=by
  intro l;rw [G7];constructor
  ·intro h z hz;obtain⟨x,i⟩:=z;have b:=List.mem_zipIdx hz;simp only at b⊢;obtain⟨_,h2,h3⟩:=b;unfold cn at h;have h4:((List.range l.length).filter λj=>(l[j]?.getD (Leaf.mk 1 (bs []))).Is==0).length=(List.range l.length).length:=by rw [h,Ch]
   have h5:=List.length_filter_eq_length_iff.1 h4 i (Iu.2 (by omega));rw [Ab (by omega),BA]at h5;rw [h3];simpa using h5
  intro h;unfold cn;have:((List.range l.length).filter λj=>(l[j]?.getD (Leaf.mk 1 (bs []))).Is==0).length=(List.range l.length).length:=by
   refine List.length_filter_eq_length_iff.2 λi hi=>?_
   have hi:=Iu.1 hi;rw [Ab hi,BA];exact h (l[i],i) (List.mem_zipIdx_iff_getElem?.2 (Ab hi))
  rw [this,Ch]
 refine⟨(cn x.Leaves.length (λj=>(x.Leaves[j]?.getD (Leaf.mk 1 (bs []))).Is==0):Nat),?_,?_⟩
 ·unfold NE
  rw [Zo (body:=λq:Int×Int=>HP x q.1 q.2) x.Leaves.length (λj=>(x.Leaves[j]?.getD (Leaf.mk 1 (bs []))).Is==0) 0 (by omega) (by omega)
   (λm i hi=>by
    have hg:x.Leaves[i]?=some x.Leaves[i]:=Ab hi
    simp only [HP,AG,Ad hi,Af,AB,hg,Aa,BA])
   (λm=>by simp only [HP,AG,Ap,Av,Ac])]
  simp
 unfold Od
 rw [WL (body:=λs:Int=>I4 x s) x.Leaves (λ_ y=>y.Is==0) (.inr false) (.inl ()) (by omega)
  (λi y hy=>by
   have hi:=(Ag.1 hy).1;simp only [I4,AG,Ad hi,Af,AB,hy,Aa];rw [ad1 (by omega)]
   cases hk:y.Is==0 with
   |true=>simp [bne,hk]
   |false=>simp [bne,hk])
  (by simp only [I4,AG,Ap,Av,Ac])]
 have c:=rQ x.Leaves.length (λj=>(x.Leaves[j]?.getD (Leaf.mk 1 (bs []))).Is==0)
 cases hb:x.Leaves.zipIdx.all (λz=>z.1.Is==0)with
 |true=>
  have:=(a x.Leaves).2 hb;rw [this,BW];simp
 |false=>
  have:¬cn x.Leaves.length (λj=>(x.Leaves[j]?.getD (Leaf.mk 1 (bs []))).Is==0)=x.Leaves.length:=λe=>by rw [(a x.Leaves).1 e]at hb;cases hb
  rw [BW,Ad (by omega)];rfl
theorem bK:Qa=Hd:=rfl
def Np:List Leaf:=List.replicate 4 (Leaf.mk 0 (bs []))
theorem QD:mk 24 (Leaf.mk 0 (bs [])) 4=some Np:=TK (n:=4) (by omega) (by omega)
theorem Xt:KA=some Np:=by unfold KA;rw [QD];rfl
theorem e7:OI=Kj:=by
 funext n;unfold OI Kj;have:KF n=FT n:=by
  funext a b;unfold KF FT;rw [Xt,QD]
 rw [this];rfl
theorem FL (f:Flash) (h:bM f):Hd f=some f:=by
 unfold Hd;have:=SJ (body:=λs:Int×List Block=>J6 f s.1 s.2) f.Blocks (λx=>x)
  (λi x a hx ho=>by
   have b:=(Ag.1 hx).1;have h1:=h.1;have h2:=h.2 x (A7 hx);unfold J6;simp only [AG,Ad b,Af,AB,hx,Aa]
   rw [Ct (by simp only [Bk];omega),Aa,Ct (by simp only [An];omega),Aa,ad1 (by omega),A5])
  (λa=>by
   unfold J6
   simp only [AG,Ap,Av,Ac])
 rw [this,Aa,List.map_id']
def vP (f:Flash):Prop:=f.Blocks.length<=1048576/\∀b∈f.Blocks,b.Leaves.length=4
theorem vP.cap (h:vP f):bM f:=⟨h.1,λb hb=>by rw [h.2 b hb];omega⟩
theorem Wc (n:Int):(L (Hz [n])).length=1:=by rw [IY];rfl
theorem fR (r:Ds):∃v,MJ r=some v/\QJ r=some v/\(v=true->(0<=r.Arg/\r.Arg<=1000000000)/\(0<=r.Chunk/\r.Chunk<=1000000000)):=by
 cases r with
 |mk kind vol arg chunk=>
 unfold MJ QJ;simp only [lQ,uV,Aa,Tn];refine⟨_,rfl,?_,?_⟩
 ·congr 1;rw [Ee];by_cases h1:kind=1
  ·subst h1;by_cases ha:0<=arg/\arg<=1000000000<;>by_cases hv:vol=0<;>by_cases hc:chunk=0<;>simp [ha,hv,hc]
  have e1:(kind==1)=false:=by simpa using h1
  simp only [e1,Ac];by_cases ha:0<=arg/\arg<=1000000000
  ·by_cases hk:kind=2\/kind=3\/kind=4\/kind=5
   ·rcases hk with rfl|rfl|rfl|rfl<;>by_cases hv:1<=vol/\vol<=9<;>by_cases hc:chunk=0<;>simp [ha,hv,hc,bne]<;>omega
   have e2:¬(2<=kind/\kind<=5):=by omega
   have k2:(kind==2)=false:=by simp;omega
   have k3:(kind==3)=false:=by simp;omega
   have k4:(kind==4)=false:=by simp;omega
   have k5:(kind==5)=false:=by simp;omega
   by_cases hv:1<=vol/\vol<=9<;>by_cases hc:chunk=0<;>simp [ha,hv,hc,e2,k2,k3,k4,k5,bne]
  have e3:decide (0<=arg/\arg<=1000000000)=false:=Ae ha;rw [e3];by_cases hk:kind=2\/kind=3\/kind=4\/kind=5
  ·rcases hk with rfl|rfl|rfl|rfl<;>by_cases hv:1<=vol/\vol<=9<;>by_cases hc:chunk=0<;>simp [hv,hc,bne]<;>omega
  have k2:(kind==2)=false:=by simp;omega
  have k3:(kind==3)=false:=by simp;omega
  have k4:(kind==4)=false:=by simp;omega
  have k5:(kind==5)=false:=by simp;omega
  by_cases hv:1<=vol/\vol<=9<;>by_cases hc:chunk=0<;>simp [hv,hc,k2,k3,k4,k5,bne]
 by_cases ha:0<=arg/\arg<=1000000000
 ·refine λh=>⟨ha,?_⟩
  by_cases hc:chunk=0
  ·omega
  have ec:(chunk==0)=false:=by simpa using hc
  by_cases h1:kind=1
  ·subst h1;by_cases hv:vol=0<;>simp [ha,hv,ec]at h
  have e1:(kind==1)=false:=by simpa using h1
  by_cases h4:kind=4
  ·subst h4;by_cases hv:1<=vol/\vol<=9<;>simp [ha,hv,bne]at h;omega
  have e4:(kind==4)=false:=by simpa using h4
  by_cases hk:2<=kind/\kind<=5<;>by_cases hv:1<=vol/\vol<=9<;>simp [ha,hv,hk,e1,e4,ec,bne]at h
 intro h;rw [Ae ha]at h;simp at h
def nb (l:List Leaf):Nat:=(l.map O7).sum
theorem lF (l:List Leaf) (i:Nat) (h:i<l.length):nb (l.take (i+1))=nb (l.take i)+O7 l[i]:=by
 unfold nb;rw [Aq h,Cq,List.sum_append];simp
theorem vY (l:List Leaf) (i:Nat) (h:i<=l.length):nb (l.take i)<=i:=by
 have:=r6 (l.take i);rw [AE]at this;unfold nb;omega
theorem V6 (x:Leaf):O7 x=if(x.Is==0)=true then 1 else 0:=by
 unfold O7;cases x.Is==0<;>rfl
theorem iB {x:Block} (f:Flash) (i:Nat) (hx:f.Blocks[i]?=some x) (hl:x.Leaves.length<=1048576):Au (λs:Int×Int×Int=>Gn f (i:Int) s.1 s.2.1 s.2.2) (0,0,0)=some ((nb x.Leaves:Int),((x.Leaves.length-nb x.Leaves:Nat):Int)):=by
 obtain⟨b,h1,rfl⟩:=Bg (body:=λs:Int×Int×Int=>Gn f (i:Int) s.1 s.2.1 s.2.2) (λ(s:Int×Int) k=>(s.1,s.2,k)) x.Leaves.length (λk s=>s=((nb (x.Leaves.take k):Int),((k-nb (x.Leaves.take k):Nat):Int))) (λs=>s=((nb x.Leaves:Int),((x.Leaves.length-nb x.Leaves:Nat):Int)))
  (λs k hk hs=>by
   subst hs;have hg:x.Leaves[k]?=some x.Leaves[k]:=Ab hk;have c:=vY x.Leaves k (by omega);have a:=lF x.Leaves k hk;rw [V6]at a;refine .inl ?_;simp only [Gn,AB,hx,Aa,AG,Ad hk,Af,hg]
   cases hb:x.Leaves[k].Is==0 with
   |true=>
    rw [hb]at a;simp only [Af];rw [C6 (by omega) (by omega),ad1 (by omega)];refine⟨(((nb (x.Leaves.take k):Nat):Int)+1,((k-nb (x.Leaves.take k):Nat):Int)),rfl,?_⟩;simp only [BU]at a;rw [a];congr 1;congr 1;omega
   |false=>
    rw [hb]at a;simp only [Ac];rw [C6 (by omega) (by omega),ad1 (by omega)];refine⟨(((nb (x.Leaves.take k):Nat):Int),((k-nb (x.Leaves.take k):Nat):Int)+1),rfl,?_⟩;simp only [BL,FV]at a;rw [a];congr 1
    omega)
  (λs hs=>⟨_,by simp only [Gn,AB,hx,Aa,AG,Ap,Av,Ac];rfl,by rw [hs,AP]⟩) (s:=(0,0)) (by simp [nb])
 exact h1
def Nk (f:Flash) (i:Nat):Bool:=match f.Blocks[i]? with
 |some x=>!x.Bad&&decide (nb x.Leaves=x.Leaves.length)
 |none=>false
theorem rH {x:Block} (f:Flash) (i:Nat) (hx:f.Blocks[i]?=some x) (hl:x.Leaves.length<=1048576):Au (λs:Bool×Int=>Fv f (i:Int) s.1 s.2) (!x.Bad,0)=some (Nk f i):=by
 obtain⟨b,h1,rfl⟩:=Bg (body:=λs:Bool×Int=>Fv f (i:Int) s.1 s.2) (λ(s:Bool) k=>(s,k)) x.Leaves.length (λk s=>s=(!x.Bad&&decide (nb (x.Leaves.take k)=k))) (λs=>s=Nk f i)
  (λs k hk hs=>by
   have hg:x.Leaves[k]?=some x.Leaves[k]:=Ab hk;have c:=vY x.Leaves k (by omega);have a:=lF x.Leaves k hk;rw [V6]at a;refine .inl ?_;simp only [Fv,AB,hx,Aa,AG,Ad hk,Af,hg];rw [ad1 (by omega)]
   cases s with
   |true=>
    simp only [Af];refine⟨_,rfl,?_⟩;have hs':=hs.symm;simp only [Ak,A6]at hs';rw [hs'.1,CH,a,hs'.2];cases hb:x.Leaves[k].Is==0<;>simp
   |false=>
    simp only [Ac];refine⟨_,rfl,?_⟩;have hs':=hs.symm;rw [Ea]at hs';symm;rw [Ea]
    rcases hs' with q|q
    ·exact .inl q
    refine .inr (Ae ?_);have:=of_decide_eq_false q
    split at a<;>omega)
  (λs hs=>⟨_,by simp only [Fv,AB,hx,Aa,AG,Ap,Av,Ac];rfl,by rw [hs,AP];simp only [Nk,hx]⟩) (s:=!x.Bad) (by simp [nb])
 exact h1
def UE (f:Flash):List Int:=((List.range f.Blocks.length).filter (Nk f)).map (λ(i:Nat)=>(i:Int))
theorem Ym (f:Flash) (h:bM f):LA f=some (UE f)/\SZ f=some (UE f):=by
 obtain⟨c,a⟩:=h;constructor
 ·unfold LA
  rw [Zf (body:=λs:List Int×Int=>GW f s.1 s.2) 8 f.Blocks.length (Nk f) (λ(i:Nat)=>(i:Int)) (by omega) (by omega)
   (λu i hi=>by
    have hg:f.Blocks[i]?=some f.Blocks[i]:=Ab hi;simp only [GW,AG,Ad hi,Af,AB,hg,Aa];rw [rH f i hg (a _ (AC hi))]
    simp only [Aa])
   (λu=>by simp only [GW,AG,Ap,Av,Ac])]
  rfl
 unfold SZ
 rw [Zf (body:=λs:List Int×Int=>IQ f s.1 s.2) 8 f.Blocks.length (Nk f) (λ(i:Nat)=>(i:Int)) (by omega) (by omega)
  (λu i hi=>by
   have hg:f.Blocks[i]?=some f.Blocks[i]:=Ab hi;have b:=Zs f.Blocks[i] (a _ (AC hi));have e:((f.Blocks[i].Leaves.map O7).sum:Int)=((nb f.Blocks[i].Leaves:Nat):Int):=rfl;rw [e]at b;have ed:(((nb f.Blocks[i].Leaves:Nat):Int)==ln f.Blocks[i].Leaves)=decide (nb f.Blocks[i].Leaves=f.Blocks[i].Leaves.length):=by
    rw [BW,Ee,A6,Dm];omega
   simp only [IQ,AG,Ad hi,Af,AB,hg,Aa,b,ed,Nk]
   cases f.Blocks[i].Bad<;>simp)
  (λu=>by simp only [IQ,AG,Ap,Av,Ac])]
 rfl
end Go.TI
