/- What is planned for a drawn device is written. No condition; no program is in sight. -/
import Derived.Test.YtdhemppeejlbeabGreatWRP0
set_option linter.unusedVariables false
set_option linter.unusedSimpArgs false
namespace Go.TI
open Go
theorem tR (s:ByteArray) (f a:Int):MC s f a=Au (λn:Int=>Gf s a f n) 0:=by
 show(Au (λn:Int=>Gf s a f n) 0).bind _=_;cases Au (λn:Int=>Gf s a f n) 0<;>rfl
theorem tQ (s:ByteArray) (f a:Nat) (hf:f<a) (ha:a<=(L s).length) (hs:(L s).length<=64):∃k:Nat,Au (λn:Int=>Gf s (a:Int) (f:Int) n) 0=some (k:Int)/\k<=31/\a+k<=(L s).length:=by
 obtain⟨b,h1,k,rfl,h2,h3⟩:=Bg (body:=λn:Int=>Gf s (a:Int) (f:Int) n) (λ(_:Unit) i=>i) 31 (λi _=>a+i<=(L s).length) (λb=>∃k:Nat,b=(k:Int)/\k<=31/\a+k<=(L s).length)
  (λ_ i hi hs=>by
   simp only [Gf];rw [Ad (by omega:(i:Int)<31),Ae,CA (by omega) (by omega),CA (by omega) (by omega),BH];by_cases c:a+i<(L s).length
   ·rw [Ad (by omega:((a:Int)+(i:Int))<((L s).length:Int)),Ae];have e1:((f:Int)+(i:Int))=((f+i:Nat):Int):=by omega
    have e2:((a:Int)+(i:Int))=((a+i:Nat):Int):=by omega
    rw [e1,e2,EU s (by omega),EU s c];simp only [Aa]
    cases((((L s)[f+i]).toNat:Int)==(((L s)[a+i]).toNat:Int))with
    |true=>
     simp only [Ae];rw [ad1 (by omega)];exact .inl ⟨(),rfl,by omega⟩
    |false=>exact .inr ⟨_,rfl,i,rfl,by omega,hs⟩
   rw [Af (by omega:¬((a:Int)+(i:Int))<((L s).length:Int)),Ab]
   exact .inr ⟨_,rfl,i,rfl,by omega,hs⟩)
  (λ_ hs=>by
   simp only [Gf];rw [Af (by omega:¬((31:Nat):Int)<31),Ab]
   exact⟨_,rfl,31,rfl,by omega,hs⟩) (s:=()) (by omega)
 exact⟨k,h1,h2,h3⟩
theorem kQ (s:ByteArray) (a:Nat) (ha:a<=(L s).length) (hs:(L s).length<=64):∃z b:Nat,UW s (a:Int)=some ((z:Int),(b:Int))/\Au (λq:Int×Int×Int=>E9 s (a:Int) q.1 q.2.1 q.2.2) (0,0,(sb (a:Int) 1))=some ((z:Int),(b:Int))/\z<=31/\a+z<=(L s).length/\(z=0\/4<=z/\1<=b/\b<=a):=by
 have c:(λq:Int×Int×Int=>E9 s (a:Int) q.1 q.2.1 q.2.2)=λq:Int×Int×Int=>ID s (a:Int) q.1 q.2.1 q.2.2:=by
  funext ⟨x,y,z⟩;simp only [E9,ID,tR]
 rw [c,Cw (by omega) (by omega)];obtain⟨r,h1,z,b,rfl,h2,h3,h4⟩:=Bg (body:=λq:Int×Int×Int=>ID s (a:Int) q.1 q.2.1 q.2.2) (λ(q:Nat×Nat) i=>((q.1:Int),(q.2:Int),(a:Int)-1-i)) a (λi q=>q.1<=31/\a+q.1<=(L s).length/\(q.1=0\/4<=q.1/\1<=q.2/\q.2<=a)) (λr=>∃z b:Nat,r=((z:Int),(b:Int))/\z<=31/\a+z<=(L s).length/\(z=0\/4<=z/\1<=b/\b<=a))
  (λq i hi hq=>by
   obtain⟨k,m1,m2,m3⟩:=tQ s (a-1-i) a (by omega) ha hs;have e1:((a:Int)-1-(i:Int))=((a-1-i:Nat):Int):=by omega
   simp only [ID,e1];rw [Ad (by omega:(((a-1-i:Nat)):Int)>=0),Ae,m1];simp only [Aa];rw [Cw (by omega) (by omega),Cw (by omega) (by omega)];refine .inl ?_;have e2:(((a-1-i:Nat):Int)-1)=(a:Int)-1-((i+1:Nat):Int):=by omega
   have e3:((a:Int)-((a-1-i:Nat):Int))=((1+i:Nat):Int):=by omega
   rw [e2,e3];by_cases h4:4<=k
   ·rw [Ad (by omega:(k:Int)>=4),Ae];by_cases h5:q.1<k
    ·rw [Ad (by omega:(k:Int)>(q.1:Int))];exact⟨(k,1+i),rfl,m2,m3,.inr ⟨h4,by omega,by omega⟩⟩
    rw [Af (by omega:¬(k:Int)>(q.1:Int))];exact⟨q,rfl,hq⟩
   rw [Af (by omega:¬(k:Int)>=4),Ab]
   exact⟨q,rfl,hq⟩)
  (λq hq=>by
   simp only [ID];rw [Af (by omega:¬((a:Int)-1-(a:Int))>=0),Ab]
   exact⟨_,rfl,q.1,q.2,rfl,hq⟩) (s:=(0,0)) ⟨by omega,by omega,.inl rfl⟩
 have e0:(((0:Nat):Int),((0:Nat):Int),(a:Int)-1-0)=((0:Int),(0:Int),(a:Int)-1):=by simp
 simp only [e0]at h1;refine⟨z,b,?_,h1,h2,h3,h4⟩;unfold UW;rw [Cw (by omega) (by omega),h1];rfl
def Tk (t:Bp):Prop:=(t.Back=0/\t.Size=0/\1<=(L t.Text).length/\(L t.Text).length<=31)\/(1<=t.Back/\t.Back<=64/\4<=t.Size/\t.Size<=31/\L t.Text=[])
variable {s:Store} {v:Vol} {α γ:Type} {f:Flash} {l R:List Int} {r n x:Int} {k i:Nat} {K:Ks}
theorem Ha (l:List α) (x:α):gi (l++ [x]) (l.length:Int)=some x:=by
 rw [A9];simp
theorem Jz (l:List α) (x y:α):si (l++ [x]) (l.length:Int) y=l++ [y]:=by
 rw [Ep];simp
theorem iQ (s:ByteArray) (hs:(L s).length<=64):∃l,KE s=some l/\SE s=some l/\l.length<=64/\∀t∈l,Tk t:=by
 unfold KE SE;rw [BH,Af (by omega:¬((L s).length:Int)>64),Ab,Ab];obtain⟨l,h1,h2,h3,h4⟩:=R4 (body:=λq:List Bp×Int=>Cx s q.1 q.2) (body':=λq:List Bp×Int=>NT s q.1 q.2) (λq=>(L s).length-q.2.toNat)
  (λq=>∃a:Nat,q.2=(a:Int)/\a<=(L s).length/\q.1.length<=a/\∀t∈q.1,Tk t) (λl=>l.length<=64/\∀t∈l,Tk t)
  (by
   rintro⟨f,at_⟩ ⟨a,ha,h1,h2,h3⟩;simp only at ha h2 h3;subst ha;simp only [Cx,NT];rw [BH];by_cases i:a<(L s).length
   ·rw [Ad (by omega:(a:Int)<((L s).length:Int)),Ae,Ae];obtain⟨z,b,m1,m2,m3,m4,m5⟩:=kQ s a h1 hs;rw [m1,m2];simp only [Aa]
    have c:∀x:Bp,ap 32 f [x]=some (f++ [x]):=λx=>Cn (by simp only [Ak];omega)
    refine .inl ?_;by_cases hz:z=0
    ·subst hz;rw [Af (by omega:¬((0:Nat):Int)>0),Ab,Ab];have esub:sub s (a:Int) (ad (a:Int) 1)=some (s.extract a (a+1)):=by rw [ad1 (by omega)];exact EV s (by omega) (by omega)
     have elen:(L (s.extract a (a+1))).length=1:=by rw [HM];simp;omega
     rw [esub,ad1 (by omega),Cw (by rw [BG];omega) (by rw [BG];omega),BG]
     have ecat:∀x:ByteArray,(L x).length<=31->HO x (s.extract a (a+1))=some (x++s.extract a (a+1)):=λx hx=>FE _ _ (by rw [elen];omega)
     have e0:HO (bs []) (s.extract a (a+1))=some (s.extract a (a+1)):=by
      rw [ecat _ (by rw [DV];simp)];exact BR some (Iw (by rw [DC,DV];rfl))
     have enew:Tk (Bp.mk 0 0 (s.extract a (a+1))):= .inl ⟨rfl,rfl,by simp only;rw [elen];omega,by simp only;rw [elen];omega⟩
     have d:∀(o:List Bp) (x:Bp),(∀t∈o,Tk t)->Tk x->∀t∈o++ [x],Tk t:=λo x ho hx t ht=>by
      rcases Aj.1 ht with ht|ht
      ·exact ho t ht
      rw [Aw]at ht;subst ht;exact hx
     have fin:∀o:List Bp,o.length<=a+1->(∀t∈o,Tk t)->(∃a':Nat,((a+1:Nat):Int)=(a':Int)/\a'<=(L s).length/\o.length<=a'/\∀t∈o,Tk t)/\(L s).length-(((a+1:Nat)):Int).toNat<(L s).length-((a:Int)).toNat:=λo g h=>⟨⟨a+1,rfl,by omega,g,h⟩,by omega⟩
     rcases Hc f with rfl|⟨o,x,rfl⟩
     ·simp only [Bn,Int.ofNat_zero,Int.zero_sub];rw [Ad (by omega:(-1:Int)<0),Af (by omega:¬(-1:Int)>=0)];simp only [Ae,Ab,Aa,c];rw [show ad (-1) 1=(([]:List Bp).length:Int)from rfl];simp only [Ha,Aa,e0,Jz];exact⟨_,rfl,rfl,fin _ (by simp) (d _ _ (by simp) enew)⟩
     rw [Hd]at h2 h3 c⊢;simp only [Ag,Ak]at h2⊢;have ek:(((o.length+1:Nat):Int)-1)=(o.length:Int):=by omega
     rw [ek,Af (by omega:¬(o.length:Int)<0),Ad (by omega:(o.length:Int)>=0)];simp only [Ae,Ab,Ha,Aa];have hx:=h3 x (by simp);have e:=d (o++ [x]) _ h3 enew;have elast:ad (o.length:Int) 1=((o++ [x]).length:Int):=by rw [ad1 (by omega)];simp
     rcases hx with⟨x1,x2,x3,x4⟩|⟨x1,x2,x3,x4,x5⟩
     ·rw [x1];simp only [show((0:Int)==0)=true from rfl,Ae,show decide ((0:Int)>0)=false from rfl,Ab];rw [BH];by_cases h31:(L x.Text).length<31
      ·rw [Ad (by omega:((L x.Text).length:Int)<31),Af (by omega:¬((L x.Text).length:Int)>=31)];simp only [Ae,Ab,Aa,Ha,ecat _ x4,Jz];simp only [x1];refine⟨_,rfl,rfl,fin _ (by simp;omega) (d _ _ (λt ht=>h3 t (by simp [ht])) (.inl ⟨rfl,x2,?_,?_⟩))⟩
       ·simp only;rw [DC,Ag,elen];omega
       simp only;rw [DC,Ag,elen];omega
      rw [Af (by omega:¬((L x.Text).length:Int)<31),Ad (by omega:((L x.Text).length:Int)>=31)];simp only [Ae,Ab,Aa,c,elast,Ha,e0,Jz];exact⟨_,rfl,rfl,fin _ (by simp;omega) e⟩
     have hb:(x.Back==0)=false:=by simp;omega
     rw [hb,Ad (by omega:x.Back>0)];simp only [Ae,Ab,Aa,c,elast,Ha,e0,Jz];exact⟨_,rfl,rfl,fin _ (by simp;omega) e⟩
    rw [Ad (by omega:(z:Int)>0),Ae,Ae,c];simp only [Aa];rw [CA (by omega) (by omega)];refine⟨_,rfl,rfl,⟨a+z,by simp,by omega,by simp;omega,?_⟩,by simp only;omega⟩;intro t ht
    rcases Aj.1 ht with ht|ht
    ·exact h3 t ht
    rw [Aw]at ht;subst ht;refine .inr ⟨?_,?_,?_,?_,by simp only;rw [DV]⟩<;>simp only<;>omega
   rw [Af (by omega:¬(a:Int)<((L s).length:Int)),Ab,Ab]
   exact .inr ⟨_,rfl,rfl,by omega,h3⟩) ((L s).length) ([],0) (by simp) ⟨0,rfl,by omega,by simp,by simp⟩
 rw [h1,h2];exact⟨l,rfl,rfl,h3,h4⟩
theorem Tm (l m:List Int):L (EG (l++m))=L (EG l)++L (EG m):=by rw [Jw,Jw,Jw,Cq]
theorem M6 (l:List Int):(L (EG l)).length=l.length:=by rw [Jw,Be]
theorem rM (b:ByteArray):L (EG (jU b))=L b:=by
 rw [Jw,jU,Fy];have:((λn:Int=>UInt8.ofNat n.toNat)∘λc:UInt8=>(c.toNat:Int))=id:=by
  funext c;simp
 rw [this,SY];rfl
theorem vC (l:List Int) (b:ByteArray):aps l b=ap 1 l (jU b):=by
 have:(jU b).length=b.size:=by simp [jU]
 unfold aps ap;rw [this,Zk]
theorem bM (b:ByteArray):(jU b).length=(L b).length:=by simp [jU,L]
theorem iW (s:ByteArray):∃z ok,EM s=some (z,ok)/\Pz s=some (z,ok)/\(ok=false->z=bs [])/\(ok=true->(L s).length<=64/\((L z)[0]?=some 122\/(L z)[0]?=some 114)):=by
 unfold EM Pz;rw [BH];by_cases hs:(L s).length<=64
 ·rw [Af (by omega:¬((L s).length:Int)>64),Ab,Ab];obtain⟨l,t1,t2,t3,t4⟩:=iQ s hs;rw [t1,t2];simp only [Aa];obtain⟨z,v,h1,h2,rfl,h3,h4⟩:=pS (body:=λq:ByteArray×Int=>EB l q.1 q.2) (body':=λq:List Int×Int=>Li l q.1 q.2) (λv i=>(EG v,i)) (λv i=>(v,i)) l.length (λi v=>v.length<=1+33*i/\(L (EG v))[0]?=some 122) (λz v=>z=EG v/\v.length<=4000/\(L (EG v))[0]?=some 122)
   (λv i hi hv=>by
    have hg:l[i]?=some l[i]:=Ac hi;have c:=hv.1;have ht:=t4 _ (AE hi);refine .inl ?_;simp only [EB,Li,AC,Ad hi,Ae,A9,hg,Aa]
    have b:∀(a:ByteArray) (m:List Int),(L a).length<=4000->m.length<=2->HO a (EG m)=some (a++EG m):=λa m h1 h2=>FE _ _ (by rw [M6];omega)
    have h0:∀m:List Int,(L (EG (v++m)))[0]?=some 122:=λm=>by
     rw [Tm,AM]
     ·exact hv.2
     rcases GT (L (EG v)).length with h|h
     ·have:=hv.2;rw [AB h]at this;cases this
     exact h
    rcases ht with⟨x1,x2,x3,x4⟩|⟨x1,x2,x3,x4,x5⟩
    ·rw [x1];simp only [show((0:Int)==0)=true from rfl,Ae,show decide ((0:Int)>0)=false from rfl,Ab];rw [b _ _ (by rw [M6];omega) (by simp),Cn (by simp only [Ak];omega)];simp only [Aa];rw [FE _ _ (by rw [DC,Ag,M6,M6];simp only [Ak];omega),vC,Cn (by rw [bM];simp only [Ag,Ak];omega)];simp only [Aa];rw [ad1 (by omega)];refine⟨v++([IntKind.u8.wrap (Fz l[i].Text)]++jU l[i].Text),?_,by rw [Ap],?_,h0 _⟩
     ·congr 4;apply Iw;rw [DC,DC,Tm,Tm,rM,Ap]
     simp only [Ag,Ak,bM];omega
    have hb:(l[i].Back==0)=false:=by simp;omega
    rw [hb,Ad (by omega:l[i].Back>0)];simp only [Ae,Ab];rw [b _ _ (by rw [M6];omega) (by simp),Cn (by simp only [A0,Bn];omega)];simp only [Aa];rw [ad1 (by omega)];refine⟨v++ [IntKind.u8.wrap (ad 128 l[i].Size),IntKind.u8.wrap l[i].Back],?_,rfl,?_,h0 _⟩
    ·congr 4;apply Iw;rw [DC,Tm]
    simp only [Ag,A0,Bn];omega)
   (λv hv=>⟨_,_,by simp only [EB,AC,Ao,Aq,Ab],by simp only [Li,AC,Ao,Aq,Ab],rfl,by have:=hv.1;omega,hv.2⟩) (s:=[122]) ⟨by simp,by rw [Jw];rfl⟩
  have e0:(EG [122],(0:Int))=(bs [122],(0:Int)):=by rw [show EG [122]=bs [122]from Iw (by rw [Jw,DV];rfl)]
  simp only [e0]at h1;rw [h1,h2];simp only [Aa];rw [BH,M6,BG,CA (by omega) (by omega)];by_cases hc:((L s).length:Int)+1<=(v.length:Int)
  ·rw [Ad hc,Ae,FE _ _ (by rw [DV];simp only [Ak];omega)];refine⟨_,true,rfl,rfl,by simp,λ_=>⟨hs,.inr ?_⟩⟩;rw [DC,DV];rfl
  rw [Af hc,Ab];exact⟨_,true,rfl,rfl,by simp,λ_=>⟨hs,.inl h4⟩⟩
 rw [Ad (by omega:((L s).length:Int)>64),Ae,Ae];exact⟨_,false,rfl,rfl,by simp,by simp⟩
def PL (t:Bp):Prop:=(t.Back=0/\t.Size=0/\1<=(L t.Text).length/\(L t.Text).length<=31)\/(t.Back≠0/\1<=t.Size/\t.Size<=31/\L t.Text=[])
theorem eA:RC=FL:=by
 funext l;unfold RC FL;have hb:Px l=Ee l:=by
  funext out y;unfold Px Ee
  cases decide (y<ln l)with
  |false=>rfl
  |true=>
   simp only [Ae]
   cases gi l y with
   |none=>rfl
   |some t=>
    simp only [Aa,XZ,PO,vC]
    have h2:(λs:List Int×Int=>TW t s.1 s.2)=λs:List Int×Int=>Ed t s.1 s.2:=rfl
    rw [h2]
    cases t.Back==0 with
    |false=>rfl
    |true=>
     simp only [Ae];cases t.Size !=0<;>cases(decide (1<=Fz t.Text)&&decide (Fz t.Text<=31))<;>rfl
 rw [hb]
theorem PH (l:List Bp) (hl:l.length<=1048576):∃p ok,FL l=some (p,ok)/\(ok=true->∀t∈l,PL t):=by
 unfold FL;obtain⟨r,h1,h2⟩:=Bg (body:=λq:List Int×Int=>Ee l q.1 q.2) (λ(o:List Int) i=>(o,i)) l.length (λi o=>o.length<=64/\∀(j:Nat) t,j<i->l[j]?=some t->PL t) (λr=>(∃o,r= .inl o/\∀t∈l,PL t)\/r= .inr (bs [],false))
  (λo i hi ho=>by
   have hg:l[i]?=some l[i]:=Ac hi;obtain⟨h,d⟩:=ho;simp only [Ee,AC,Ad hi,Ae,A9,hg,Aa,PO];have bad:∀k:(List Int)⊕((List Int×Int)⊕((List Int)⊕((ByteArray×Bool)))),k= .inr (.inr (.inr (bs [],false)))->∃b,(some k).bind (Sum.elim (λj1=>(bif(decide ((ln j1)>64))then(some (.inr (.inr ((bs []),false))))else(some (.inl (j1,(ad (i:Int) 1)))))) some)=some (.inr b)/\((∃o,b= .inl o/\∀t∈l,PL t)\/b= .inr (bs [],false)):=by
    rintro k rfl;exact⟨_,rfl,.inr rfl⟩
   have good:∀(o':List Int),PL l[i]->(∃s',(some (.inl o':(List Int)⊕((List Int×Int)⊕((List Int)⊕((ByteArray×Bool)))))).bind (Sum.elim (λj1=>(bif(decide ((ln j1)>64))then(some (.inr (.inr ((bs []),false))))else(some (.inl (j1,(ad (i:Int) 1)))))) some)=some (.inl (s',((i+1:Nat):Int)))/\s'.length<=64/\∀(j:Nat) t,j<i+1->l[j]?=some t->PL t)\/∃b,(some (.inl o':(List Int)⊕((List Int×Int)⊕((List Int)⊕((ByteArray×Bool)))))).bind (Sum.elim (λj1=>(bif(decide ((ln j1)>64))then(some (.inr (.inr ((bs []),false))))else(some (.inl (j1,(ad (i:Int) 1)))))) some)=some (.inr b)/\((∃o,b= .inl o/\∀t∈l,PL t)\/b= .inr (bs [],false)):=by
    intro o' ht;simp only [Aa,By];by_cases h64:o'.length<=64
    ·rw [Af (by rw [BG];omega),Ab,ad1 (by omega)];refine .inl ⟨o',rfl,h64,λj t hj a=>?_⟩;by_cases e:j=i
     ·subst e;rw [hg]at a
      injection a with a
      rw [<-a];exact ht
     exact d j t (by omega) a
    rw [Ad (by rw [BG];omega),Ae];exact .inr ⟨_,rfl,.inr rfl⟩
   by_cases hb:l[i].Back=0
   ·rw [hb];simp only [show((0:Int)==0)=true from rfl,Ae];rw [BH];by_cases hx:(1<=(L l[i].Text).length/\(L l[i].Text).length<=31)/\l[i].Size=0
    ·obtain⟨⟨f,g⟩,c⟩:=hx;rw [Ad (by omega:(1:Int)<=((L l[i].Text).length:Int)),Ad (by omega:((L l[i].Text).length:Int)<=31),c];simp only [HN,Ai,Ab,Aa,show((0:Int) !=0)=false from rfl];rw [Cn (by rw [bM];omega)];simp only [Aa];exact good _ (.inl ⟨hb,c,f,g⟩)
    by_cases h1:1<=(L l[i].Text).length/\(L l[i].Text).length<=31
    ·have hs:(l[i].Size !=0)=true:=by simp;intro e;exact hx ⟨h1,e⟩
     rw [Ad (by omega:(1:Int)<=((L l[i].Text).length:Int)),Ad (by omega:((L l[i].Text).length:Int)<=31),hs];simp only [HN,Ai,Ab,Ae,Aa];exact .inr (bad _ rfl)
    have hd:(decide ((1:Int)<=((L l[i].Text).length:Int))&&decide (((L l[i].Text).length:Int)<=31))=false:=by
     rw [Em,AY,AY];omega
    rw [hd];simp only [AG,Ae,Aa];exact .inr (bad _ rfl)
   have hb':(l[i].Back==0)=false:=by simpa using hb
   rw [hb'];simp only [Ab];rw [BG,Qm,DV];by_cases hx:(1<=l[i].Back/\l[i].Back<=(o.length:Int))/\(1<=l[i].Size/\l[i].Size<=31)/\L l[i].Text=[]
   ·obtain⟨⟨y1,y2⟩,⟨y3,y4⟩,y5⟩:=hx;rw [Ad y1,Ad y2,Ad y3,Ad y4,Ad y5];simp only [HN,Ai,Ab,Aa];obtain⟨o',q1,q2⟩:=Bg (body:=λq:List Int×Int=>Ed l[i] q.1 q.2) (λ(o:List Int) k=>(o,k)) l[i].Size.toNat (λk u=>u.length=o.length+k) (λ_=>True)
     (λu k hk hu=>by
      simp only [Ed];rw [Ad (by omega:(k:Int)<l[i].Size),Ae,Cw (by rw [BG];omega) (by rw [BG];omega),BG,K2 (by omega) (by omega)];simp only [Aa];rw [Cn (by simp only [Ak];omega),ad1 (by omega)]
      exact .inl ⟨_,rfl,by simp only [Ag,Ak];omega⟩)
     (λu hu=>⟨u,by simp only [Ed];rw [Af (by omega),Ab],trivial⟩) (s:=o) (by omega)
    rw [q1];simp only [Aa];exact good _ (.inr ⟨hb,y3,y4,y5⟩)
   refine .inr ?_
   cases c1:(decide (1<=l[i].Back)&&decide (l[i].Back<=(o.length:Int)))with
   |false=>
    simp only [AG,Ae,Aa];exact bad _ rfl
   |true=>
    simp only [Ai,Ab,Aa]
    cases c2:(decide (1<=l[i].Size)&&decide (l[i].Size<=31))with
    |false=>
     simp only [AG,Ae,Aa];exact bad _ rfl
    |true=>
     simp only [Ai,Ab,Aa];have c3:decide (L l[i].Text=[])=false:=by
      rw [AY];intro e;simp only [Al,A5]at c1 c2;exact hx ⟨c1,c2,e⟩
     rw [c3];simp only [AG,Ae]
     exact bad _ rfl)
  (λo ho=>⟨_,by simp only [Ee,AC,Ao,Aq,Ab],.inl ⟨o,rfl,λt ht=>by
   obtain⟨j,hj,rfl⟩:=AI ht
   exact ho.2 j _ hj (Ac hj)⟩⟩) (s:=[]) ⟨by simp,λj t hj=>by omega⟩
 rw [h1]
 rcases h2 with⟨o,rfl,h2⟩|rfl
 ·exact⟨_,true,rfl,λ_=>h2⟩
 exact⟨_,false,rfl,by simp⟩
theorem Wf (c:UInt8):IntKind.i64.wrap (c.toNat:Int)=(c.toNat:Int):=NK (by omega) (by have:=c.toNat_lt;omega)
theorem Zv (rem:ByteArray) (a:List Bp) (h:0<(L rem).length) (ho:a.length<=1048576) (hr:(L rem).length<=1048576):
  DX rem a=some (if 128<=(L rem)[0].toNat/\2<=(L rem).length then .inl (rem.extract 2 (L rem).length,a++ [Bp.mk (((L rem)[1]?.getD 0).toNat:Int) (((L rem)[0].toNat:Int)-128) (bs [])])
   else if(L rem)[0].toNat<128/\(L rem)[0].toNat<(L rem).length then .inl (rem.extract (1+(L rem)[0].toNat) (L rem).length,a++ [Bp.mk 0 0 (rem.extract 1 (1+(L rem)[0].toNat))])
   else .inr (.inr ([],false))):=by
 have d:=(L rem)[0].toNat_lt;have b:seq rem (bs [])=false:=by
  rw [Qm,DV,AY];intro e;rw [e]at h;simp at h
 have c:∀x:Bp,ap 32 a [x]=some (a++ [x]):=λx=>Cn (by simp only [Ak];omega)
 unfold DX;rw [b];have s0:sx rem 0=some ((L rem)[0].toNat:Int):=EU rem (i:=0) h;simp only [AG,Ae,s0,Aa,Wf,BH,c];have c0:ad 1 ((L rem)[0].toNat:Int)=((1+(L rem)[0].toNat:Nat):Int):=by rw [CA (by omega) (by omega)];omega
 rw [c0];by_cases h1:128<=(L rem)[0].toNat
 ·rw [Ad (by omega:((L rem)[0].toNat:Int)>=128),Af (by omega:¬((L rem)[0].toNat:Int)<128)];simp only [Ae,Ab,Aa];by_cases h2:2<=(L rem).length
  ·rw [Ad (by omega:((L rem).length:Int)>=2),Ae,Ax ⟨h1,h2⟩];have s1:sx rem 1=some ((L rem)[1].toNat:Int):=EU rem (i:=1) (by omega);have s2:sub rem 2 ((L rem).length:Int)=some (rem.extract 2 (L rem).length):=EV rem (i:=2) h2 (A4 _);rw [s1,s2,Cw (by omega) (by omega)];simp only [Aa,Wf];rw [Ac (by omega:1<(L rem).length)];rfl
  rw [Af (by omega:¬((L rem).length:Int)>=2),Ab,Ay (λe=>h2 e.2),Ay (λe=>by omega)]
 rw [Af (by omega:¬((L rem)[0].toNat:Int)>=128),Ad (by omega:((L rem)[0].toNat:Int)<128),Ay (λe=>h1 e.1)];simp only [Ae,Ab,Aa];by_cases h2:(L rem)[0].toNat<(L rem).length
 ·rw [Ad (by omega:((L rem)[0].toNat:Int)<((L rem).length:Int)),Ae,Ax ⟨by omega,h2⟩];have s1:sub rem 1 ((1+(L rem)[0].toNat:Nat):Int)=some (rem.extract 1 (1+(L rem)[0].toNat)):=EV rem (i:=1) (by omega) (by omega);have s2:sub rem ((1+(L rem)[0].toNat:Nat):Int) ((L rem).length:Int)=some (rem.extract (1+(L rem)[0].toNat) (L rem).length):=EV rem (by omega) (A4 _);rw [s1,s2];rfl
 rw [Af (by omega:¬((L rem)[0].toNat:Int)<((L rem).length:Int)),Ab,Ay (λe=>h2 e.2)]
theorem WO (rem:ByteArray) (a:List Bp) (h:(L rem).length=0):DX rem a=some (.inr (.inl a)):=by
 have b:seq rem (bs [])=true:=by
  rw [Qm,DV,A5];exact AB h
 unfold DX;rw [b];rfl
theorem Zu (t:ByteArray) (b:List Bp) (a:Nat) (h:a<(L t).length) (ho:b.length<=1048576) (hr:(L t).length<=1048576):
  Cd t b (a:Int)=some (if 128<(L t)[a].toNat then(if a+2<=(L t).length then .inl (b++ [Bp.mk (((L t)[a+1]?.getD 0).toNat:Int) (((L t)[a].toNat:Int)-128) (bs [])],((a+2:Nat):Int))else .inr (.inr (b,false)))
   else if a+1+(L t)[a].toNat<=(L t).length then .inl (b++ [Bp.mk 0 0 (t.extract (a+1) (a+1+(L t)[a].toNat))],((a+1+(L t)[a].toNat:Nat):Int))
   else .inr (.inr (b,false))):=by
 have d:=(L t)[a].toNat_lt
 have c:∀x:Bp,ap 32 b [x]=some (b++ [x]):=λx=>Cn (by simp only [Ak];omega)
 have c2:ad (a:Int) 2=((a+2:Nat):Int):=by rw [CA (by omega) (by omega)];omega
 have c3:ad ((a+1:Nat):Int) ((L t)[a].toNat:Int)=((a+1+(L t)[a].toNat:Nat):Int):=by rw [CA (by omega) (by omega)];omega
 unfold Cd;rw [BH,Ad (by omega:(a:Int)<((L t).length:Int)),Ae,EU t h];simp only [Aa,Wf,c];rw [c2,ad1 (by omega),c3];by_cases h1:128<(L t)[a].toNat
 ·rw [Ad (by omega:((L t)[a].toNat:Int)>128),Ae,Ax h1];by_cases h2:a+2<=(L t).length
  ·rw [Af (by omega:¬((a+2:Nat):Int)>((L t).length:Int)),Ab,Ax h2,EU t (by omega:a+1<(L t).length),Cw (by omega) (by omega)];simp only [Aa,Wf];rw [Ac (by omega:a+1<(L t).length)];rfl
  rw [Ad (by omega:((a+2:Nat):Int)>((L t).length:Int)),Ae,Ay h2]
 rw [Af (by omega:¬((L t)[a].toNat:Int)>128),Ab,Ay h1];by_cases h2:a+1+(L t)[a].toNat<=(L t).length
 ·rw [Af (by omega:¬((a+1+(L t)[a].toNat:Nat):Int)>((L t).length:Int)),Ab,Ax h2,EV t (by omega) h2];rfl
 rw [Ad (by omega:((a+1+(L t)[a].toNat:Nat):Int)>((L t).length:Int)),Ae,Ay h2]
theorem WN (t:ByteArray) (b:List Bp) (a:Nat) (h:(L t).length<=a):Cd t b (a:Int)=some (.inr (.inl b)):=by
 unfold Cd;rw [BH,Af (by omega:¬(a:Int)<((L t).length:Int)),Ab]
theorem rF (rem:ByteArray) (a:List Bp) (h:a.length+(L rem).length<=1048576):∃r,Au (λq:ByteArray×List Bp=>DX q.1 q.2) (rem,a)=some r/\((∃l,r= .inl l/\l.length<=1048576/\∀t∈a,t∈l)\/r= .inr ([],false)):=by
 obtain⟨r,h1,_,h2⟩:=R4 (body:=λq:ByteArray×List Bp=>DX q.1 q.2) (body':=λq:ByteArray×List Bp=>DX q.1 q.2) (λq=>(L q.1).length) (λq=>q.2.length+(L q.1).length<=1048576/\∀t∈a,t∈q.2) (λr=>(∃l,r= .inl l/\l.length<=1048576/\∀t∈a,t∈l)\/r= .inr ([],false))
  (by
   rintro⟨rem,o⟩ ⟨hl,ho⟩;simp only at hl ho;simp only
   rcases GT (L rem).length with h0|h0
   ·rw [WO rem o h0];exact .inr ⟨_,rfl,rfl,.inl ⟨o,rfl,by omega,ho⟩⟩
   rw [Zv rem o h0 (by omega) (by omega)];split
   ·rename_i hc;refine .inl ⟨_,rfl,rfl,⟨?_,λt ht=>AA _ (ho t ht)⟩,?_⟩
    ·simp only [Ag,Ak,HM,AH,B7];omega
    simp only [HM,AH,B7];omega
   split
   ·rename_i hc;refine .inl ⟨_,rfl,rfl,⟨?_,λt ht=>AA _ (ho t ht)⟩,?_⟩
    ·simp only [Ag,Ak,HM,AH,B7];omega
    simp only [HM,AH,B7];omega
   exact .inr ⟨_,rfl,rfl,.inr rfl⟩) _ (rem,a) (A4 _) ⟨h,λt ht=>ht⟩
 exact⟨r,h1,h2⟩
theorem rE (t:ByteArray) (b:List Bp) (a:Nat) (ha:a<=(L t).length) (h:b.length<=a) (hr:(L t).length<=1048576):∃r,Au (λq:List Bp×Int=>Cd t q.1 q.2) (b,(a:Int))=some r/\((∃l,r= .inl l/\l.length<=1048576/\∀x∈b,x∈l)\/∃l,r= .inr (l,false)/\l.length<=1048576):=by
 obtain⟨r,h1,_,h2⟩:=R4 (body:=λq:List Bp×Int=>Cd t q.1 q.2) (body':=λq:List Bp×Int=>Cd t q.1 q.2) (λq=>(L t).length-q.2.toNat) (λq=>∃a:Nat,q.2=(a:Int)/\a<=(L t).length/\q.1.length<=a/\∀x∈b,x∈q.1) (λr=>(∃l,r= .inl l/\l.length<=1048576/\∀x∈b,x∈l)\/∃l,r= .inr (l,false)/\l.length<=1048576)
  (by
   rintro⟨o,at_⟩ ⟨a,ha,hl,hb,ho⟩;simp only at ha hb ho;subst ha;simp only
   rcases Dh a (L t).length with h0|h0
   ·rw [Zu t o a h0 (by omega) hr];split
    ·split
     ·refine .inl ⟨_,rfl,rfl,⟨a+2,rfl,by omega,by simp only [Ag,Ak];omega,λt ht=>AA _ (ho t ht)⟩,by simp only;omega⟩
     exact .inr ⟨_,rfl,rfl,.inr ⟨o,rfl,by omega⟩⟩
    split
    ·refine .inl ⟨_,rfl,rfl,⟨_,rfl,by assumption,by simp only [Ag,Ak];omega,λt ht=>AA _ (ho t ht)⟩,by simp only;omega⟩
    exact .inr ⟨_,rfl,rfl,.inr ⟨o,rfl,by omega⟩⟩
   rw [WN t o a h0]
   exact .inr ⟨_,rfl,rfl,.inl ⟨o,rfl,by omega,ho⟩⟩) _ (b,(a:Int)) (A4 _) ⟨a,rfl,ha,h,λt ht=>ht⟩
 exact⟨r,h1,h2⟩
theorem rD (t:ByteArray) (hr:(L t).length<=1048576):∀(n a:Nat) (rem:ByteArray) (d:List Bp),(L t).length-a<=n->a<=(L t).length->L rem=(L t).drop a->d.length<=a->
  ∃ri rs,Au (λq:ByteArray×List Bp=>DX q.1 q.2) (rem,d)=some ri/\Au (λq:List Bp×Int=>Cd t q.1 q.2) (d,(a:Int))=some rs/\
   ((∃l,ri= .inl l/\rs= .inl l/\l.length<=1048576)\/((ri= .inr ([],false)\/∃l,ri= .inl l/\l.length<=1048576/\∃x∈l,¬PL x)/\((∃l,rs= .inr (l,false)/\l.length<=1048576)\/∃l,rs= .inl l/\l.length<=1048576/\∃x∈l,¬PL x))):=by
 intro n
 induction n with
 |zero=>
  intro a rem d h1 h2 h3 h4;have ha:a=(L t).length:=by omega
  have g:(L rem).length=0:=by rw [h3,ha];simp
  refine⟨_,_,by rw [A7];simp only [WO rem d g],by rw [A7];simp only [WN t d a (by omega)],.inl ⟨d,rfl,rfl,by omega⟩⟩
 |succ n ih=>
  intro a rem d h1 h2 h3 h4
  rcases Dh a (L t).length with h0|h0
  ·have o:(L rem).length=(L t).length-a:=by rw [h3];simp
   have h:0<(L rem).length:=by omega
   have i:(L rem)[0]=(L t)[a]:=by simp only [h3];simp
   have j:(L rem)[1]?.getD 0=(L t)[a+1]?.getD 0:=by rw [h3,BP]
   have c:=Zv rem d h (by omega) (by omega);have b:=Zu t d a h0 (by omega) hr
   have f:∀k,L (rem.extract k (L rem).length)=(L t).drop (a+k):=λk=>by
    rw [HM,h3,CJ,AO];simp only [B7];omega
   rw [i,j]at c
   rcases SX (L t)[a].toNat 128 with hc|hc|hc
   ·rw [Ay (by omega)]at c;rw [Ay (by omega)]at b;by_cases hk:a+1+(L t)[a].toNat<=(L t).length
    ·rw [Ax (by omega)]at c;rw [Ax hk]at b;obtain⟨ri,rs,q1,q2,q3⟩:=ih (a+1+(L t)[a].toNat) (rem.extract (1+(L t)[a].toNat) (L rem).length) (d++ [Bp.mk 0 0 (t.extract (a+1) (a+1+(L t)[a].toNat))]) (by omega) hk (by rw [f,Fx]) (by simp only [Ag,Ak];omega);have etx:rem.extract 1 (1+(L t)[a].toNat)=t.extract (a+1) (a+1+(L t)[a].toNat):=by
      apply Iw;rw [HM,HM,h3,CJ];congr 1;omega
     refine⟨ri,rs,?_,?_,q3⟩
     ·rw [A7];simp only [c];rw [etx];exact q1
     rw [A7];simp only [b];exact q2
    rw [Ay (by omega)]at c;rw [Ay hk]at b;exact⟨_,_,by rw [A7];simp only [c],by rw [A7];simp only [b],.inr ⟨.inl rfl,.inl ⟨d,rfl,by omega⟩⟩⟩
   ·
    have hI:∃ri,Au (λq:ByteArray×List Bp=>DX q.1 q.2) (rem,d)=some ri/\(ri= .inr ([],false)\/∃l,ri= .inl l/\l.length<=1048576/\∃x∈l,¬PL x):=by
     by_cases hk:2<=(L rem).length
     ·rw [Ax ⟨by omega,hk⟩]at c;obtain⟨r,q1,q2⟩:=rF (rem.extract 2 (L rem).length) (d++ [Bp.mk (((L t)[a+1]?.getD 0).toNat:Int) (((L t)[a].toNat:Int)-128) (bs [])]) (by rw [f];simp only [Ag,Ak,B7];omega);refine⟨r,by rw [A7];simp only [c];exact q1,?_⟩
      rcases q2 with⟨l,rfl,q3,q4⟩|rfl
      ·refine .inr ⟨l,rfl,q3,_,q4 _ (AK _ (Aw.2 rfl)),?_⟩;intro hk
       rcases hk with⟨_,_,k3,_⟩|⟨_,k2,_⟩
       ·simp only [DV,Bn]at k3;omega
       simp only at k2;omega
      exact .inl rfl
     rw [Ay (λe=>hk e.2),Ay (by omega)]at c;exact⟨_,by rw [A7];simp only [c],.inl rfl⟩
    have hS:∃rs,Au (λq:List Bp×Int=>Cd t q.1 q.2) (d,(a:Int))=some rs/\((∃l,rs= .inr (l,false)/\l.length<=1048576)\/∃l,rs= .inl l/\l.length<=1048576/\∃x∈l,¬PL x):=by
     rw [Ay (by omega)]at b;by_cases hk:a+1+(L t)[a].toNat<=(L t).length
     ·rw [Ax hk]at b;obtain⟨r,q1,q2⟩:=rE t (d++ [Bp.mk 0 0 (t.extract (a+1) (a+1+(L t)[a].toNat))]) (a+1+(L t)[a].toNat) hk (by simp only [Ag,Ak];omega) hr;refine⟨r,by rw [A7];simp only [b];exact q1,?_⟩
      rcases q2 with⟨l,rfl,q3,q4⟩|⟨l,rfl,q3⟩
      ·refine .inr ⟨l,rfl,q3,_,q4 _ (AK _ (Aw.2 rfl)),?_⟩;intro m
       rcases m with⟨_,_,_,k4⟩|⟨k1,_⟩
       ·simp only [HM,AH,B7]at k4;omega
       exact k1 rfl
      exact .inl ⟨l,rfl,q3⟩
     rw [Ay hk]at b;exact⟨_,by rw [A7];simp only [b],.inl ⟨d,rfl,by omega⟩⟩
    obtain⟨ri,q1,q2⟩:=hI;obtain⟨rs,q3,q4⟩:=hS;exact⟨ri,rs,q1,q3,.inr ⟨q2,q4⟩⟩
   rw [Ax hc]at b;by_cases hk:a+2<=(L t).length
   ·rw [Ax ⟨by omega,by omega⟩]at c;rw [Ax hk]at b;obtain⟨ri,rs,q1,q2,q3⟩:=ih (a+2) (rem.extract 2 (L rem).length) (d++ [Bp.mk (((L t)[a+1]?.getD 0).toNat:Int) (((L t)[a].toNat:Int)-128) (bs [])]) (by omega) hk (f 2) (by simp only [Ag,Ak];omega);exact⟨ri,rs,by rw [A7];simp only [c];exact q1,by rw [A7];simp only [b];exact q2,q3⟩
   rw [Ay (by omega),Ay (by omega)]at c;rw [Ay hk]at b;exact⟨_,_,by rw [A7];simp only [c],by rw [A7];simp only [b],.inr ⟨.inl rfl,.inl ⟨d,rfl,by omega⟩⟩⟩
  have ha:a=(L t).length:=by omega
  have g:(L rem).length=0:=by rw [h3,ha];simp
  refine⟨_,_,by rw [A7];simp only [WO rem d g],by rw [A7];simp only [WN t d a (by omega)],.inl ⟨d,rfl,rfl,by omega⟩⟩
theorem sT (t:ByteArray) (hr:(L t).length<=1048576):∃li oi ls os pi ki ps ks,SD t=some (li,oi)/\J5 t=some (ls,os)/\RC li=some (pi,ki)/\FL ls=some (ps,ks)/\((oi=os/\pi=ps/\ki=ks)\/((oi=false\/ki=false)/\(os=false\/ks=false))):=by
 obtain⟨ri,rs,q1,q2,q3⟩:=rD t hr ((L t).length) 0 t [] (by omega) (by omega) (by simp) (by simp);have e0:(([]:List Bp),((0:Nat):Int))=([],0):=rfl;simp only [e0]at q2;unfold SD J5;rw [q1,q2,eA];have none:∀l:List Bp,l.length<=1048576->(∃x∈l,¬PL x)->∃p,FL l=some (p,false):=by
  rintro l hl ⟨x,hx,hn⟩;obtain⟨p,ok,h1,h2⟩:=PH l hl
  cases ok with
  |false=>exact⟨p,h1⟩
  |true=>exact absurd (h2 rfl x hx) hn
 rcases q3 with⟨l,rfl,rfl,hl⟩|⟨hi,hs⟩
 ·obtain⟨p,ok,h1,_⟩:=PH l hl;exact⟨l,true,l,true,p,ok,p,ok,rfl,rfl,h1,h1,.inl ⟨rfl,rfl,rfl⟩⟩
 have hI:∃li oi pi ki,(some ri).bind (Sum.elim (λv1=>(some (v1,true))) some)=some (li,oi)/\FL li=some (pi,ki)/\(oi=false\/ki=false):=by
  rcases hi with rfl|⟨l,rfl,hl,hb⟩
  ·obtain⟨p,ok,h1,_⟩:=PH [] (by simp);exact⟨[],false,p,ok,rfl,h1,.inl rfl⟩
  obtain⟨p,h1⟩:=none l hl hb;exact⟨l,true,p,false,rfl,h1,.inr rfl⟩
 have hS:∃li oi pi ki,(some rs).bind (Sum.elim (λv1=>(some (v1,true))) some)=some (li,oi)/\FL li=some (pi,ki)/\(oi=false\/ki=false):=by
  rcases hs with⟨l,rfl,hl⟩|⟨l,rfl,hl,hb⟩
  ·obtain⟨p,ok,h1,_⟩:=PH l hl;exact⟨l,false,p,ok,rfl,h1,.inl rfl⟩
  obtain⟨p,h1⟩:=none l hl hb;exact⟨l,true,p,false,rfl,h1,.inr rfl⟩
 obtain⟨li,oi,pi,ki,a1,a2,a3⟩:=hI;obtain⟨ls,os,ps,ks,b1,b2,b3⟩:=hS;exact⟨li,oi,ls,os,pi,ki,ps,ks,a1,b1,a2,b2,.inr ⟨a3,b3⟩⟩
theorem Zi (t:ByteArray) (hr:(L t).length<=1048576):∃u ok,Ga t=some (u,ok)/\TU t=some (u,ok)/\(ok=false->u=bs [])/\(ok=true->(L u).length<=64):=by
 unfold Ga TU;rw [BH,Qm,DV];by_cases h0:L t=[]
 ·rw [h0];exact⟨_,false,rfl,rfl,by simp,by simp⟩
 have a:0<(L t).length:=by
  rcases GT (L t).length with h|h
  ·exact absurd (AB h) h0
  exact h
 have e1:(((L t).length:Int)==0)=false:=by simp;exact h0
 rw [e1,Af h0,Ab,Ab];have s1:sub t 1 ((L t).length:Int)=some (t.extract 1 (L t).length):=EV t (i:=1) (by omega) (A4 _);have s0:sx t 0=some ((L t)[0].toNat:Int):=EU t (i:=0) a;rw [s1,s0];simp only [Aa];generalize hx:t.extract 1 (L t).length=x;have b:(L x).length<=1048576:=by rw [<-hx,HM];simp;omega
 obtain⟨li,oi,ls,os,pi,ki,ps,ks,a1,a2,a3,a4,a5⟩:=sT x b;rw [a1,a2];simp only [Aa];rw [a3,a4];simp only [Aa];have back:∀j:ByteArray,∃u ok,((EM j).bind λv3=>(bif(!v3.2)then(some true)else(some (!(seq v3.1 t))):Option (Bool)).bind λj2=>bif j2 then(some ((bs []),false))else(some (j,true)):Option (ByteArray×Bool))=some (u,ok)/\
   ((Pz j).bind λv3=>(bif(!v3.2)then(some true)else(some (!(seq v3.1 t))):Option (Bool)).bind λj2=>bif j2 then(some ((bs []),false))else(some (j,true)):Option (ByteArray×Bool))=some (u,ok)/\(ok=false->u=bs [])/\(ok=true->(L u).length<=64/\((L t)[0].toNat=122\/(L t)[0].toNat=114)):=by
  intro j;obtain⟨z,ok,p1,p2,p3,p4⟩:=iW j;rw [p1,p2];simp only [Aa]
  cases ok with
  |false=>exact⟨_,false,rfl,rfl,by simp,by simp⟩
  |true=>
   simp only [Ai,Ab,Aa]
   cases hz:seq z t with
   |false=>exact⟨_,false,rfl,rfl,by simp,by simp⟩
   |true=>
    have c:z=t:=by rw [JT,A5]at hz;exact hz
    obtain⟨p5,p6⟩:=p4 rfl;refine⟨_,true,rfl,rfl,by simp,λ_=>⟨p5,?_⟩⟩;rw [c,Ac a]at p6
    rcases p6 with p6|p6
    ·injection p6 with p6;left;rw [p6];rfl
    injection p6 with p6;right;rw [p6];rfl
 by_cases h122:(L t)[0].toNat=122
 ·have c1:((((L t)[0].toNat:Nat):Int)==122)=true:=by simp [h122]
  have c2:((((L t)[0].toNat:Nat):Int) !=114)=true:=by simp [h122]
  rw [c1,c2];simp only [Ae]
  rcases a5 with⟨rfl,rfl,rfl⟩|⟨hi,hs⟩
  ·cases oi with
   |false=>exact⟨_,false,rfl,rfl,by simp,by simp⟩
   |true=>
    cases ki with
    |false=>exact⟨_,false,rfl,rfl,by simp,by simp⟩
    |true=>
     simp only [Ai,Ab,Aa,By];obtain⟨u,ok,b1,b2,b3,b4⟩:=back pi;exact⟨u,ok,b1,b2,b3,λh=>(b4 h).1⟩
  refine⟨bs [],false,?_,?_,by simp,by simp⟩
  ·rcases hs with rfl|rfl
   ·rfl
   cases os<;>rfl
  rcases hi with rfl|rfl
  ·rfl
  cases oi<;>rfl
 have c1:((((L t)[0].toNat:Nat):Int)==122)=false:=by simp;omega
 rw [c1];simp only [Ab,Aa,By];by_cases h114:(L t)[0].toNat=114
 ·have c2:((((L t)[0].toNat:Nat):Int) !=114)=false:=by simp [h114]
  rw [c2];simp only [Ab,Aa,By];obtain⟨u,ok,b1,b2,b3,b4⟩:=back x;exact⟨u,ok,b1,b2,b3,λh=>(b4 h).1⟩
 have c2:((((L t)[0].toNat:Nat):Int) !=114)=true:=by simp;omega
 rw [c2];simp only [Ae];have nope:∀(j u:ByteArray) (ok:Bool),(ok=true->(L u).length<=64/\((L t)[0].toNat=122\/(L t)[0].toNat=114))->ok=false:=by
  intro j u ok d
  cases ok with
  |false=>rfl
  |true=>rcases(d rfl).2 with h|h<;>omega
 obtain⟨u,ok,b1,b2,b3,b4⟩:=back x;have k1:=nope x u ok b4;subst k1;have k2:=b3 rfl;subst k2;refine⟨bs [],false,b1,?_,by simp,by simp⟩
 cases oi with
 |false=>rfl
 |true=>
  cases ki with
  |false=>rfl
  |true=>
   simp only [Ai,Ab,Aa,By];obtain⟨u,ok,d1,d2,d3,d4⟩:=back pi;have k1:=nope pi u ok d4;subst k1;have k2:=d3 rfl;subst k2;exact d2
def lL (a:Arena):Prop:=a.Knots.length<=1048576
theorem gK (x a b:Int):BX x a b=some (decide (a<=x/\x<=b)):=by
 rw [PO];congr 1;rw [DR];simp
theorem Uv (a:Arena):IM a=GF a:=by
 unfold IM GF;have hb:Mo a=Ej a:=by
  funext y;unfold Mo Ej
  cases decide (y<ln a.Knots)with
  |false=>rfl
  |true=>
   simp only [Ae]
   cases gi a.Knots y with
   |none=>rfl
   |some k=>
    simp only [Aa]
    cases h:(ln k.Kids !=4)with
    |true=>rfl
    |false=>
     simp only [Ab];have h4:ln k.Kids=4:=by simpa using h
     have:(λs:Int=>Mn a y k s)=λs:Int=>Ei a y k s:=by
      funext s;unfold Mn Ei;rw [h4,XZ]
     rw [this]
 rw [hb]
def QI (a:Arena) (i:Nat) (k:BL) (n:Int):Prop:=if k.Leaf=true then 0<=n else n= -1\/(0<=n/\n<i/\∃k',gi a.Knots n=some k'/\k'.Leaf=true)
theorem mT (a:Arena) (ha:lL a):∃v,GF a=some v/\(v=true->∀(i:Nat) k,a.Knots[i]?=some k->k.Kids.length=4/\∀n∈k.Kids,QI a i k n):=by
 unfold lL at ha;unfold GF;obtain⟨r,h1,h2⟩:=Bg (body:=λs:Int=>Ej a s) (λ(_:Unit) i=>i) a.Knots.length (λi _=>∀(j:Nat) k,j<i->a.Knots[j]?=some k->k.Kids.length=4/\∀n∈k.Kids,QI a j k n) (λr=>r= .inr false\/r= .inl ()/\∀(i:Nat) k,a.Knots[i]?=some k->k.Kids.length=4/\∀n∈k.Kids,QI a i k n)
  (λ_ i hi hs=>by
   obtain⟨k,hk⟩:∃k,a.Knots[i]?=some k:=⟨_,Ac hi⟩;simp only [Ej,AC,Ad hi,Ae,A9,hk,Aa];by_cases h4:k.Kids.length=4
   ·have e1:(ln k.Kids !=4)=false:=by simp [ln,h4]
    simp only [e1,Ab];obtain⟨r,q1,q2⟩:=Bg (body:=λs:Int=>Ei a (i:Int) k s) (λ(_:Unit) j=>j) 4 (λj _=>∀(m:Nat) n,m<j->k.Kids[m]?=some n->QI a i k n) (λr=>r= .inr (.inr (.inr false))\/r= .inl ()/\∀n∈k.Kids,QI a i k n)
     (λ_ j hj d=>by
      obtain⟨n,hn⟩:∃n,k.Kids[j]?=some n:=⟨_,Ac (by omega)⟩;simp only [Ei];rw [Ad (by omega:(j:Int)<4),Ae,A9,hn];simp only [Aa]
      have good:QI a i k n->(∃s':Unit,(bif false then(some (.inr (.inr (.inr (.inr false)))))else(some (.inl (ad (j:Int) 1))):Option ((Int)⊕((Unit)⊕((Int)⊕((Unit)⊕(Bool))))))=some (.inl ((j+1:Nat):Int))/\∀(m:Nat) n,m<j+1->k.Kids[m]?=some n->QI a i k n):=λf=>by
       refine⟨(),by rw [Ab,ad1 (by omega)],λm n' hm b=>?_⟩;by_cases e:m=j
       ·subst e;rw [hn]at b
        injection b with b
        rw [<-b];exact f
       exact d m n' (by omega) b
      cases hl:k.Leaf with
      |true=>
       simp only [Ae,Ai,Ab];by_cases h0:n<0
       ·rw [Ad h0,Ae];exact .inr ⟨_,rfl,.inl rfl⟩
       rw [Af h0,Ab];simp only [Aa];exact .inl (good (by unfold QI;rw [Ax hl];omega))
      |false=>
       simp only [Ab,AG,Ae];by_cases h1:n= -1
       ·have:(n != -1)=false:=by simp [h1]
        rw [this];simp only [Ab,Aa];exact .inl (good (by unfold QI;rw [Ay (by rw [hl];simp)];exact .inl h1))
       have:(n != -1)=true:=by simp [h1]
       rw [this];simp only [Ae];rw [Cw (by omega) (by omega),gK];simp only [Aa];by_cases h2:0<=n/\n<=(i:Int)-1
       ·rw [Ad h2];simp only [Ai,Ab];rw [K2 h2.1 (by omega)];simp only [Aa]
        cases g:(a.Knots[n.toNat]'(by omega)).Leaf with
        |true=>
         simp only [Ai];refine .inl (good ?_);unfold QI;rw [Ay (by rw [hl];simp)];exact .inr ⟨h2.1,by omega,_,K2 h2.1 (by omega),g⟩
        |false=>
         simp only [AG,Ae];exact .inr ⟨_,rfl,.inl rfl⟩
       rw [Af h2];simp only [AG,Ae,Aa]
       exact .inr ⟨_,rfl,.inl rfl⟩)
     (λ_ d=>⟨_,by simp only [Ei];rw [Af (by omega:¬((4:Nat):Int)<4),Ab],.inr ⟨rfl,λn hn=>by
      obtain⟨m,hm,rfl⟩:=AI hn
      exact d m _ (by omega) (Ac hm)⟩⟩) (s:=()) (λm n hm=>by omega)
    have q1':Au (λs:Int=>Ei a (i:Int) k s) 0=some r:=q1;rw [q1']
    rcases q2 with rfl|⟨rfl,q2⟩
    ·exact .inr ⟨_,rfl,.inl rfl⟩
    simp only [Aa,By];rw [ad1 (by omega)];refine .inl ⟨(),rfl,λj k' hj c=>?_⟩;by_cases e:j=i
    ·subst e;rw [hk]at c
     injection c with c
     rw [<-c];exact⟨h4,q2⟩
    exact hs j k' (by omega) c
   have e1:(ln k.Kids !=4)=true:=by simp [ln];omega
   simp only [e1,Ae]
   exact .inr ⟨_,rfl,.inl rfl⟩)
  (λ_ hs=>⟨_,by simp only [Ej,AC,Ao,Aq,Ab],.inr ⟨rfl,λi k hk=>hs i k (Ah.1 hk).1 hk⟩⟩) (s:=()) (λj k hj=>by omega)
 have h1':Au (λs:Int=>Ej a s) 0=some r:=h1;rw [h1']
 rcases h2 with rfl|⟨rfl,h2⟩
 ·exact⟨_,rfl,by simp⟩
 exact⟨_,rfl,λ_=>h2⟩
theorem vP (a:Arena) (ha:lL a) (root:Int) (s:Nat) (hs:s<16):∃v,OR a root (s:Int)=some v/\dJ a root (s:Int)=some v:=by
 have f:a.Knots.length<=1048576:=ha;obtain⟨ok,h1,h2⟩:=mT a ha;unfold OR dJ;rw [Uv,h1,XZ];simp only [Aa,gK];rw [Ad (by omega:(0:Int)<=(s:Int)/\(s:Int)<=15)];simp only [Ai,Ab,Aa];have d:∃b,GI a root=some b/\Hx a root=some (b||root== -1)/\(b=true->0<=root/\∃k,gi a.Knots root=some k/\k.Leaf=false):=by
  unfold GI Hx;rw [XZ,Cw (by rw [BG];omega) (by rw [BG];omega),BG,gK];simp only [Aa];by_cases hr:0<=root/\root<=(a.Knots.length:Int)-1
  ·have e1:(root== -1)=false:=by simp;omega
   rw [Ad hr,e1];simp only [Ae,Ab,OA];rw [K2 hr.1 (by omega)];exact⟨_,rfl,rfl,λhb=>⟨hr.1,_,rfl,by simpa using hb⟩⟩
  rw [Af hr];simp only [Ab];refine⟨false,rfl,?_,by simp⟩;cases root== -1<;>rfl
 obtain⟨b,r1,r2,r3⟩:=d;rw [r1,r2];simp only [Aa]
 cases ok with
 |false=>
  simp only [AG,Ae,Aa];cases b<;>exact⟨0,rfl,rfl⟩
 |true=>
  simp only [Ai,Ab]
  cases b with
  |false=>
   simp only [Uu,AG,Ae,Aa]
   cases hm:(root== -1)with
   |false=>exact⟨0,rfl,rfl⟩
   |true=>
    have hr:root= -1:=by simpa using hm
    simp only [Ai,Ab,Aa,MB,hr];rw [Ad (by omega:(-1:Int)<0)];exact⟨0,rfl,rfl⟩
  |true=>
   obtain⟨hr,k,hk,hl⟩:=r3 rfl;simp only [Bool.true_or,Ai,Ab,Aa,MB,XI,hk];rw [Af (by omega:¬root<0),Ab];obtain⟨g1,g2⟩:=Dd hk;obtain⟨k4,kk⟩:=h2 rfl root.toNat k g2;have eq4:qu (s:Int) 4=((s/4:Nat):Int):=by
    unfold qu;rw [show Int.tdiv (s:Int) 4=((s/4:Nat):Int)from rfl,NK (by omega) (by omega)]
   have em:Int.tmod (s:Int) 4=((s %4:Nat):Int):=rfl;rw [eq4,em,K2 (by omega) (by omega)];simp only [Aa,Ba];have e:k.Kids[s/4]'(by omega)∈k.Kids:=AE _;have c:=kk _ e;unfold QI at c;rw [Ay (by rw [hl];simp)]at c
   rcases c with c|⟨c1,c2,k',c3,c4⟩
   ·rw [c,Ad (by omega:(-1:Int)<0)];exact⟨0,rfl,rfl⟩
   rw [Af (by omega),Ab,c3];simp only [Aa];obtain⟨g3,g4⟩:=Dd c3;obtain⟨k4',_⟩:=h2 rfl _ k' g4;rw [K2 (by omega) (by omega)];exact⟨_,rfl,rfl⟩
theorem vT (a:Arena) (ha:lL a) (root:Int):∃l,Jm a root=some l/\oE a root=some l/\l.length=16:=by
 unfold Jm oE;obtain⟨l,h1,h2,h3⟩:=QG (body:=λs:List Int×Int=>Hh a root s.1 s.2) (body':=λs:List Int×Int=>P4 a root s.1 s.2) (λ(o:List Int) i=>(o,i)) (λ(o:List Int) i=>(o,i)) 16 (λi o=>o.length=i) (λo=>o.length=16)
  (λo i hi ho=>by
   obtain⟨v,g1,g2⟩:=vP a ha root i hi;simp only [Hh,P4];rw [Ad (by omega:(i:Int)<16),Ae,Ae,g1,g2];simp only [Aa];rw [Cn (by simp only [Ak];omega),ad1 (by omega)]
   exact .inl ⟨_,rfl,rfl,by simp only [Ag,Ak];omega⟩)
  (λo ho=>⟨o,by simp only [Hh];rw [Af (by omega:¬((16:Nat):Int)<16),Ab],by simp only [P4];rw [Af (by omega:¬((16:Nat):Int)<16),Ab],ho⟩) (s:=[]) rfl
 rw [h1,h2];exact⟨l,rfl,rfl,h3⟩
def dQ:A8:=A8.mk 0 0 (Page.mk 0 0 0 0 0 (bs []))
def Mh (c:Int) (y:A8):Bool:=y.Page.Kind==1&&y.Page.Tx==c
def yQ (r:List A8) (o:Option Nat):A8:=match o with
 |some j=>r[j]?.getD dQ
 |none=>dQ
def gF (c:Int) (r:List A8) (n:Nat) (o:Option Nat):Prop:=match o with
 |none=>∀(k:Nat) y,k<n->r[k]?=some y->Mh c y=false
 |some j=>j<n/\(∃y,r[j]?=some y/\Mh c y=true)/\∀(k:Nat) y,j<k->k<n->r[k]?=some y->Mh c y=false
theorem pQ (r:List A8) (hr:r.length<=1048576) (c:Int):∃o,Lp r c=some (yQ r o,o.isSome)/\gF c r r.length o:=by
 unfold Lp;rw [Cw (by rw [BG];omega) (by rw [BG];omega),BG];obtain⟨b,h1,h2⟩:=Bg (body:=λs:Int=>HT r c s) (λ(_:Unit) i=>(r.length:Int)-1-i) r.length (λi _=>∀(k:Nat) y,r.length-i<=k->k<r.length->r[k]?=some y->Mh c y=false) (λb=>(b= .inl ()/\gF c r r.length none)\/∃j,b= .inr (yQ r (some j),true)/\gF c r r.length (some j))
  (λ_ i hi hs=>by
   have e1:((r.length:Int)-1-(i:Int))=((r.length-1-i:Nat):Int):=by omega
   have a:r.length-1-i<r.length:=by omega
   have hg:r[r.length-1-i]?=some r[r.length-1-i]:=Ac a;simp only [HT,e1];rw [Ad (by omega:((r.length-1-i:Nat):Int)>=0),Ae];simp only [A9,hg,Aa]
   have next:Mh c r[r.length-1-i]=false->∃s':Unit,(some (.inl (sb ((r.length-1-i:Nat):Int) 1)):Option ((Int)⊕((Unit)⊕((A8×Bool)))))=some (.inl ((r.length:Int)-1-((i+1:Nat):Int)))/\∀(k:Nat) y,r.length-(i+1)<=k->k<r.length->r[k]?=some y->Mh c y=false:=λd=>by
    refine⟨(),by rw [Cw (by omega) (by omega)];congr 2;omega,λk y h1 h2 h3=>?_⟩;by_cases e:k=r.length-1-i
    ·subst e;rw [hg]at h3
     injection h3 with h3
     rw [<-h3];exact d
    exact hs k y (by omega) h2 h3
   cases hk:r[r.length-1-i].Page.Kind==1 with
   |false=>
    simp only [Ab,Aa];exact .inl (next (by unfold Mh;rw [hk];rfl))
   |true=>
    simp only [Ae,Aa]
    cases ht:r[r.length-1-i].Page.Tx==c with
    |false=>
     simp only [Ab];exact .inl (next (by unfold Mh;rw [ht,Bool.and_false]))
    |true=>
     simp only [Ae];refine .inr ⟨_,rfl,.inr ⟨r.length-1-i,?_,a,⟨_,hg,by unfold Mh;rw [hk,ht];rfl⟩,λk y h1 h2 h3=>hs k y (by omega) h2 h3⟩⟩
     simp only [yQ,hg,B6])
  (λ_ hs=>⟨_,by simp only [HT];rw [Af (by omega),Ab],.inl ⟨rfl,λk y h1 h2=>hs k y (by omega) h1 h2⟩⟩) (s:=()) (λk y h1 h2=>by omega)
 have e0:((r.length:Int)-1-0)=(r.length:Int)-1:=by omega
 rw [e0]at h1;rw [h1]
 rcases h2 with⟨rfl,h2⟩|⟨j,rfl,h2⟩
 ·exact⟨none,rfl,h2⟩
 exact⟨some j,rfl,h2⟩
theorem sU {y:A8} (hT:∀b∈f.Blocks,∀x∈b.Leaves,(L x.Text).length<=1048576) (h:QJ f y):(L y.Page.Text).length<=90:=by
 obtain⟨b,x,h1,h2,_,h3⟩:=h;obtain⟨_,g1⟩:=Dd h1;obtain⟨_,g2⟩:=Dd h2;obtain⟨p,ok,k1,_,_,k2⟩:=JN x.Text (by have:=hT b (A3 g1) x (A3 g2);omega);rw [h3]at k1
 injection k1 with k1
 injection k1 with k1 k3
 have hp:=k2 k3.symm;obtain⟨v,q1,_,q2⟩:=RR p;rw [hp]at q1
 injection q1 with q1
 obtain⟨_,_,_,_,_,q3⟩:=q2 q1.symm;rw [k1];rw [BH]at q3;omega
structure zB (f:Flash) (r:List A8):Prop where
 s:GB f=some r
 i:JI f=some r
 len:r.length<=1048576
 page:∀y∈r,QJ f y
 text:∀y∈r,(L y.Page.Text).length<=90
 Sf:Sf BT r
theorem XF (x a b:Int):HF x a b=some (decide (a<=x/\x<=b)):=by
 unfold HF;by_cases h:x>=a
 ·rw [Ad h,Ae];by_cases h2:x<=b
  ·rw [Ad h2,Ad ⟨h,h2⟩]
  rw [Af h2,Af λhh=>h2 hh.2]
 rw [Af h,Ab,Af λhh=>h hh.1]
theorem L9 (h:l.length<=1048576):Ik l=some l:=by
 unfold Ik;rw [KS (by omega)];rfl
theorem QQ (a:Arena) (h:uV a.Knots):Io a=some a:=by
 unfold Io;have q:=TN (body:=λs:Int×List BL=>Im a s.1 s.2) a.Knots (λk=>k)
  (λi x b hx ho=>by
   have hi:=(Ah.1 hx).1;have hk:=h.2 x (A3 hx);simp only [Im,AC,Ad hi,Ae,A9,hx,Aa];rw [L9 hk];simp only [Aa];have:=h.1;rw [Cn (by simp;omega),ad1 (by omega)]
   rfl)
  (λb=>by simp only [Im,AC,Ao,Aq,Ab])
 rw [q];simp
theorem QO (s:Store) (h:uV s.Arena.Knots) (hv:s.Vols.length<=1048576):Ij s=some s:=by
 unfold Ij;rw [KS (by omega),QQ _ h];rfl
theorem P3 (a:Arena) (ha:a.Knots.length<=1048576):IM a=some (Da a.Knots):=by rw [Uv,Kd a ha]
theorem QN (a:Arena) (ha:a.Knots.length<=1048576) (r:Int):GI a r=some (decide (0<=r/\r<(a.Knots.length:Int))&&!(BD a.Knots r).Leaf):=by
 unfold GI;rw [XF,BG,Cw (by omega) (by omega)];simp only [Aa];by_cases h:0<=r/\r<(a.Knots.length:Int)
 ·rw [Ad (by omega:0<=r/\r<=(a.Knots.length:Int)-1),Ad h,Ae,HL h.1 h.2];simp
 rw [Af (by omega:¬(0<=r/\r<=(a.Knots.length:Int)-1)),Af h,Ab];simp
theorem f9 {a:Arena} (ha:a.Knots.length<=1048576) (hr:DG a.Knots r=true):(bif(r !=(-1))then((GI a r).bind λv2=>some (!v2))else(some false):Option Bool)=some false:=by
 rcases Ch hr with rfl|⟨h0,h1,hl⟩
 ·rfl
 rw [show(r !=(-1))=true by simp;omega,Ae,QN a ha,Ad ⟨h0,h1⟩,hl];rfl
theorem kZ {s:Nat} (a:Arena) (ha:a.Knots.length<=1048000) (hK:Da a.Knots=true) (hr:DG a.Knots r=true) (hs:s<16) (hn:0<=n):
  W0 a r (s:Int) n=some (Arena.mk (Jc a.Knots r s n),(a.Knots.length:Int)+1):=by
 unfold W0;rw [QQ _ (Ll hK (by omega)),P3 a (by omega),XF,hK];simp only [Aa,Ai,Ab];rw [Ad (by omega:0<=(s:Int)/\(s:Int)<=15),Af (by omega:¬n<0)];simp only [Ai,Ab,Aa];have hq:(bif(r !=(-1))then((GI a r).bind λv2=>bif(!v2)then(some true)else(some false))else(some false):Option Bool)=some false:=by
  rcases Ch hr with rfl|⟨h0,h1,hl⟩
  ·rfl
  rw [show(r !=(-1))=true by simp;omega,Ae,QN a (by omega),Ad ⟨h0,h1⟩,hl];rfl
 rw [hq,mk4];simp only [Aa,Ab];have fin:∀(lf tp:List Int),lf.length=4->tp.length=4->Jc a.Knots r s n=a.Knots++ [BL.mk true (lf.set (s %4) n),BL.mk false (tp.set (s/4) (a.Knots.length:Int))]->
   ((gi lf (Int.tmod (s:Int) 4)).bind λx4=>(gi tp (qu (s:Int) 4)).bind λx5=>(ap 32 a.Knots [(BL.mk true (si lf (Int.tmod (s:Int) 4) n)),(BL.mk false (si tp (qu (s:Int) 4) (ln a.Knots)))]).bind λq2=>some ((Arena.mk q2),(ad (ln a.Knots) 1)))=some (Arena.mk (Jc a.Knots r s n),(a.Knots.length:Int)+1):=by
  intro lf tp h1 h2 h3;rw [qu4 hs,rG,A9,A9,Ac (by omega),Ac (by omega)];simp only [Aa];rw [Cn (by simp;omega),Ep,Ep,BG,<-h3,ad1 (by omega)];rfl
 rcases Ch hr with rfl|⟨h0,h1,hl⟩
 ·rw [Af (by omega:¬(-1:Int)>=0)];simp only [Ab,Aa];have hx:gi [(-1:Int),(-1),(-1),(-1)] (qu (s:Int) 4)=some (-1):=by
   rw [qu4 hs,A9];have:s/4<4:=by omega
   match s/4,this with
   |0,_=>rfl
   |1,_=>rfl
   |2,_=>rfl
   |3,_=>rfl
   |n+4,h=>omega
  rw [hx];simp only [Aa];rw [Af (by omega:¬(-1:Int)>=0)];simp only [Ab,Aa];have:=fin [0,0,0,0] [(-1),(-1),(-1),(-1)] rfl rfl rfl;rw [hx]at this;exact this
 rw [Ad (by omega:r>=0),Ae,HL h0 h1];have h4:=(Ft hK h0 h1).1;simp only [Aa];rw [L9 (by omega)];simp only [Aa];have hx:gi (BD a.Knots r).Kids (qu (s:Int) 4)=some (Kt (BD a.Knots r) (s/4)):=by rw [qu4 hs,g6 (by omega:s/4<(BD a.Knots r).Kids.length)]
 rw [hx];simp only [Aa]
 rcases Ge hK h0 h1 hl (show s/4<4 by omega)with e|⟨e1,e2,e3⟩
 ·rw [Af (by omega:¬Kt (BD a.Knots r) (s/4)>=0)];simp only [Ab,Aa];have:=fin [0,0,0,0] (BD a.Knots r).Kids rfl h4 (by unfold Jc N3 RU;simp only [Ay (show¬r<0 by omega),Ax (show Kt (BD a.Knots r) (s/4)<0 by omega)]);rw [hx]at this;exact this
 rw [Ad (by omega:Kt (BD a.Knots r) (s/4)>=0),Ae,HL e1 (by omega)];have h5:=(Ft hK e1 (by omega)).1;simp only [Aa];rw [L9 (by omega)];simp only [Aa];have:=fin (BD a.Knots (Kt (BD a.Knots r) (s/4))).Kids (BD a.Knots r).Kids h5 h4 (by unfold Jc N3 RU;simp only [Ay (show¬r<0 by omega),Ay (show¬Kt (BD a.Knots r) (s/4)<0 by omega)]);rw [hx]at this;exact this
theorem W2 (l:List Int) (n:Int) (hl:l.length<=1048576):MY l n=some (l.contains n):=by
 unfold MY;obtain⟨b,h1,h2⟩:=Bg (body:=λs:Int=>JH l n s) (λ(_:Unit) i=>i) l.length (λi _=>n∉l.take i) (λb=>(b= .inr true/\n∈l)\/(b= .inl ()/\n∉l))
  (λ_ i hi hs=>by
   have hx:=Ac hi;simp only [JH,AC,Ad hi,Ae,A9,hx,Aa];rw [ad1 (by omega)]
   cases e:(l[i]==n)with
   |true=>exact .inr ⟨_,rfl,.inl ⟨rfl,by
    have e2:l[i]=n:=by simpa using e
    rw [<-e2]
    exact AE hi⟩⟩
   |false=>
    refine .inl ⟨(),by simp only [Ab],?_⟩;rw [Av hi,Aj,Aw];rintro(h|h)
    ·exact hs h
    rw [h]at e;simp at e)
  (λ_ hs=>⟨.inl (),by simp only [JH,AC,Ao,Aq,Ab],.inr ⟨rfl,by rw [AN]at hs;exact hs⟩⟩) (s:=()) (by simp)
 have h1':Au (λs:Int=>JH l n s) 0=some b:=h1;rw [h1']
 rcases h2 with⟨rfl,h⟩|⟨rfl,h⟩
 ·simp [h]
 simp [h]
theorem TS (a:Arena) (ha:a.Knots.length<=1048000) (hK:Da a.Knots=true) (hr:DG a.Knots r=true):∃l,Ou a r=some l/\l.length<=5/\∀i:Nat,(i:Int)∈l↔MZ a.Knots r i=true:=by
 unfold Ou;rw [QN a (by omega)];simp only [Aa]
 rcases Ch hr with rfl|⟨h0,h1,hl⟩
 ·rw [Af (by omega:¬((0:Int)<= -1/\(-1:Int)<(a.Knots.length:Int)))];exact⟨[],rfl,by simp,λi=>by simp [MZ]⟩
 rw [Ad ⟨h0,h1⟩,hl,HL h0 h1];simp only [AG,HN,Ai,Ab,Aa];obtain⟨h4,hk⟩:=Ft hK h0 h1;obtain⟨l,q1,q2,q3⟩:=Bg (body:=λs:List Int×Int=>Ki a (BD a.Knots r) s.1 s.2) (λ(o:List Int) i=>(o,i)) (BD a.Knots r).Kids.length
  (λi o=>o.length<=1+i/\∀n:Nat,(n:Int)∈o↔(r=(n:Int)\/(n:Int)∈(BD a.Knots r).Kids.take i)) (λo=>o.length<=5/\∀n:Nat,(n:Int)∈o↔(r=(n:Int)\/(n:Int)∈(BD a.Knots r).Kids))
  (λo i hi ho=>by
   obtain⟨o1,o2⟩:=ho;have hx:=Ac hi;have et:(BD a.Knots r).Kids.take (i+1)=(BD a.Knots r).Kids.take i++ [(BD a.Knots r).Kids[i]]:=Av hi;refine .inl ?_;simp only [Ki,AC,Ad hi,Ae,A9,hx,Aa];rw [XF,BG,Cw (by omega) (by omega),ad1 (by omega)];simp only [Aa];have b:(BD a.Knots r).Kids[i]=Kt (BD a.Knots r) i:=by
    have:=(hk i (by omega)).1;rw [hx]at this;injection this
   rcases Ge hK h0 h1 hl (show i<4 by omega)with e|⟨e1,e2,e3⟩
   ·rw [Af (by omega),Ab];refine⟨o,rfl,by omega,λn=>?_⟩;rw [o2,et,Aj,Aw,b,e];constructor
    ·rintro(h|h)
     ·exact .inl h
     exact .inr (.inl h)
    rintro(h|h|h)
    ·exact .inl h
    ·exact .inr h
    omega
   rw [Ad (by omega),Ae,W2 o _ (by omega)];simp only [Aa]
   cases hc:o.contains (BD a.Knots r).Kids[i]with
   |true=>
    have hm:(BD a.Knots r).Kids[i]∈o:=by simpa using hc
    refine⟨o,rfl,by omega,λn=>?_⟩;rw [o2,et,Aj,Aw];constructor
    ·rintro(h|h)
     ·exact .inl h
     exact .inr (.inl h)
    rintro(h|h|h)
    ·exact .inl h
    ·exact .inr h
    rw [<-h]at hm;exact(o2 n).1 hm
   |false=>
    simp only [AG,Ae];rw [Cn (by simp;omega)];refine⟨_,rfl,by simp;omega,λn=>?_⟩;rw [Aj,Aw,o2,et,Aj,Aw];constructor
    ·rintro((h|h)|h)
     ·exact .inl h
     ·exact .inr (.inl h)
     exact .inr (.inr h)
    rintro(h|h|h)
    ·exact .inl (.inl h)
    ·exact .inl (.inr h)
    exact .inr h)
  (λo ho=>⟨o,by simp only [Ki,AC,Ao,Aq,Ab],by have:=ho.1;omega,by have:=ho.2;rw [AN]at this;exact this⟩) (s:=[r]) ⟨by simp,λn=>by simp [eq_comm]⟩
 rw [q1];refine⟨l,rfl,q2,λi=>?_⟩;rw [q3];unfold MZ;rw [Ad h0,CC,C3,A5,CW];constructor
 ·rintro(h|h)
  ·exact .inl h
  exact .inr ⟨_,h,by simp⟩
 rintro(h|⟨x,h,k⟩)
 ·exact .inl h
 right;have:x=(i:Int):=by simpa using k
 rw [<-this];exact h
theorem dC (a:Arena) (ha:a.Knots.length<=1048000) (hK:Da a.Knots=true) (R:List Int) (hc:R.length<=1000) (hR:∀r∈R,DG a.Knots r=true) (v:List Int):∃l,Au (λs:List Int×Int=>FT a R v s.1 s.2) ([],0)=some (.inl l)/\l.length<=5000/\∀i:Nat,(i:Int)∈l↔C7 a.Knots R i=true:=by
 obtain⟨b,h1,l,rfl,h3,h4⟩:=Bg (body:=λs:List Int×Int=>FT a R v s.1 s.2) (λ(o:List Int) i=>(o,i)) R.length (λi o=>o.length<=5*i/\∀n:Nat,(n:Int)∈o↔C7 a.Knots (R.take i) n=true) (λb=>∃l,b= .inl l/\l.length<=5000/\∀i:Nat,(i:Int)∈l↔C7 a.Knots R i=true)
  (λo i hi ho=>by
   obtain⟨o1,o2⟩:=ho;have hx:=Ac hi;have hr:=hR _ (AE hi);obtain⟨m,m1,m2,m3⟩:=TS a ha hK hr;simp only [FT,AC,Ad hi,Ae,A9,hx,Aa];rw [f9 (by omega) hr];simp only [Aa,Ab];rw [m1];simp only [Aa];rw [Cn (by omega),ad1 (by omega)];refine .inl ⟨o++m,rfl,by simp;omega,λn=>?_⟩;rw [Aj,o2,m3];unfold C7
   rw [Tl hx,C3])
  (λo ho=>⟨_,by simp only [FT,AC,Ao,Aq,Ab],o,rfl,by have:=ho.1;omega,by have:=ho.2;rw [AN]at this;exact this⟩) (s:=[]) ⟨by simp,λn=>by simp [C7]⟩
 exact⟨l,h1,h3,h4⟩
theorem YW (a:Arena) (ha:a.Knots.length<=1048000) (hK:Da a.Knots=true) (R:List Int) (hR:∀r∈R,DG a.Knots r=true) (l:List Int) (h7:l.length<=5000) (hl:∀i:Nat,(i:Int)∈l↔C7 a.Knots R i=true):
  Au (λs:List Int×Int×List BL=>FR a l s.1 s.2.1 s.2.2) (List.replicate a.Knots.length 0,0,[])=some (R0 a.Knots R a.Knots.length,RV a.Knots R):=by
 have n:∀i:Nat,l.contains (i:Int)=C7 a.Knots R i:=λi=>by
  cases hu:C7 a.Knots R i with
  |true=>exact List.contains_iff_mem.2 ((hl i).2 hu)
  |false=>
   cases hc:l.contains (i:Int)with
   |false=>rfl
   |true=>have:=(hl i).1 (by simpa using hc);rw [hu]at this;cases this
 obtain⟨b,h1,h2⟩:=Bg (body:=λs:List Int×Int×List BL=>FR a l s.1 s.2.1 s.2.2) (λ(o:List Int×List BL) i=>(o.1,i,o.2)) a.Knots.length
  (λi o=>o=(R0 a.Knots R i,((List.range i).filter (C7 a.Knots R)).map (Wk a.Knots R))) (λb=>b=(R0 a.Knots R a.Knots.length,RV a.Knots R))
  (λo i hi ho=>by
   subst ho;have h0:(0:Int)<=(i:Int):=by omega
   have g:(i:Int)<(a.Knots.length:Int):=by omega
   simp only [FR,AC,Ad hi,Ae];rw [HL h0 g,W2 l _ (by omega),n];simp only [Aa]
   cases hu:C7 a.Knots R i with
   |false=>
    simp only [AG,Ae];rw [ad1 (by omega)];refine .inl ⟨(R0 a.Knots R i,((List.range i).filter (C7 a.Knots R)).map (Wk a.Knots R)),rfl,?_⟩;congr 1
    ·unfold R0;apply CS;intro j hj;by_cases e:j=i
     ·subst e;rw [Ay (by omega),Ay (by rw [hu];simp)]
     by_cases h:j<i/\C7 a.Knots R j=true
     ·rw [Ax h,Ax ⟨by omega,h.2⟩]
     rw [Ay h,Ay (λh3=>h ⟨by omega,h3.2⟩)]
    rw [Er,AS,Cj (by rw [hu];simp)];simp
   |true=>
    simp only [Ai,Ab];obtain⟨h4,hk⟩:=Ft hK h0 g;have w:gi (R0 a.Knots R i) (i:Int)=some 0:=by
     unfold R0;rw [A9,H6 hi,Ay (by omega)]
    rw [w,L9 (by omega)];simp only [Aa];have h6:=zQ (K:=a.Knots) (R:=R) i;have p:(((List.range i).filter (C7 a.Knots R)).map (Wk a.Knots R)).length=YU a.Knots R i:=by rw [Be];rfl
    have f:si (R0 a.Knots R i) (i:Int) (ln (((List.range i).filter (C7 a.Knots R)).map (Wk a.Knots R)))=R0 a.Knots R (i+1):=by
     rw [BG,p,Ep];unfold R0;apply Oi;intro j hj;by_cases e:j=i
     ·subst e;rw [Ax ⟨by omega,hu⟩,Ax rfl]
     rw [Ay e];by_cases h:j<i/\C7 a.Knots R j=true
     ·rw [Ax h,Ax ⟨by omega,h.2⟩]
     rw [Ay h,Ay (λh3=>h ⟨by omega,h3.2⟩)]
    have inner:Au (λs:Int×List Int=>FQ (R0 a.Knots R i) (i:Int) (((List.range i).filter (C7 a.Knots R)).map (Wk a.Knots R)) (BD a.Knots (i:Int)) s.1 s.2) (0,(BD a.Knots (i:Int)).Kids)=some (Wk a.Knots R i).Kids:=by
     have q:=MR (body:=λs:Int×List Int=>FQ (R0 a.Knots R i) (i:Int) (((List.range i).filter (C7 a.Knots R)).map (Wk a.Knots R)) (BD a.Knots (i:Int)) s.1 s.2) (λl k=>(k,l)) (λ_ x=>bif(BD a.Knots (i:Int)).Leaf then x else Mv a.Knots R x) (BD a.Knots (i:Int)).Kids
      (λk l x y m d=>by
       have z:=(Ah.1 d).1;have t:k<4:=by omega
       have ex:x=Kt (BD a.Knots (i:Int)) k:=by have:=(hk k t).1;rw [d]at this;injection this
       have same:l.set k x=l:=by
        apply Co;intro j;rw [BI];split
        ·rename_i e5;subst e5;rw [Ax (Ah.1 m).1,m]
        rfl
       simp only [FQ,AC,Ad z,Ae,A9,d,Aa];rw [f]
       cases u:(BD a.Knots (i:Int)).Leaf with
       |true=>
        simp only [Ai,Ab,Ae,Aa];rw [same,ad1 (by omega)]
       |false=>
        simp only [AG,Ae,Ab,Aa]
        rcases Ge hK h0 g u t with e|⟨e1,e2,e3⟩
        ·rw [Af (by omega:¬x>=0),Ab,ad1 (by omega)];have:Mv a.Knots R x=x:=by unfold Mv;rw [Ay (by omega)]
         rw [this,same]
        rw [Ad (by omega:x>=0),Ae];obtain⟨c,hc⟩:∃c:Nat,x=(c:Int):=⟨x.toNat,by omega⟩;have h5:x∈(BD a.Knots (i:Int)).Kids:=A3 d;have v:=Tf (WI hK hR hu u) h0 h5 (by omega);rw [hc]at v;rw [hc,A9];unfold R0;rw [H6 (by omega)];simp only [Aa];rw [Ax ⟨by omega,v⟩,m];simp only [Aa];rw [Ep,ad1 (by omega)];unfold Mv;rw [Ax (by omega)]
        rfl)
      (λl y=>by simp only [FQ,AC,Ao,Aq,Ab])
     rw [IA]at q;rw [q];unfold Wk
     cases(BD a.Knots (i:Int)).Leaf with
     |true=>simp
     |false=>rfl
    rw [inner];simp only [Aa];rw [Cn (by rw [p];simp;omega)];simp only [Aa];rw [ad1 (by omega),f];refine .inl ⟨(_,_),rfl,?_⟩;congr 1;rw [Er,AS,Cc hu,Gl,Cq]
    rfl)
  (λo ho=>⟨o,by simp only [FR,AC,Ao,Aq,Ab],ho⟩) (s:=(List.replicate a.Knots.length 0,[])) (by
   unfold R0;simp only [Nat.not_lt_zero,false_and,Gp];rw [Ju,Ca]
   rfl)
 rw [<-h2];exact h1
theorem kY (a:Arena) (ha:a.Knots.length<=1048000) (hK:Da a.Knots=true) (R:List Int) (hc:R.length<=1000) (hR:∀r∈R,DG a.Knots r=true):Mj a R=some (Arena.mk (RV a.Knots R),R.map (Mv a.Knots R)):=by
 unfold Mj;rw [L9 (by omega)];simp only [Aa];obtain⟨l,l1,l2,l3⟩:=dC a ha hK R hc hR R;rw [l1,P3 a (by omega),hK];simp only [Aa,By,Ai,Ab];rw [BG,UN (by omega) (by omega)];simp only [Aa];rw [YW a ha hK R hR l l2 l3];simp only [Aa];have hb:(λs:List Int×Int=>Eo R (R0 a.Knots R a.Knots.length,RV a.Knots R) s.1 s.2)=(λs:List Int×Int=>Eo R (R0 a.Knots R a.Knots.length,RV a.Knots R) s.1 s.2):=rfl;have q:=MR (body:=λs:List Int×Int=>Eo R (R0 a.Knots R a.Knots.length,RV a.Knots R) s.1 s.2) (λl k=>(l,k)) (λ_ x=>Mv a.Knots R x) R
  (λk l x h d b=>by
   have hk:=(Ah.1 b).1;simp only [Eo,AC,Ad hk,Ae,A9,b,Aa]
   rcases Ch (hR x (A3 b))with e|⟨e1,e2,e3⟩
   ·rw [Af (by omega:¬x>=0),Ab,ad1 (by omega)];have:Mv a.Knots R x=x:=by unfold Mv;rw [Ay (by omega)]
    rw [this,show l.set k x=l from by
     apply Co;intro j;rw [BI];split
     ·rename_i e5;subst e5;rw [Ax (Ah.1 d).1,d]
     rfl]
   rw [Ad (by omega:x>=0),Ae];obtain⟨c,f⟩:∃c:Nat,x=(c:Int):=⟨x.toNat,by omega⟩;have g:=NZ (K:=a.Knots) (A3 b) e1;rw [f]at g;rw [f,A9];unfold R0;rw [H6 (by omega)];simp only [Aa];rw [Ax ⟨by omega,g⟩,d];simp only [Aa];rw [Ep,ad1 (by omega)];unfold Mv;rw [Ax (by omega)]
   rfl)
  (λl h=>by simp only [Eo,AC,Ao,Aq,Ab])
 rw [IA]at q;have q':Au (λs:List Int×Int=>Eo R (R0 a.Knots R a.Knots.length,RV a.Knots R) s.1 s.2) (R,0)=some (R.map (Mv a.Knots R)):=q;rw [q'];rfl
theorem MW (h:StoreR s):Lg s=some (K5 s):=by
 have hl:=h.len;have hf:=h.few;have e:(BB s).length=s.Vols.length:=by unfold BB;rw [Be]
 unfold Lg;have hr:Au (λq:List Int×Int=>Fj s q.1 q.2) ([],0)=some (BB s):=by
  obtain⟨b,h1,h2⟩:=Bg (body:=λq:List Int×Int=>Fj s q.1 q.2) (λ(o:List Int) i=>(o,i)) s.Vols.length (λi o=>o=(s.Vols.take i).map Vol.Root) (λb=>b=BB s)
   (λo i hi ho=>by
    have hx:=Ac hi;simp only [Fj,AC,Ad hi,Ae,A9,hx,Aa];rw [Cn (by rw [ho];simp;omega)];simp only [Aa];rw [ad1 (by omega)]
    exact .inl ⟨_,rfl,by rw [ho,DY,hx,Cq];rfl⟩)
   (λo ho=>⟨o,by simp only [Fj,AC,Ao,Aq,Ab],by rw [ho,AO (A4 _)];rfl⟩) (s:=[]) rfl
  rw [<-h2];exact h1
 rw [hr];simp only [Aa];rw [kY _ (by omega) h.ar _ (by omega) h.root];simp only [Aa];have q:=MR (body:=λq:Int×List Vol=>GJ s (Arena.mk (RV s.Arena.Knots (BB s)),(BB s).map (Mv s.Arena.Knots (BB s))) q.1 q.2) (λl i=>(i,l)) (λ_ v=>Vol.mk v.Id (Mv s.Arena.Knots (BB s) v.Root)) s.Vols
  (λi l x c d a=>by
   have hi:=(Ah.1 a).1;simp only [GJ,AC,Ad hi,Ae];have:gi ((BB s).map (Mv s.Arena.Knots (BB s))) (i:Int)=some (Mv s.Arena.Knots (BB s) x.Root):=by
    rw [A9,AQ];unfold BB;rw [AQ,a];rfl
   rw [this,A9,d];simp only [Aa]
   rw [Ep,ad1 (by omega)])
  (λl c=>by simp only [GJ,AC,Ao,Aq,Ab])
 rw [IA]at q;rw [q];rfl
abbrev Vs:=List (Int×List Int)
def Kn (l:Vs) (id:Int):Option (List Int):=(l.find? λp=>p.1==id).map Prod.snd
def kV (l:Vs) (id:Int) (a:List Int):Vs:=(l.filter λp=>decide (p.1<id))++ [(id,a)]++l.filter λp=>decide (p.1>id)
def ACh (l:Vs) (id:Int):Vs:=l.filter λp=>p.1 !=id
def jT (l:Vs) (id:Int) (s:Nat) (n:Int):Vs:=l.map λp=>if p.1=id then(p.1,p.2.set s n)else p
def Gx (r:De):Bool:=decide (0<=r.Arg/\r.Arg<=1000000000)&&(bif r.Kind==1 then r.Vol==0&&r.Chunk==0 else decide (2<=r.Kind/\r.Kind<=5)&&decide (1<=r.Vol/\r.Vol<=9)&&(r.Kind==4||r.Chunk==0)&&
 (bif r.Kind==2 then decide (r.Arg<=9)else bif r.Kind==3 then r.Arg==0 else bif r.Kind==4 then decide (r.Arg<16)&&decide (1<=r.Chunk/\r.Chunk<=1000000000)else decide (r.Arg<16)))
def Qc:List Int:=List.replicate 16 0
def D7 (l:Vs) (nx:Int) (r:De):Option (Vs×Int):=
 if Gx r=false then none
 else if r.Kind=1 then some ([],if r.Arg=0 then 1 else r.Arg)
 else if r.Kind=2 then
  if(0<r.Arg/\Kn l r.Arg=none)\/Kn l r.Vol≠none\/l.length=3 then none
  else some (kV l r.Vol (if 0<r.Arg then(Kn l r.Arg).getD Qc else Qc),nx)
 else if Kn l r.Vol=none\/r.Chunk=1000000000 then none
 else if r.Kind=3 then some (ACh l r.Vol,nx)
 else some (jT l r.Vol r.Arg.toNat r.Chunk,max nx (r.Chunk+1))
theorem Mu (r:De):Nw r=some (Gx r):=by
 unfold Nw Gx;simp only [E4,Aa]
 cases decide (0<=r.Arg/\r.Arg<=1000000000)with
 |false=>rfl
 |true=>
  simp only [Ai,Ab,CC]
  cases r.Kind==1 with
  |true=>
   simp only [Ae];cases r.Vol==0<;>rfl
  |false=>
   simp only [Ab]
   cases decide (2<=r.Kind/\r.Kind<=5)with
   |false=>rfl
   |true=>
    cases decide (1<=r.Vol/\r.Vol<=9)with
    |false=>rfl
    |true=>
     have e1:(r.Kind !=4)=!(r.Kind==4):=rfl;have e2:(r.Chunk !=0)=!(r.Chunk==0):=rfl;rw [e1,e2];cases r.Kind==4<;>cases r.Chunk==0<;>cases r.Kind==2<;>cases r.Kind==3<;>cases decide (r.Arg<16)<;>rfl
theorem Fp (s:Store) (hv:s.Vols.length<=1048576) (id:Int):(Eb s id=some (-1)/\∀v∈s.Vols,v.Id≠id)\/∃k:Nat,∃v,Eb s id=some (k:Int)/\s.Vols[k]?=some v/\v.Id=id/\∀j w,j<k->s.Vols[j]?=some w->w.Id≠id:=by
 unfold Eb;obtain⟨b,h1,h2⟩:=Bg (body:=λq:Int=>K9 s id q) (λ(_:Unit) i=>i) s.Vols.length (λi _=>∀j w,j<i->s.Vols[j]?=some w->w.Id≠id)
  (λb=>(b= .inl ()/\∀v∈s.Vols,v.Id≠id)\/∃k:Nat,∃v,b= .inr (k:Int)/\s.Vols[k]?=some v/\v.Id=id/\∀j w,j<k->s.Vols[j]?=some w->w.Id≠id)
  (λ_ i hi hs=>by
   have hx:=Ac hi;simp only [K9,AC,Ad hi,Ae,A9,hx,Aa]
   cases e:(s.Vols[i].Id==id)with
   |true=>exact .inr ⟨_,rfl,.inr ⟨i,_,rfl,hx,by simpa using e,hs⟩⟩
   |false=>
    simp only [Ab];rw [ad1 (by omega)];refine .inl ⟨(),rfl,λj w hj hw=>?_⟩;by_cases e2:j=i
    ·subst e2;rw [hx]at hw
     injection hw with hw
     rw [<-hw];simpa using e
    exact hs j w (by omega) hw)
  (λ_ hs=>⟨_,by simp only [K9,AC,Ao,Aq,Ab],.inl ⟨rfl,λv hv=>by
   obtain⟨j,hj,rfl⟩:=AI hv
   exact hs j _ hj (Ac hj)⟩⟩) (s:=()) (λj w hj=>by omega)
 have h1':Au (λq:Int=>K9 s id q) 0=some b:=h1;rw [h1']
 rcases h2 with⟨rfl,h2⟩|⟨k,v,rfl,h2⟩
 ·exact .inl ⟨rfl,h2⟩
 exact .inr ⟨k,v,rfl,h2⟩
theorem KM {id:Int}:(∀v∈s.Vols,v.Id≠id)↔Kn (BJ s) id=none:=by
 unfold Kn BJ;rw [Option.map_eq_none_iff,Fl];constructor
 ·intro h p hp;obtain⟨v,hv,rfl⟩:=AJ.1 hp;simpa using h v hv
 intro h v hv;have:=h _ (AJ.2 ⟨v,hv,rfl⟩);simpa using this
theorem yV {w:Vol} (h:(s.Vols.map Vol.Id).Pairwise (·<·)) (hv:v∈s.Vols) (hw:w∈s.Vols) (e:v.Id=w.Id):v=w:=by
 obtain⟨i,hi,rfl⟩:=AI hv;obtain⟨j,hj,rfl⟩:=AI hw;have gi:(s.Vols.map Vol.Id)[i]?=some s.Vols[i].Id:=by rw [AQ,Ac hi];rfl
 have gj:(s.Vols.map Vol.Id)[j]?=some s.Vols[j].Id:=by rw [AQ,Ac hj];rfl
 rcases SX i j with h1|h1|h1
 ·have:=Ok h h1 gi gj;omega
 ·subst h1;rfl
 have:=Ok h h1 gj gi;omega
theorem Ow (h:(s.Vols.map Vol.Id).Pairwise (·<·)) (hv:v∈s.Vols):Kn (BJ s) v.Id=some (EQ s.Arena.Knots v.Root):=by
 unfold Kn;have hm:(v.Id,EQ s.Arena.Knots v.Root)∈BJ s:=AJ.2 ⟨v,hv,rfl⟩
 cases hf:(BJ s).find? λp=>p.1==v.Id with
 |none=>
  rw [Fl]at hf;have:=hf _ hm;simp at this
 |some p=>
  have h1:=List.find?_some hf;have h2:=List.mem_of_find?_eq_some hf;obtain⟨w,hw,rfl⟩:=AJ.1 h2;have:w=v:=yV h hw hv (by simpa using h1);rw [this];rfl
theorem Ng (s:Store):(BJ s).length=s.Vols.length:=by unfold BJ;rw [Be]
theorem fT (K:Ks):EQ K (-1)=Qc:=by
 unfold EQ Qc;rw [<-Ca (n:=16),<-Ju,Ca];apply CS;intro s hs;rfl
theorem lS (s:Store) (p:Int->Bool) (t:Store) (hk:t.Arena=s.Arena) (hv:t.Vols=s.Vols.filter λv=>p v.Id):BJ t=(BJ s).filter λq=>p q.1:=by
 unfold BJ;rw [hk,hv,List.filter_map];rfl
theorem R6 {body:List Vol×Int->Option ((List Vol×Int)⊕List Vol)} (l:List Vol) (p:Vol->Bool) (o:List Vol) (hM:l.length+o.length<=1048576) (h1:∀(i:Nat) v (a:List Vol),l[i]?=some v->a.length<=1048576->body (a,(i:Int))=some (.inl (bif p v then a++ [v]else a,((i+1:Nat):Int)))) (h2:∀a,body (a,(l.length:Int))=some (.inr a)):
  Au body (o,0)=some (o++l.filter p):=by
 obtain⟨b,h3,h4⟩:=Bg (body:=body) (λ(q:List Vol) i=>(q,i)) l.length (λi q=>q=o++(l.take i).filter p) (λb=>b=o++l.filter p)
  (λq i hi hq=>by
   have hx:=Ac hi;refine .inl ⟨_,h1 i _ q hx ?_,?_⟩
   ·rw [hq,Ag];have:=CM p (l.take i);rw [AH]at this;omega
   rw [hq,DY,hx,AS]
   cases e:p l[i]with
   |true=>simp [e]
   |false=>simp [e])
  (λq hq=>⟨q,h2 q,by rw [hq,AO (A4 _)]⟩) (s:=o) (by simp)
 rw [h3,h4]
theorem uE {R':List Int} (h:∀r∈R,r∈R') (hu:C7 K R i=true):C7 K R' i=true:=by
 unfold C7 at hu⊢;rw [CW]at hu⊢;obtain⟨r,hr,h2⟩:=hu;exact⟨r,h r hr,h2⟩
theorem WW {l:List Vol} (h:(l.map Vol.Id).Pairwise (·<·)) (v:Vol):(((l.filter λw=>decide (w.Id<v.Id))++ [v]++l.filter λw=>decide (w.Id>v.Id)).map Vol.Id).Pairwise (·<·):=by
 rw [JP]at h;rw [JP,Ap,B4];refine⟨h.filter _,?_,?_⟩
 ·rw [Cm,Db];exact⟨λw hw=>by simpa using(AT.1 hw).2,h.filter _⟩
 intro a ha b hb;have h1:a.Id<v.Id:=by simpa using(AT.1 ha).2
 rw [Cm,BA]at hb
 rcases hb with rfl|hb
 ·exact h1
 have:b.Id>v.Id:=by simpa using(AT.1 hb).2
 omega
theorem Z6 (l:List Vol) (id:Int):(l.filter λw=>decide (w.Id<id)).length+(l.filter λw=>decide (w.Id>id)).length<=l.length:=by
 induction l with
 |nil=>simp
 |cons v l ih=>
  simp only [List.filter_cons,A0];by_cases h1:v.Id<id
  ·rw [Ax (by simpa using h1),Ay (by simp;omega),A0];omega
  rw [Ay (by simpa using h1)];split
  ·rw [A0];omega
  omega
def Lb (s:Store) (r:De) (o:Option (Store×Bool)):Prop:=match D7 (BJ s) s.Next r with
 |none=>o=some (s,false)
 |some (l,nx)=>∃t,o=some (t,true)/\Dn t/\BJ t=l/\t.Next=nx
theorem qG {r:De} (h:Dn s) (hr:Gx r=true) (hk:r.Kind=2):Lb s r (FX s r):=by
 have hl:=h.len;have d:=Ll h.ar (by have:=h.few;omega);have a:=FZ s d (by omega);have hb:Gx r=true:=hr;unfold Gx at hr;rw [hk]at hr;simp at hr;unfold Lb D7;rw [hb,hk];simp only [Jk,Gp,BW,show¬((2:Int)=1) by omega];unfold FX;have root:(Kn (BJ s) r.Arg=none/\0<r.Arg/\(bif(decide (r.Arg>0))then((Eb s r.Arg).bind λv1=>bif(decide (v1<0))then((El s).bind λv2=>some (.inr (v2,false)))else((gi s.Vols v1).bind λx1=>some (.inl x1.Root)))else(some (.inl (-1))):Option ((Int)⊕((Store×Bool))))=some (.inr (s,false)))\/
   (¬(0<r.Arg/\Kn (BJ s) r.Arg=none)/\∃q,DG s.Arena.Knots q=true/\(q= -1\/q∈BB s)/\EQ s.Arena.Knots q=(if 0<r.Arg then(Kn (BJ s) r.Arg).getD Qc else Qc)/\(bif(decide (r.Arg>0))then((Eb s r.Arg).bind λv1=>bif(decide (v1<0))then((El s).bind λv2=>some (.inr (v2,false)))else((gi s.Vols v1).bind λx1=>some (.inl x1.Root)))else(some (.inl (-1))):Option ((Int)⊕((Store×Bool))))=some (.inl q)):=by
  by_cases h0:0<r.Arg
  ·rw [Ad (by omega:r.Arg>0)];simp only [Ae]
   rcases Fp s (by omega) r.Arg with⟨h1,h2⟩|⟨k,v,h1,h2,h3,_⟩
   ·left;rw [h1,a];exact⟨KM.1 h2,h0,rfl⟩
   right;rw [h1];have hm:=A3 h2;have hg:=Ow h.asc hm;rw [h3]at hg;refine⟨λhh=>(by rw [hg]at hh;cases hh.2),v.Root,h.root _ (AJ.2 ⟨v,hm,rfl⟩),.inr (AJ.2 ⟨v,hm,rfl⟩),?_,?_⟩
   ·rw [Ax h0,hg];rfl
   simp only [Aa];rw [Af (by omega),Ab,A9,h2];rfl
  right;rw [Af (by omega:¬r.Arg>0),Ay h0];exact⟨λhh=>h0 hh.1,-1,rfl,.inl rfl,fT _,rfl⟩
 rcases root with⟨g1,g2,g3⟩|⟨g1,q,g2,g3,g4,g5⟩
 ·rw [g3,Ax (.inl ⟨g2,g1⟩)];rfl
 rw [g5];simp only [Aa,By]
 rcases Fp s (by omega) r.Vol with⟨h1,h2⟩|⟨k,v,h1,h2,h3,_⟩
 ·rw [h1];simp only [Aa];rw [Af (by omega),Ab,BG];have j:Kn (BJ s) r.Vol=none:=KM.1 h2;by_cases h3:s.Vols.length=3
  ·rw [h3,Ax (.inr (.inr (by rw [Ng,h3])))];simp only [Aa];rw [a];rfl
  have e3:((s.Vols.length:Int)==3)=false:=by simp;omega
  rw [e3,Ay (by
   rintro(hh|hh|hh)
   ·exact g1 hh
   ·exact hh j
   rw [Ng]at hh;exact h3 hh)]
  simp only [Aa,Ab];rw [a];simp only [Aa];have k1:=R6 (body:=λq:List Vol×Int=>GW s r q.1 q.2) s.Vols (λv=>decide (v.Id<r.Vol)) [] (by simp;omega)
   (λi v c hv ho=>by
    have hi:=(Ah.1 hv).1;simp only [GW,AC,Ad hi,Ae,A9,hv,Aa];rw [ad1 (by omega)]
    cases decide (v.Id<r.Vol)with
    |true=>simp only [Ae];rw [Cn (by simp;omega)];rfl
    |false=>rfl)
   (λc=>by simp only [GW,AC,Ao,Aq,Ab])
  rw [A6]at k1;rw [k1];simp only [Aa];have l:=Z6 s.Vols r.Vol;rw [Cn (by simp;omega)];simp only [Aa];have k2:=R6 (body:=λq:List Vol×Int=>GV s r q.1 q.2) s.Vols (λv=>decide (v.Id>r.Vol)) ((s.Vols.filter λv=>decide (v.Id<r.Vol))++ [Vol.mk r.Vol q]) (by simp;omega)
   (λi v c hv ho=>by
    have hi:=(Ah.1 hv).1;simp only [GV,AC,Ad hi,Ae,A9,hv,Aa];rw [ad1 (by omega)]
    cases decide (v.Id>r.Vol)with
    |true=>simp only [Ae];rw [Cn (by simp;omega)];rfl
    |false=>rfl)
   (λc=>by simp only [GV,AC,Ao,Aq,Ab])
  rw [k2];simp only [Aa];have f:((s.Vols.filter λv=>decide (v.Id<r.Vol))++ [Vol.mk r.Vol q]++s.Vols.filter λv=>decide (v.Id>r.Vol)).length<=3:=by simp only [Ag,A0,Bn];omega
  have g:∀x∈BB s,x∈(BB (Store.mk ((s.Vols.filter λv=>decide (v.Id<r.Vol))++ [Vol.mk r.Vol q]++s.Vols.filter λv=>decide (v.Id>r.Vol)) s.Arena s.Next)):=by
   intro x hx;obtain⟨v,hv,rfl⟩:=AJ.1 hx;refine AJ.2 ⟨v,?_,rfl⟩;have:=h2 v hv;simp only [Aj,AT,Aw];by_cases e:v.Id<r.Vol
   ·exact .inl (.inl ⟨hv,by simpa using e⟩)
   exact .inr ⟨hv,by simp;omega⟩
  have b:∀x∈(BB (Store.mk ((s.Vols.filter λv=>decide (v.Id<r.Vol))++ [Vol.mk r.Vol q]++s.Vols.filter λv=>decide (v.Id>r.Vol)) s.Arena s.Next)),x= -1\/x∈BB s:=by
   intro x hx;obtain⟨v,hv,rfl⟩:=AJ.1 hx;simp only [Aj,AT,Aw]at hv
   rcases hv with(hv|rfl)|hv
   ·exact .inr (AJ.2 ⟨v,hv.1,rfl⟩)
   ·exact g3
   exact .inr (AJ.2 ⟨v,hv.1,rfl⟩)
  refine⟨_,rfl,⟨⟨f,h.ar,h.nx,?_,WW h.asc (Vol.mk r.Vol q),?_,?_,h.few⟩,?_⟩,?_,rfl⟩
  ·intro v hv;simp only [Aj,AT,Aw]at hv
   rcases hv with(hv|rfl)|hv
   ·exact h.ids v hv.1
   ·show 1<=r.Vol/\r.Vol<=9;omega
   exact h.ids v hv.1
  ·intro x hx
   rcases b x hx with e|e
   ·rw [e];rfl
   exact h.root x e
  ·intro x hx
   rcases b x hx with e|e
   ·intro y hy;rw [e]at hy;change y∈EQ s.Arena.Knots (-1)at hy;rw [fT]at hy;have:=Cr hy;have:=h.nx;show y<s.Next;omega
   exact h.lt x e
  ·intro i hi;exact uE g (h.used i hi)
  rw [<-g4];unfold kV BJ;simp only [Cq,Cb,mK,List.filter_map];rfl
 rw [h1];simp only [Aa];rw [Ad (by omega),Ae];have hg:=Ow h.asc (A3 h2);rw [h3]at hg;rw [Ax (.inr (.inl (by rw [hg];simp)))];simp only [Aa,Ae];rw [a];rfl
theorem So {l:List Vol} (h:(l.map Vol.Id).Pairwise (·<·)) (hv:l[k]?=some v):l.take k++l.drop (k+1)=l.filter λw=>w.Id !=v.Id:=by
 rw [JP]at h;have hk:=(Ah.1 hv).1;have e:l=l.take k++v::l.drop (k+1):=by
  have h2:=Bj hk;rw [(Ah.1 hv).2]at h2;rw [<-h2,Bt]
 rw [e,B4]at h;obtain⟨h1,h2,h3⟩:=h;rw [Db]at h2
 conv=>rhs;rw [e]
 rw [AS,Cj (by simp)];congr 1
 ·symm;rw [Gu];intro w hw;have:=h3 w hw v (by simp);simp;omega
 symm;rw [Gu];intro w hw;have:=h2.1 w hw;simp;omega
theorem uP (h:Dn s) (id:Int):StoreR (Store.mk (s.Vols.filter λw=>w.Id !=id) s.Arena s.Next):=by
 have hl:=h.len;refine⟨?_,h.ar,h.nx,λv hv=>h.ids v (AT.1 hv).1,?_,?_,?_,h.few⟩
 ·have:=CM (λw:Vol=>w.Id !=id) s.Vols;show(s.Vols.filter λw=>w.Id !=id).length<=3;omega
 ·have:=h.asc;rw [JP]at this⊢;exact this.filter _
 ·intro x hx;obtain⟨w,hw,rfl⟩:=AJ.1 hx;exact h.root _ (AJ.2 ⟨w,(AT.1 hw).1,rfl⟩)
 intro x hx;obtain⟨w,hw,rfl⟩:=AJ.1 hx;exact h.lt _ (AJ.2 ⟨w,(AT.1 hw).1,rfl⟩)
theorem zO {t:Nat} (h:Dn s) (h2:s.Vols[k]?=some v) (ht:t<16) (hn:0<=n) (g:n+1<=1000000000):StoreR (Store.mk (s.Vols.set k (Vol.mk v.Id ((s.Arena.Knots.length:Int)+1))) (Arena.mk (Jc s.Arena.Knots v.Root t n)) (max s.Next (n+1))):=by
 have hl:=h.len;have hm:=A3 h2;have d:=(Ah.1 h2).1;have a:=h.root _ (AJ.2 ⟨v,hm,rfl⟩);have i:=h.small
 have b:∀w∈s.Vols.set k (Vol.mk v.Id ((s.Arena.Knots.length:Int)+1)),w∈s.Vols\/w=Vol.mk v.Id ((s.Arena.Knots.length:Int)+1):=λw hw=>Ck hw
 refine⟨by simpa using hl,AAs h.ar a ht hn,?_,?_,?_,?_,?_,?_⟩
 ·have:=h.nx;show 1<=max s.Next (n+1)/\max s.Next (n+1)<=1000000000;omega
 ·intro w hw
  rcases b w hw with hw|rfl
  ·exact h.ids w hw
  exact h.ids v hm
 ·have:(s.Vols.set k (Vol.mk v.Id ((s.Arena.Knots.length:Int)+1))).map Vol.Id=s.Vols.map Vol.Id:=by
   rw [List.map_set];show(s.Vols.map Vol.Id).set k v.Id=_;apply Co;intro j;rw [BI];split
   ·rename_i e;subst e;rw [Be,Ax d,AQ,h2];rfl
   rfl
  rw [this];exact h.asc
 ·intro x hx;obtain⟨w,hw,rfl⟩:=AJ.1 hx
  rcases b w hw with hw|rfl
  ·exact sD (h.root _ (AJ.2 ⟨w,hw,rfl⟩))
  exact pD
 ·intro x hx y hy;obtain⟨w,hw,rfl⟩:=AJ.1 hx;show y<max s.Next (n+1)
  rcases b w hw with hw|rfl
  ·have f:=h.root _ (AJ.2 ⟨w,hw,rfl⟩);have c:y∈EQ s.Arena.Knots w.Root:=by rw [<-nD (X:=[BL.mk true (N3 s.Arena.Knots v.Root t n),BL.mk false (RU s.Arena.Knots v.Root t)]) h.ar f];exact hy
   have:=h.lt _ (AJ.2 ⟨w,hw,rfl⟩) y c;omega
  have c:y∈(EQ s.Arena.Knots v.Root).set t n:=by rw [<-nM (s:=t) (n:=n) h.ar a (by omega)];exact hy
  rcases Ck c with c|rfl
  ·have:=h.lt _ (AJ.2 ⟨v,hm,rfl⟩) y c;omega
  omega
 show(Jc s.Arena.Knots v.Root t n).length<=1000;unfold Jc;simp;omega
theorem Ya (h:Dn s) (r:De):Lb s r (Ru s r):=by
 have hl:=h.len;have d:=Ll h.ar (by have:=h.few;omega);have a:=FZ s d (by omega);unfold Ru;rw [Qr h,Mu];simp only [Aa,Ai,Ab]
 cases hb:Gx r with
 |false=>
  simp only [AG,Ae];rw [a];unfold Lb D7;rw [hb];rfl
 |true=>
  simp only [Ai,Ab];have hr:=hb;unfold Gx at hr
  cases k1:(r.Kind==1)with
  |true=>
   have e1:r.Kind=1:=by simpa using k1
   rw [e1]at hr;simp at hr;unfold Lb D7;rw [hb,e1];simp only [Jk,Gp,BW,Ae];have:(bif(r.Arg==0)then(some 1)else(some r.Arg):Option (Int))=some (if r.Arg=0 then 1 else r.Arg):=by
    by_cases e:r.Arg=0
    ·rw [Ax e,e];rfl
    rw [Ay e,show(r.Arg==0)=false by simpa using e];rfl
   rw [this];refine⟨_,rfl,⟨⟨by simp,rfl,?_,by simp,by simp,by simp [BB],by simp [BB],by simp⟩,by simp⟩,rfl,rfl⟩;show 1<=(if r.Arg=0 then 1 else r.Arg)/\(if r.Arg=0 then 1 else r.Arg)<=1000000000;split<;>omega
  |false=>
   simp only [Ab];have n1:r.Kind≠1:=by simpa using k1
   rw [k1]at hr
   cases k2:(r.Kind==2)with
   |true=>
    simp only [Ae];have:=qG h hb (by simpa using k2);have e:((FX s r).bind λv4=>some (v4.1,v4.2))=FX s r:=by cases FX s r<;>rfl
    rw [e];exact this
   |false=>
    simp only [Ab];have n2:r.Kind≠2:=by simpa using k2
    rw [k2]at hr;have hv:1<=r.Vol/\r.Vol<=9:=by simp at hr;omega
    unfold Lb D7;rw [hb];simp only [Jk,Gp,Ay n1,Ay n2]
    rcases Fp s (by omega) r.Vol with⟨h1,h2⟩|⟨k,v,h1,h2,h3,_⟩
    ·rw [h1];simp only [Aa];rw [Ad (by omega),Ae,Ax (.inl (KM.1 h2))];simp only [Aa,Ae];rw [a];rfl
    rw [h1];simp only [Aa];rw [Af (by omega),Ab];simp only [Aa];have hm:=A3 h2;have g:=(Ah.1 h2).1;have hg:=Ow h.asc hm;rw [h3]at hg
    cases hc:(r.Chunk==1000000000)with
    |true=>
     simp only [Ae];rw [Ax (.inr (by simpa using hc)),a];rfl
    |false=>
     simp only [Ab];have i:r.Chunk≠1000000000:=by simpa using hc
     rw [Ay (by
      rintro(hh|hh)
      ·rw [hg]at hh;cases hh
      exact i hh),a]
     simp only [Aa]
     cases k3:(r.Kind==3)with
     |true=>
      have e3:r.Kind=3:=by simpa using k3
      rw [Ax e3];simp only [Ae];rw [BG,ad1 (by omega)];have d1:dr s.Vols 0 (k:Int)=some (s.Vols.take k):=by
       unfold dr;rw [Ax ⟨by omega,by omega,by omega⟩];simp
      have d2:dr s.Vols ((k+1:Nat):Int) (s.Vols.length:Int)=some (s.Vols.drop (k+1)):=by
       unfold dr;rw [Ax ⟨by omega,by omega,by omega⟩,Ba,Ba,AO (by simp)]
      rw [d1,d2];simp only [Aa];rw [KS (by simp;omega)];simp only [Aa];rw [Cn (by simp;omega),So h.asc h2,h3];simp only [Aa];have hR:=uP h r.Vol;rw [IW hR];refine⟨_,rfl,mZ hR,?_,rfl⟩;rw [Zy hR];exact lS s (λid=>id !=r.Vol) _ rfl rfl
     |false=>
      have n3:r.Kind≠3:=by simpa using k3
      rw [Ay n3];simp only [Ab];rw [k3]at hr;have ha:0<=r.Arg/\r.Arg<16/\0<=r.Chunk/\r.Chunk<=1000000000:=by
       cases k4:(r.Kind==4)with
       |true=>rw [k4]at hr;simp at hr;omega
       |false=>rw [k4]at hr;simp at hr;omega
      obtain⟨t,ht⟩:∃t:Nat,r.Arg=(t:Int):=⟨_,(Bm ha.1).symm⟩;rw [A9,h2];simp only [Aa];have c:=h.root _ (AJ.2 ⟨v,hm,rfl⟩);rw [ht,Xh _ (by have:=h.few;omega) h.ar c (by omega) ha.2.2.1];simp only [Aa];rw [Ep];have o:=h.small;have hR:=zO h h2 (show t<16 by omega) ha.2.2.1 (show r.Chunk+1<=1000000000 by omega);have f:BJ (Store.mk (s.Vols.set k (Vol.mk v.Id ((s.Arena.Knots.length:Int)+1))) (Arena.mk (Jc s.Arena.Knots v.Root t r.Chunk)) (max s.Next (r.Chunk+1)))=jT (BJ s) r.Vol t r.Chunk:=by
       unfold BJ jT;simp only [Fy];apply Co;intro j;rw [AQ,AQ,BI];by_cases e:k=j
       ·subst e;rw [Ax rfl,Ax g,h2];simp only [B9,Function.comp];rw [Ax h3,nM h.ar c (by omega)]
       rw [Ay e]
       cases hj:s.Vols[j]? with
       |none=>rfl
       |some w=>
        have l:=A3 hj;have m:w.Id≠r.Vol:=by
         intro e2;have gi:(s.Vols.map Vol.Id)[k]?=some v.Id:=by rw [AQ,h2];rfl
         have gj:(s.Vols.map Vol.Id)[j]?=some w.Id:=by rw [AQ,hj];rfl
         rcases SX k j with q|q|q
         ·have:=Ok h.asc q gi gj;omega
         ·exact e q
         have:=Ok h.asc q gj gi;omega
        simp only [B9,Function.comp];rw [Ay m];have:=nD (X:=[BL.mk true (N3 s.Arena.Knots v.Root t r.Chunk),BL.mk false (RU s.Arena.Knots v.Root t)]) h.ar (h.root _ (AJ.2 ⟨w,l,rfl⟩));unfold Jc;rw [this]
      have n:∀b:Bool,b=decide (r.Chunk>=s.Next)->(bif b then((Hf (Store.mk (s.Vols.set k (Vol.mk v.Id ((s.Arena.Knots.length:Int)+1))) (Arena.mk (Jc s.Arena.Knots v.Root t r.Chunk)) (ad r.Chunk 1))).bind λv11=>some (v11,true))else((Hf (Store.mk (s.Vols.set k (Vol.mk v.Id ((s.Arena.Knots.length:Int)+1))) (Arena.mk (Jc s.Arena.Knots v.Root t r.Chunk)) s.Next)).bind λv12=>some (v12,true)))=(Hf (Store.mk (s.Vols.set k (Vol.mk v.Id ((s.Arena.Knots.length:Int)+1))) (Arena.mk (Jc s.Arena.Knots v.Root t r.Chunk)) (max s.Next (r.Chunk+1)))).bind λv=>some (v,true):=by
       intro b hb;have:=h.nx;by_cases e:r.Chunk>=s.Next
       ·rw [hb,Ad e,Ae,CA (by omega) (by omega),show max s.Next (r.Chunk+1)=r.Chunk+1 by omega]
       rw [hb,Af e,Ab,show max s.Next (r.Chunk+1)=s.Next by omega]
      rw [n _ rfl,IW hR];refine⟨_,rfl,mZ hR,?_,rfl⟩;rw [Zy hR,f,Ba]
theorem tT (hK:Da K=true) (hR:∀r∈R,DG K r=true) (hi:i<K.length) (hu:C7 K R i=true) (hl:(BD K (i:Int)).Leaf=true) (hn:n∈(BD K (i:Int)).Kids):∃r∈R,n∈EQ K r:=by
 unfold C7 at hu;obtain⟨r,hr,h⟩:=CW.1 hu;unfold MZ at h;rw [Al,A5,C3,A5,CW]at h;obtain⟨h0,h⟩:=h
 rcases Ch (hR r hr)with e|⟨_,h1,h2⟩
 ·omega
 rcases h with h|⟨x,hx,he⟩
 ·rw [h,hl]at h2;cases h2
 have a:x=(i:Int):=by simpa using he
 obtain⟨h4,hk⟩:=Ft hK h0 h1;obtain⟨j,hj,b⟩:=AI hx;have c:Kt (BD K r) j=(i:Int):=by
  have:=(hk j (by omega)).1;rw [Ac hj,b]at this
  injection this with this
  rw [<-this,a]
 obtain⟨g4,gk⟩:=Ft hK (r:=(i:Int)) (by omega) (by omega);obtain⟨t,ht,d⟩:=AI hn;have f:Kt (BD K (i:Int)) t=n:=by
  have:=(gk t (by omega)).1;rw [Ac ht,d]at this
  injection this with this
  exact this.symm
 refine⟨r,hr,AJ.2 ⟨4*j+t,by simp;omega,?_⟩⟩;unfold PR;rw [Ay (by omega),show(4*j+t)/4=j by omega,show(4*j+t) %4=t by omega,c,Ay (by omega),f]
theorem gQ (h:Dn s):R9 s=some true:=by
 have hl:=h.len;have hf:=h.few;unfold R9;rw [BG,Af (by omega),Ab,P3 _ (by omega),h.ar,XF,Ad h.nx];simp only [Aa,Ai,Ab];obtain⟨b,h1,l,rfl,h3,h4⟩:=Bg (body:=λq:List Int×Int=>IJ s q.1 q.2) (λ(o:List Int) i=>(o,i)) s.Vols.length (λi o=>o.length<=5*i/\∀n:Nat,(n:Int)∈o↔C7 s.Arena.Knots ((BB s).take i) n=true) (λb=>∃l,b= .inl l/\l.length<=5000/\∀i:Nat,(i:Int)∈l↔C7 s.Arena.Knots (BB s) i=true)
  (λo i hi ho=>by
   obtain⟨o1,o2⟩:=ho;have hx:=Ac hi;have hm:s.Vols[i]∈s.Vols:=AE hi;have a:s.Vols[i].Root∈BB s:=AJ.2 ⟨_,hm,rfl⟩;have hr:=h.root _ a;have e:(BB s)[i]?=some s.Vols[i].Root:=by unfold BB;rw [AQ,hx];rfl
   obtain⟨m,m1,m2,m3⟩:=TS s.Arena (by omega) h.ar hr;simp only [IJ,AC,Ad hi,Ae,A9,hx,Aa];rw [XF,Ad (h.ids _ hm),f9 (by omega) hr];simp only [Aa,Ai,Ab];have hj:(bif(decide ((i:Int)>0))then((gi s.Vols (sb (i:Int) 1)).bind λx2=>bif(decide (x2.Id>=s.Vols[i].Id))then(some true)else(some false))else(some false):Option Bool)=some false:=by
    by_cases h0:i=0
    ·rw [Af (by omega:¬(i:Int)>0),Ab]
    rw [Ad (by omega:(i:Int)>0),Ae,Cw (by omega) (by omega),show(i:Int)-1=((i-1:Nat):Int) by omega,A9,Ac (by omega)];simp only [Aa];have:=Ok h.asc (show i-1<i by omega) (x:=s.Vols[i-1].Id) (y:=s.Vols[i].Id) (by rw [AQ,Ac (by omega)];rfl) (by rw [AQ,Ac (by omega)];rfl);rw [Af (by omega),Ab]
   rw [hj];simp only [Aa,Ab];rw [m1];simp only [Aa];rw [Cn (by omega),ad1 (by omega)];refine .inl ⟨o++m,rfl,by simp;omega,λn=>?_⟩;rw [Aj,o2,m3];unfold C7
   rw [Tl e,C3])
  (λo ho=>⟨_,by simp only [IJ,AC,Ao,Aq,Ab],o,rfl,by have:=ho.1;omega,by
   have:=ho.2;rw [AO (by unfold BB;rw [Be];exact A4 _)]at this
   exact this⟩) (s:=[]) ⟨by simp,λn=>by simp [C7]⟩
 have h1':Au (λq:List Int×Int=>IJ s q.1 q.2) ([],0)=some (.inl l):=h1;rw [h1'];simp only [Aa,By];obtain⟨c,q1,q2⟩:=Bg (body:=λq:Int=>II s l q) (λ(_:Unit) i=>i) s.Arena.Knots.length (λ_ _=>True) (λc=>c= .inl ())
  (λ_ i hi _=>by
   have hu:=h.used i hi;simp only [II,AC,Ad hi,Ae];rw [HL (by omega) (by omega),W2 l _ (by omega),List.contains_iff_mem.2 ((h4 i).2 hu)];simp only [Aa,Ai,Ab];obtain⟨d,e1,e2⟩:=Bg (body:=λq:Int=>IH s (BD s.Arena.Knots (i:Int)) q) (λ(_:Unit) i=>i) (BD s.Arena.Knots (i:Int)).Kids.length (λ_ _=>True) (λc=>c= .inl ())
    (λ_ k hk _=>by
     have hx:=Ac hk;have h44:=(Ft h.ar (r:=(i:Int)) (by omega) (by omega)).1;simp only [IH,AC,Ad hk,Ae,A9,hx,Aa];rw [ad1 (by omega)]
     cases f:(BD s.Arena.Knots (i:Int)).Leaf with
     |false=>exact .inl ⟨(),rfl,trivial⟩
     |true=>
      obtain⟨r,r1,r2⟩:=tT h.ar h.root hi hu f (AE hk);have:=h.lt r r1 _ r2;rw [Af (by omega)]
      exact .inl ⟨(),rfl,trivial⟩)
    (λ_ _=>⟨_,by simp only [IH,AC,Ao,Aq,Ab],rfl⟩) (s:=()) trivial
   have e1':Au (λq:Int=>IH s (BD s.Arena.Knots (i:Int)) q) 0=some d:=e1;rw [e1',e2];simp only [Aa,By];rw [ad1 (by omega)]
   exact .inl ⟨(),rfl,trivial⟩)
  (λ_ _=>⟨_,by simp only [II,AC,Ao,Aq,Ab],rfl⟩) (s:=()) trivial
 have q1':Au (λq:Int=>II s l q) 0=some c:=q1;rw [q1',q2];rfl
theorem WA (k:IntKind) (n:Nat) (h:n<=12) (hk:k= .u8\/k= .u64):k.wrap (n:Int)=(n:Int):=by
 have:n=0\/n=1\/n=2\/n=3\/n=4\/n=5\/n=6\/n=7\/n=8\/n=9\/n=10\/n=11\/n=12:=by omega
 rcases hk with rfl|rfl<;>rcases this with rfl|rfl|rfl|rfl|rfl|rfl|rfl|rfl|rfl|rfl|rfl|rfl|rfl<;>rfl
set_option maxRecDepth 20000 in
theorem Zf (n:Nat) (h:n<=12):∃v,UO (IntKind.u64.wrap (n:Int))=some v:=by
 rw [WA _ n h (.inr rfl)];unfold UO X8;generalize hT:(bs _)=T;have a:13<=(L T).length:=by rw [<-hT,DV];decide
 rw [Af (by omega:¬(n:Int)>=4294967296),Ab];simp only [Aa];rw [Af (by omega:¬(n:Int)>=65536),Ab];simp only [Aa];rw [Af (by omega:¬(n:Int)>=256),Ab];simp only [Aa];rw [WA _ n h (.inl rfl),EU (i:=n) _ (by omega)];exact⟨_,rfl⟩
theorem oY (a:γ->Int) (l:List γ) (hl:l.length<=12):∃r,OI (Nj a) l=some r/\Sf a r/\Cg a l r:=by
 obtain⟨v,hv⟩:=Zf l.length hl;obtain⟨r,h1,h2,h3⟩:=IC a [] l [] (by simp;omega);refine⟨r,?_,h2,h3⟩;unfold OI;rw [BG,hv];simp only [Aa];unfold EK;rw [A7];simp only [FW];rw [Cw (by omega) (by omega),Ad (by omega:(l.length:Int)-0<=12),Ae];have h1':BS (Nj a) l 0 (l.length:Int)=some r:=by simpa using h1
 rw [h1'];rfl
def asc (l:List Int):Prop:=l.Pairwise λx y=>x<y
theorem W7:∀{a b:List Int},asc a->asc b->(∀x,x∈a↔x∈b)->a=b
 |[],[],_,_,_=>rfl
 |[],y::b,_,_,h=>by have:=(h y).2 CI;cases this
 |x::a,[],_,_,h=>by have:=(h x).1 CI;cases this
 |x::a,y::b,ha,hb,h=>by
  obtain⟨a1,a2⟩:=Db.1 ha;obtain⟨b1,b2⟩:=Db.1 hb;have c:x=y:=by
   have h1:=(h x).1 CI;have h2:=(h y).2 CI
   rcases BA.1 h1 with h1|h1
   ·exact h1
   rcases BA.1 h2 with h2|h2
   ·exact h2.symm
   have:=a1 y h2;have:=b1 x h1;omega
  subst c;congr 1
  refine W7 a2 b2 λz=>⟨λhz=>?_,λhz=>?_⟩
  ·rcases BA.1 ((h z).1 (Dq _ hz))with e|e
   ·have:=a1 z hz;omega
   exact e
  rcases BA.1 ((h z).2 (Dq _ hz))with e|e
  ·have:=b1 z hz;omega
  exact e
def uC (l:List Int) (x:Int):List Int:=l.filter (λy=>decide (y<x))++(if x>0 then [x]else [])++l.filter (λy=>decide (y>x))
theorem RI {body:List Int×Int->Option ((List Int×Int)⊕(List Int))} (l:List Int) (p:Int->Bool) (o:List Int) (hM:l.length+o.length<=1073741824) (hb:∀(u:List Int) (i:Nat) x,l[i]?=some x->u.length<=o.length+i->body (u,(i:Int))=(bif p x then((ap 8 u [x]).bind λc=>some (.inl (c,ad (i:Int) 1)))else some (.inl (u,ad (i:Int) 1)))) (he:∀u,body (u,(l.length:Int))=some (.inr u)):Au body (o,0)=some (o++l.filter p):=by
 obtain⟨b,h1,rfl⟩:=Bg (body:=body) (λ(u:List Int) i=>(u,i)) l.length (λi u=>u=o++(l.take i).filter p) (λu=>u=o++l.filter p)
  (λu i hi hu=>by
   have hg:l[i]?=some l[i]:=Ac hi;have a:u.length<=o.length+i:=by
    rw [hu,Ag];have:=CM p (l.take i);simp only [AH]at this;omega
   refine .inl ?_;rw [hb u i _ hg a];have et:l.take (i+1)=l.take i++ [l[i]]:=by rw [Av hi]
   cases hp:p l[i]with
   |true=>
    simp only [Ae];rw [Cn (by simp only [Ak];omega),ad1 (by omega)];refine⟨_,rfl,?_⟩;rw [et,AS,hu,Cc (by simpa using hp),Gl,Ap]
   |false=>
    simp only [Ab];rw [ad1 (by omega)];refine⟨_,rfl,?_⟩
    rw [et,AS,hu,Cj (by simp [hp]),Gl,Az])
  (λu hu=>⟨u,he u,by rw [hu,AN]⟩) (s:=o) (by simp)
 exact h1
theorem AAG (l:List Int) (x:Int) (hl:l.length<=33554432):Nt l x=some (uC l x):=by
 unfold Nt
 rw [RI (body:=λs:List Int×Int=>HX l x s.1 s.2) l (λy=>decide (y<x)) [] (by simp only [Bn];omega)
  (λu i y hy _=>by
   have hi:=(Ah.1 hy).1
   simp only [HX,AC,Ad hi,Ae,A9,hy,Aa])
  (λu=>by simp only [HX,AC,Ao,Aq,Ab])]
 simp only [Aa,A6];have h1:=CM (λy=>decide (y<x)) l
 have step:∀o:List Int,o.length<=33554433->Au (λs:List Int×Int=>G8 l x s.1 s.2) (o,0)=some (o++l.filter (λy=>decide (y>x))):=λo ho=>
  RI (body:=λs:List Int×Int=>G8 l x s.1 s.2) l (λy=>decide (y>x)) o (by omega)
   (λu i y hy _=>by
    have hi:=(Ah.1 hy).1
    simp only [G8,AC,Ad hi,Ae,A9,hy,Aa])
   (λu=>by simp only [G8,AC,Ao,Aq,Ab])
 unfold uC;by_cases hx:x>0
 ·rw [Ad hx,Ae,Cn (by simp only [Ak];omega),Ax hx];simp only [Aa];rw [step _ (by simp only [Ag,Ak];omega)];rfl
 rw [Af hx,Ab,Ay hx];simp only [Aa];rw [step _ (by omega),Az];rfl
theorem oC {y:Int} (hl:∀z∈l,0<z):y∈uC l x↔y∈l\/(y=x/\0<x):=by
 unfold uC;simp only [Aj,AT,A5];constructor
 ·rintro((⟨h1,_⟩|h1)|⟨h1,_⟩)
  ·exact .inl h1
  ·split at h1
   ·rename_i hx;rw [Aw]at h1;exact .inr ⟨h1,hx⟩
   cases h1
  exact .inl h1
 rintro(h1|⟨rfl,h2⟩)
 ·rcases Int.lt_trichotomy y x with h|h|h
  ·exact .inl (.inl ⟨h1,h⟩)
  ·subst h;have:=hl y h1;exact .inl (.inr (by rw [Ax this];exact Aw.2 rfl))
  exact .inr ⟨h1,h⟩
 exact .inl (.inr (by rw [Ax h2];exact Aw.2 rfl))
theorem oD (h:asc l):asc (uC l x):=by
 unfold uC asc;rw [B4,B4];refine⟨⟨List.Pairwise.filter _ h,?_,?_⟩,List.Pairwise.filter _ h,?_⟩
 ·split<;>simp
 ·intro a ha b hb;split at hb
  ·rw [Aw]at hb;subst hb;simpa using(AT.1 ha).2
  cases hb
 intro a ha b hb;have c:x<b:=by simpa using(AT.1 hb).2
 rcases Aj.1 ha with ha|ha
 ·have:a<x:=by simpa using(AT.1 ha).2
  omega
 split at ha
 ·rw [Aw]at ha;omega
 cases ha
theorem XE (l:List Int) (x:Int) (h:asc l):(uC l x).length<=l.length+1:=by
 have hd:(l.filter (λy=>decide (y<x))).length+(l.filter (λy=>decide (y>x))).length<=l.length:=by
  have e:∀l:List Int,(l.filter (λy=>decide (y<x))).length+(l.filter (λy=>decide (y>x))).length<=l.length:=by
   intro l
   induction l with
   |nil=>simp
   |cons z l ih=>
    simp only [List.filter_cons,A0];by_cases h1:z<x
    ·rw [Ax (by simpa using h1),Ay (by simp;omega)];simp only [A0];omega
    by_cases h2:z>x
    ·rw [Ay (by simpa using h1),Ax (by simpa using h2)];simp only [A0];omega
    rw [Ay (by simpa using h1),Ay (by simpa using h2)];omega
  exact e l
 unfold uC;simp only [Ag];split<;>simp only [Ak,Bn]<;>omega
noncomputable def cR (s:Store) (n:Nat):List Int:=((s.Vols.take n).map λv=>(Jm s.Arena v.Root).getD []).flatten
theorem pM (s:Store) (n:Nat) (h:n<s.Vols.length):cR s (n+1)=cR s n++(Jm s.Arena s.Vols[n].Root).getD []:=by
 unfold cR;rw [Av h,Cq,List.flatten_append];simp
def kT (s:Store) (n:Nat) (l:List Int):Prop:=asc l/\∀x,x∈l↔x∈cR s n/\0<x
theorem fO (s:Store) (hv:s.Vols.length<=1048576) (ha:lL s.Arena):∃l,Lz s=some l/\kT s s.Vols.length l/\l.length<=16777216:=by
 unfold Lz;obtain⟨l,h1,h2,h3⟩:=Bg (body:=λq:List Int×Int=>Lx s q.1 q.2) (λ(o:List Int) i=>(o,i)) s.Vols.length (λi o=>kT s i o/\o.length<=16*i) (λo=>kT s s.Vols.length o/\o.length<=16777216)
  (λo i hi ho=>by
   have hg:s.Vols[i]?=some s.Vols[i]:=Ac hi;obtain⟨⟨d,e⟩,g⟩:=ho;obtain⟨a,a1,_,a2⟩:=vT s.Arena ha s.Vols[i].Root;refine .inl ?_;simp only [Lx,AC,Ad hi,Ae,A9,hg,Aa,a1];obtain⟨u,q1,⟨q2,q3⟩,q4⟩:=Bg (body:=λq:List Int×Int=>Lw a q.1 q.2) (λ(u:List Int) k=>(u,k)) a.length (λk u=>(asc u/\∀x,x∈u↔(x∈cR s i++a.take k)/\0<x)/\u.length<=o.length+k) (λu=>(asc u/\∀x,x∈u↔(x∈cR s i++a)/\0<x)/\u.length<=o.length+a.length)
    (λu k hk hu=>by
     have f:a[k]?=some a[k]:=Ac hk;obtain⟨⟨b,c⟩,j⟩:=hu;refine .inl ?_;simp only [Lw,AC,Ad hk,Ae,A9,f,Aa];rw [AAG u a[k] (by omega),ad1 (by omega)];refine⟨_,rfl,⟨oD b,λx=>?_⟩,by have:=XE u a[k] b;omega⟩;rw [oC (λz hz=>((c z).1 hz).2),c,Av hk];simp only [Aj,Aw];constructor
     ·rintro(⟨h,h0⟩|⟨rfl,h0⟩)
      ·exact⟨h.imp id .inl,h0⟩
      exact⟨.inr (.inr rfl),h0⟩
     rintro⟨h|h|h,h0⟩
     ·exact .inl ⟨.inl h,h0⟩
     ·exact .inl ⟨.inr h,h0⟩
     exact .inr ⟨h,by omega⟩)
    (λu hu=>⟨u,by simp only [Lw,AC,Ao,Aq,Ab],by rw [AN]at hu;exact hu⟩) (s:=o) ⟨⟨d,λx=>by rw [e];simp⟩,by omega⟩
   rw [q1];simp only [Aa];rw [ad1 (by omega)];refine⟨u,rfl,⟨q2,λx=>?_⟩,by omega⟩
   rw [q3,pM s i hi,a1,B6])
  (λo ho=>⟨o,by simp only [Lx,AC,Ao,Aq,Ab],ho.1,by omega⟩) (s:=[]) ⟨⟨List.Pairwise.nil,λx=>by simp [cR]⟩,by simp⟩
 rw [h1];exact⟨l,rfl,h2,h3⟩
def uniq (l:List Int) (n:Nat):List Int:=((List.range n).filter λi=>i==0||l[i-1]?.getD 0 !=l[i]?.getD 0).map λi=>l[i]?.getD 0
theorem cX (x a b:Int):HF x a b=some (decide (a<=x/\x<=b)):=by
 unfold HF;by_cases h:x>=a
 ·rw [Ad h,Ae];congr 1;rw [DR];simp;omega
 rw [Af h,Ab,Af (by omega)]
theorem LB (b:Bool) (x y:α):(bif b then some x else some y)=some (bif b then x else y):=by cases b<;>rfl
def cn (n:Nat) (p:Nat->Bool):Nat:=((List.range n).filter p).length
theorem oN (n:Nat) (p:Nat->Bool):cn (n+1) p=cn n p+(bif p n then 1 else 0):=by
 unfold cn;rw [Er,AS,Ag]
 cases h:p n with
 |true=>rw [Cc (by simpa using h)];simp
 |false=>rw [Cj (by simp [h])];simp
theorem uT (n:Nat) (p:Nat->Bool):cn n p<=n:=by
 have:=CM p (List.range n);rw [Ca]at this;exact this
theorem aL {body:Int×Int->Option ((Int×Int)⊕Int)} (n:Nat) (p:Nat->Bool) (n0:Int) (h0:0<=n0) (hM:(n:Int)+n0<=1152921504606846976) (hb:∀(m:Int) (i:Nat),i<n->body (m,(i:Int))=(bif p i then some (.inl (ad m 1,ad (i:Int) 1))else some (.inl (m,ad (i:Int) 1)))) (he:∀m,body (m,(n:Int))=some (.inr m)):Au body (n0,0)=some (n0+(cn n p:Int)):=by
 obtain⟨b,h1,rfl⟩:=Bg (body:=body) (λ(m:Int) i=>(m,i)) n (λi m=>m=n0+(cn i p:Int)) (λm=>m=n0+(cn n p:Int))
  (λm i hi hm=>by
   have hc:=uT i p;refine .inl ?_;rw [hb m i hi]
   cases hp:p i with
   |true=>
    simp only [Ae];rw [CA (by omega) (by omega),ad1 (by omega)];refine⟨_,rfl,?_⟩;rw [oN,hp,hm];simp;omega
   |false=>
    simp only [Ab];rw [ad1 (by omega)];refine⟨_,rfl,?_⟩;rw [oN,hp,hm]
    simp)
  (λm hm=>⟨m,he m,hm⟩) (s:=n0) (by simp [cn])
 exact h1
theorem aD {body:List γ×Int->Option ((List γ×Int)⊕List γ)} (by_:Nat) (n:Nat) (p:Nat->Bool) (g:Nat->γ) (hM:n*by_<=140737488355328) (hn:n<=1152921504606846976) (hb:∀(u:List γ) (i:Nat),i<n->body (u,(i:Int))=(bif p i then((ap by_ u [g i]).bind λc=>some (.inl (c,ad (i:Int) 1)))else some (.inl (u,ad (i:Int) 1)))) (he:∀u,body (u,(n:Int))=some (.inr u)):Au body ([],0)=some (((List.range n).filter p).map g):=by
 obtain⟨b,h1,rfl⟩:=Bg (body:=body) (λ(u:List γ) i=>(u,i)) n (λi u=>u=((List.range i).filter p).map g) (λu=>u=((List.range n).filter p).map g)
  (λu i hi hu=>by
   have a:u.length<=i:=by
    rw [hu,Be];exact uT i p
   refine .inl ?_;rw [hb u i hi]
   cases hp:p i with
   |true=>
    simp only [Ae];have:(u.length+ [g i].length)*by_<=n*by_:=BC _ (by simp only [Ak];omega);rw [Cn (by omega),ad1 (by omega)];refine⟨_,rfl,?_⟩;rw [Er,AS,Cc (by simpa using hp),Gl,Cq,hu];rfl
   |false=>
    simp only [Ab];rw [ad1 (by omega)];refine⟨_,rfl,?_⟩
    rw [Er,AS,Cj (by simp [hp]),Gl,Az,hu])
  (λu hu=>⟨u,he u,hu⟩) (s:=[]) (by simp)
 exact h1
def eP (c:Int) (r:List A8):Nat->Option Nat
 |0=>none
 |n+1=>bif Mh c (r[n]?.getD dQ)then some n else eP c r n
theorem WM (c:Int) (r:List A8):∀n,n<=r.length->gF c r n (eP c r n)
 |0,_=>λk y hk=>by omega
 |n+1,hn=>by
  have hg:r[n]?=some r[n]:=Ac (by omega);have ih:=WM c r n (by omega);unfold eP;rw [hg,B6]
  cases hi:Mh c r[n]with
  |true=>exact⟨by omega,⟨_,hg,hi⟩,λk y h1 h2=>by omega⟩
  |false=>
   simp only [Ab]
   cases ht:eP c r n with
   |none=>
    rw [ht]at ih;intro k y hk hy;by_cases e:k=n
    ·subst e;rw [hg]at hy;injection hy with hy;rw [<-hy];exact hi
    exact ih k y (by omega) hy
   |some j=>
    rw [ht]at ih;obtain⟨h1,h2,h3⟩:=ih;refine⟨by omega,h2,λk y hj hk hy=>?_⟩;by_cases e:k=n
    ·subst e;rw [hg]at hy;injection hy with hy;rw [<-hy];exact hi
    exact h3 k y hj (by omega) hy
def FD (a:Int) (y:A8):Bool:=y.Page.Kind==2&&decide (y.Page.Tx>=a)
def nX (r:List A8) (a:List Bool) (c:Int):List Bool:=match eP c r r.length with
 |some i=>a.set i true
 |none=>a
theorem ZT {c:Int} (r:List A8) (d:List Int) (hr:r.length<=1048576) (hc:d[k]?=some c) (b:List Bool) (ho:b.length=r.length):∀n,n<=r.length->
  Au (λs:List Bool×Int=>Fo r d (k:Int) s.1 s.2) (b,(n:Int)-1)=some (match eP c r n with|some i=>b.set i true|none=>b)
 |0,_=>by
  rw [A7];simp only [Fo];rw [Af (by omega),Ab];rfl
 |n+1,hn=>by
  have hg:r[n]?=some r[n]:=Ac (by omega);have f:b[n]?=some b[n]:=Ac (by omega);have e:((n+1:Nat):Int)-1=(n:Int):=by omega
  have ht:eP c r (n+1)=bif Mh c r[n]then some n else eP c r n:=by
   rw [eP,hg,B6]
  have hj:(bif r[n].Page.Kind==1 then some (r[n].Page.Tx==c)else some false)=some (Mh c r[n]):=by
   unfold Mh;cases r[n].Page.Kind==1<;>rfl
  have hb:Fo r d (k:Int) b (n:Int)=some (bif Mh c r[n]then .inl (b.set n true,-2)else .inl (b,(n:Int)-1)):=by
   simp only [Fo];rw [Ad (by omega),Ae];simp only [A9,hg,f,hc,Aa];rw [hj,Aa,Cw (by omega) (by omega),Cw (a:=(n:Int)) (by omega) (by omega)];cases Mh c r[n]<;>simp only [Ae,Ab,Ep]<;>rfl
  rw [e,A7];simp only [hb,ht]
  cases Mh c r[n]with
  |true=>
   simp only [Ae];rw [A7];simp only [Fo];rw [Af (by omega),Ab]
  |false=>exact ZT r d hr hc b ho n (by omega)
theorem nW (r:List A8) (a:List Bool) (c:Int):(nX r a c).length=a.length:=by
 unfold nX;split<;>simp
theorem xV (r:List A8) (a:List Bool) (c:Int) (j:Nat):(nX r a c)[j]?=a[j]?.map (λb=>b||(eP c r r.length==some j)):=by
 unfold nX
 cases eP c r r.length with
 |none=>
  show a[j]?=a[j]?.map (λb=>b||((none:Option Nat)==some j));have e:(λb:Bool=>b||((none:Option Nat)==some j))=id:=by
   funext b;cases b<;>rfl
  rw [e,Option.map_id];rfl
 |some i=>
  simp only [BI];by_cases e:i=j
  ·subst e;simp only [BW];by_cases hi:i<a.length
   ·rw [Ax hi,Ac hi];simp
   rw [Ay hi,CN (by omega)];rfl
  rw [Ay e];have:(some i==some j)=false:=by simpa using e
  rw [this];have e2:(λb:Bool=>b||false)=id:=by
   funext b;cases b<;>rfl
  rw [e2,Option.map_id];rfl
theorem gB (r:List A8) (j:Nat):∀(a:List Int) (d:List Bool),(a.foldl (nX r) d)[j]?=d[j]?.map (λb=>b||a.any (λc=>eP c r r.length==some j))
 |[],d=>by simp
 |c::a,d=>by
  simp only [LV,List.any_cons];rw [gB r j a,xV];cases d[j]? <;>simp [Bool.or_assoc]
theorem g8 (r:List A8):∀(a:List Int) (b:List Bool),(a.foldl (nX r) b).length=b.length
 |[],b=>rfl
 |c::a,b=>by simp only [LV];rw [g8 r a,nW]
theorem Ww (r:List A8) (d:List Int) (a:Int) (hr:r.length<=1048576) (hl:d.length<=16777216):HW r d a=some (d.foldl (nX r) (r.map (FD a))):=by
 unfold HW;have g:mk 1 false (ln r)=some (List.replicate r.length false):=by
  unfold mk;rw [BG,Ax ⟨by omega,by omega,by omega⟩,Ba]
 rw [g,Aa];obtain⟨u,h1,rfl⟩:=Bg (body:=λs:List Bool×Int=>HV r a s.1 s.2) (λ(u:List Bool) i=>(u,i)) r.length (λi u=>u=(r.take i).map (FD a)++List.replicate (r.length-i) false) (λu=>u=r.map (FD a))
  (λu i hi hu=>by
   have hg:r[i]?=some r[i]:=Ac hi;have e:r.length-i=(r.length-(i+1))+1:=by omega
   have f:((r.take i).map (FD a)).length=i:=by rw [Be,AH];omega
   rw [e,Gt]at hu;have et:(r.take (i+1)).map (FD a)=(r.take i).map (FD a)++ [FD a r[i]]:=by rw [Av hi,Cq];rfl
   have h:gi u (i:Int)=some false:=by rw [hu];have:=dM ((r.take i).map (FD a)) false (List.replicate (r.length-(i+1)) false);rw [f]at this;exact this
   have j:∀b,si u (i:Int) b=(r.take i).map (FD a)++b::List.replicate (r.length-(i+1)) false:=λb=>by rw [hu];have:=bH ((r.take i).map (FD a)) false b (List.replicate (r.length-(i+1)) false);rw [f]at this;exact this
   refine .inl ⟨(r.take (i+1)).map (FD a)++List.replicate (r.length-(i+1)) false,?_,rfl⟩;simp only [HV,AC,Ad hi,Ae];rw [A9,hg,Aa,h];simp only [Aa,j];rw [ad1 (by omega),et]
   cases hk:r[i].Page.Kind==2 with
   |true=>simp [FD,hk]
   |false=>simp [FD,hk])
  (λu hu=>⟨u,by simp only [HV,AC,Ao,Aq,Ab],by rw [hu];simp⟩) (s:=List.replicate r.length false) (by simp)
 rw [h1,Aa];have h2:=Pm (body:=λs:List Bool×Int=>HU r d s.1 s.2) (λ(u:List Bool) i=>(u,i)) d (λu _ c=>(.inl (nX r u c):List Bool⊕List Bool)) (λu=>u) (λ_ u=>u.length=r.length)
  (λu i c hc hu=>by
   have hi:=(Ah.1 hc).1;refine⟨?_,λu' hu'=>by injection hu' with hu';rw [<-hu',nW,hu]⟩;simp only [HU,AC,Ad hi,Ae];rw [show ln r=(r.length:Int)from rfl,Cw (by omega) (by omega),ZT r d hr hc u hu r.length (A4 _),Aa,ad1 (by omega)]
   rfl)
  (λu hu=>by simp only [HU,AC,Ao,Aq,Ab]) (s:=r.map (FD a)) (by simp)
 rw [h2,Aa];have:∀(l:List Int) (i:Nat) (u:List Bool),Oy (λu _ c=>(.inl (nX r u c):List Bool⊕List Bool)) (λu=>u) l i u=l.foldl (nX r) u:=by
  intro l
  induction l with
  |nil=>intro i u;rfl
  |cons c l ih=>intro i u;simp only [Oy,LV];exact ih _ _
 rw [this]
def bk (r:List A8) (b:Int) (j:Nat):Bool:=(r[j]?.getD dQ).Block==b
theorem tB (r:List A8) (nd:List Bool) (b:Int) (hr:r.length<=1048576) (hn:nd.length=r.length):Rr r nd b=some ((cn r.length (λj=>nd[j]?.getD false&&bk r b j):Nat):Int):=by
 unfold Rr
 rw [aL (body:=λs:Int×Int=>M9 r nd b s.1 s.2) r.length (λj=>nd[j]?.getD false&&bk r b j) 0 (by omega) (by omega)
  (λm i hi=>by
   have hg:r[i]?=some r[i]:=Ac hi;have a:nd[i]?=some nd[i]:=Ac (by omega);simp only [M9,AC,Ad hi,Ae,A9,hg,a,Aa,B6,bk]
   cases nd[i]<;>simp)
  (λm=>by simp only [M9,AC,Ao,Aq,Ab])]
 simp
theorem uZ (x:Block) (hl:x.Leaves.length<=1048576):∃n:Int,L7 x=some n/\OJ x=some (!decide (n<ln x.Leaves)):=by
 have a:∀l:List Leaf,(cn l.length (λj=>(l[j]?.getD (Leaf.mk 1 (bs []))).Is==0)=l.length↔l.zipIdx.all (λz=>z.1.Is==0)=true):=by
  intro l;rw [GO];constructor
  ·intro h z hz;obtain⟨x,i⟩:=z;have b:=List.mem_zipIdx hz;simp only at b⊢;obtain⟨_,h2,h3⟩:=b;unfold cn at h;have h4:((List.range l.length).filter λj=>(l[j]?.getD (Leaf.mk 1 (bs []))).Is==0).length=(List.range l.length).length:=by rw [h,Ca]
   have h5:=List.length_filter_eq_length_iff.1 h4 i (GU.2 (by omega));rw [Ac (by omega),B6]at h5;rw [h3];simpa using h5
  intro h;unfold cn;have:((List.range l.length).filter λj=>(l[j]?.getD (Leaf.mk 1 (bs []))).Is==0).length=(List.range l.length).length:=by
   refine List.length_filter_eq_length_iff.2 λi hi=>?_
   have hi:=GU.1 hi;rw [Ac hi,B6];exact h (l[i],i) (List.mem_zipIdx_iff_getElem?.2 (Ac hi))
  rw [this,Ca]
 refine⟨(cn x.Leaves.length (λj=>(x.Leaves[j]?.getD (Leaf.mk 1 (bs []))).Is==0):Nat),?_,?_⟩
 ·unfold L7
  rw [aL (body:=λq:Int×Int=>GZ x q.1 q.2) x.Leaves.length (λj=>(x.Leaves[j]?.getD (Leaf.mk 1 (bs []))).Is==0) 0 (by omega) (by omega)
   (λm i hi=>by
    have hg:x.Leaves[i]?=some x.Leaves[i]:=Ac hi
    simp only [GZ,AC,Ad hi,Ae,A9,hg,Aa,B6])
   (λm=>by simp only [GZ,AC,Ao,Aq,Ab])]
  simp
 unfold OJ
 rw [XA (body:=λs:Int=>IV x s) x.Leaves (λ_ y=>y.Is==0) (.inr false) (.inl ()) (by omega)
  (λi y hy=>by
   have hi:=(Ah.1 hy).1;simp only [IV,AC,Ad hi,Ae,A9,hy,Aa];rw [ad1 (by omega)]
   cases hk:y.Is==0 with
   |true=>simp [bne,hk]
   |false=>simp [bne,hk])
  (by simp only [IV,AC,Ao,Aq,Ab])]
 have c:=uT x.Leaves.length (λj=>(x.Leaves[j]?.getD (Leaf.mk 1 (bs []))).Is==0)
 cases hb:x.Leaves.zipIdx.all (λz=>z.1.Is==0)with
 |true=>
  have:=(a x.Leaves).2 hb;rw [this,BG];simp
 |false=>
  have:¬cn x.Leaves.length (λj=>(x.Leaves[j]?.getD (Leaf.mk 1 (bs []))).Is==0)=x.Leaves.length:=λe=>by rw [(a x.Leaves).1 e]at hb;cases hb
  rw [BG,Ad (by omega)];rfl
theorem Kp:Il=EL:=rfl
theorem Ue:N9=Gb:=rfl
def Nf:List Leaf:=List.replicate 4 (Leaf.mk 0 (bs []))
theorem R3:mk 24 (Leaf.mk 0 (bs [])) 4=some Nf:=UN (n:=4) (by omega) (by omega)
theorem Yp:Lf=some Nf:=by unfold Lf;rw [R3];rfl
theorem Dp (f:Flash) (h:LN f):EL f=some f:=by
 unfold EL;have:=TN (body:=λs:Int×List Block=>JW f s.1 s.2) f.Blocks (λx=>x)
  (λi x a hx ho=>by
   have b:=(Ah.1 hx).1;have h1:=h.1;have h2:=h.2 x (A3 hx);unfold JW;simp only [AC,Ad b,Ae,A9,hx,Aa]
   rw [Cn (by simp only [Bn];omega),Aa,Cn (by simp only [Ak];omega),Aa,ad1 (by omega),A6])
  (λa=>by
   unfold JW
   simp only [AC,Ao,Aq,Ab])
 rw [this,Aa,List.map_id']
theorem Up (b:Block) (h:b.Leaves.length<=1048576):∃v,Gb b=some v/\0<=v/\(v<b.Leaves.length\/v=4):=by
 obtain⟨r,h1,h2⟩:=Bg (body:=λs:Int=>Ef b s) (λ(_:Unit) i=>i) b.Leaves.length (λ_ _=>True) (λr=>r= .inl ()\/∃k:Nat,k<b.Leaves.length/\r= .inr (k:Int))
  (λs i hi _=>by
   simp only [Ef,AC,Ad hi,Ae,A9,Ac hi,Aa];cases b.Leaves[i].Is==0
   ·exact .inl ⟨(),by rw [Ab,ad1 (by omega)],trivial⟩
   exact .inr ⟨_,rfl,.inr ⟨i,hi,rfl⟩⟩)
  (λs _=>⟨_,by simp only [Ef,AC,Ao,Aq,Ab],.inl rfl⟩) (s:=()) trivial
 unfold Gb;rw [h1,Aa]
 rcases h2 with rfl|⟨k,hk,rfl⟩
 ·exact⟨4,rfl,by omega,.inr rfl⟩
 exact⟨_,rfl,by omega,.inl (by omega)⟩
def WD (f:Flash):Prop:=f.Blocks.length<=1048576/\∀b∈f.Blocks,b.Leaves.length=4
theorem WD.cap (h:WD f):LN f:=⟨h.1,λb hb=>by rw [h.2 b hb];omega⟩
theorem eJ {i:Int} {b:Block} (h:WD f) (hb:b.Leaves.length=4):WD (Flash.mk (si f.Blocks i b)):=by
 refine⟨by unfold si;rw [EN];exact h.1,λc hc=>?_⟩
 rcases Ck hc with hc|rfl
 ·exact h.2 c hc
 exact hb
theorem mG (f:Flash) (b l:Int) (t:ByteArray) (h:LN f):∃g v,KF f b l t=some (g,v)/\RB f b l t=some (g,v)/\(v=false/\g=f\/v=true/\WD g):=by
 unfold KF RB;rw [Kp,Dp f h];unfold QL Ty;rw [P5,Ue,XZ];obtain⟨ok,h1,h2⟩:=ST f h;simp only [h1,Aa,PO]
 cases ok with
 |false=>exact⟨f,false,rfl,rfl,.inl ⟨rfl,rfl⟩⟩
 |true=>
  obtain⟨h3,h4⟩:=h2 rfl;simp only [Ai,Ab,Ae,Aa];have eln:sb (ln f.Blocks) 1=(f.Blocks.length:Int)-1:=by rw [BG,Cw (by omega) (by omega)]
  rw [eln]
  cases hb:(decide (0<=b)&&decide (b<=(f.Blocks.length:Int)-1))with
  |false=>exact⟨f,false,rfl,rfl,.inl ⟨rfl,rfl⟩⟩
  |true=>
   simp at hb;have a:b<(f.Blocks.length:Int):=by omega
   simp only [Ae,K2 hb.1 a,Aa];have hm:f.Blocks[b.toNat]'(by omega)∈f.Blocks:=AE _;have hL:=h4 _ hm;generalize f.Blocks[b.toNat]'(by omega)=x at hL
   cases x.Bad with
   |true=>exact⟨f,false,rfl,rfl,.inl ⟨rfl,rfl⟩⟩
   |false=>
    obtain⟨k,h5,h6,h7⟩:=Up x (by omega);simp only [AG,Ai,Ae,Ab,h5,Aa];by_cases hl:0<=l/\l<=3
    ·have e1:(decide (0<=l)&&decide (l<=3))=true:=by simp [hl]
     have e2:decide (l<4)=true:=by simp;omega
     simp only [e1,e2,Ae,Ab,Ai];by_cases hk:l=k
     ·have e3:(l==k)=true:=by simp [hk]
      have e4:(l !=k)=false:=by simp [hk]
      simp only [e3,e4,Ae,Ab,Aa]
      cases hs:(decide (1<=Fz t)&&decide (Fz t<=120))with
      |false=>exact⟨f,false,rfl,rfl,.inl ⟨rfl,rfl⟩⟩
      |true=>
       simp only [Ai,Ab];rw [K2 (l:=x.Leaves) hl.1 (by omega),Aa];refine⟨_,_,rfl,rfl,.inr ⟨rfl,eJ ⟨by omega,h4⟩ (by simp only [si,EN];exact hL)⟩⟩
     have e3:(l==k)=false:=by simp [hk]
     have e4:(l !=k)=true:=by simp [hk]
     simp only [e3,e4,Ae,Ab,Aa];exact⟨f,false,rfl,rfl,.inl ⟨rfl,rfl⟩⟩
    have e1:(decide (0<=l)&&decide (l<=3))=false:=by simp;omega
    simp only [e1,AG,Ae,Aa];by_cases h4':l<4
    ·have e2:decide (l<4)=true:=by simp;omega
     have e3:(l==k)=false:=by simp;omega
     simp only [e2,e3,Ae,Ab,Aa,AG];exact⟨f,false,rfl,rfl,.inl ⟨rfl,rfl⟩⟩
    have e2:decide (l<4)=false:=by simp;omega
    simp only [e2,Ae,Ab,Aa,AG];exact⟨f,false,rfl,rfl,.inl ⟨rfl,rfl⟩⟩
theorem y9 (f:Flash) (b:Int) (h:LN f):∃g v,Sy f b=some (g,v)/\dA f b=some (g,v)/\(v=false/\g=f\/v=true/\WD g):=by
 unfold Sy dA;rw [Kp,Dp f h,Yp,R3];unfold QL;rw [P5,XZ];obtain⟨ok,h1,h2⟩:=ST f h;simp only [h1,Aa,PO]
 cases ok with
 |false=>exact⟨f,false,rfl,rfl,.inl ⟨rfl,rfl⟩⟩
 |true=>
  obtain⟨h3,h4⟩:=h2 rfl;simp only [Ai,Ab,Ae,Aa];have eln:sb (ln f.Blocks) 1=(f.Blocks.length:Int)-1:=by rw [BG,Cw (by omega) (by omega)]
  rw [eln]
  cases hb:(decide (0<=b)&&decide (b<=(f.Blocks.length:Int)-1))with
  |false=>exact⟨f,false,rfl,rfl,.inl ⟨rfl,rfl⟩⟩
  |true=>
   simp at hb;have c:b<(f.Blocks.length:Int):=by omega
   simp only [Ae,K2 hb.1 c,Aa,Ai,Ab]
   cases a:(f.Blocks[b.toNat]'(by omega)).Bad with
   |true=>exact⟨f,false,rfl,rfl,.inl ⟨rfl,rfl⟩⟩
   |false=>
    simp only [AG,Ai,Ae,Ab,Aa]
    cases(f.Blocks[b.toNat]'(by omega)).Wear==1000000000 with
    |true=>exact⟨f,false,rfl,rfl,.inl ⟨rfl,rfl⟩⟩
    |false=>
     simp only [Ab];have d:∀x,gi (si f.Blocks b x) b=some x:=by
      intro x;unfold gi si;rw [Ax hb.1,List.getElem?_set_self (by omega)]
     simp only [d,Aa,a];refine⟨_,_,rfl,?_,.inr ⟨rfl,eJ ⟨by omega,h4⟩ (by simp [Nf])⟩⟩;simp only [si,List.set_set]
theorem aW (f:Flash) (s:Bu) (h:LN f):∃g v,Ja f s=some (g,v)/\QV f s=some (g,v)/\(v=false/\g=f\/v=true/\WD g):=by
 unfold Ja QV
 cases s.Kind==1 with
 |true=>
  obtain⟨g,v,h1,h2,h3⟩:=mG f s.Block s.Leaf s.Text h;exact⟨g,v,by simp only [Ae,h1,Aa],by simp only [Ae,h2,Aa],h3⟩
 |false=>
  simp only [Ab]
  cases s.Kind==2 with
  |true=>
   obtain⟨g,v,h1,h2,h3⟩:=y9 f s.Block h;exact⟨g,v,by simp only [Ae,h1,Aa],by simp only [Ae,h2,Aa],h3⟩
  |false=>
   simp only [Ab,Kp,Dp f h,Aa];exact⟨_,_,rfl,rfl,.inl ⟨rfl,rfl⟩⟩
theorem mP (f:Flash) (l:List Bu) (h:LN f) (hl:l.length<=1048576):∃g n,H1 f l=some (g,n)/\RF f l=some (g,n)/\LN g/\0<=n/\n<=l.length:=by
 unfold H1 RF;rw [Kp,Dp f h,Aa,Aa];obtain⟨r,h1,h2,h3⟩:=MS (body:=λs:Int×List Block=>D5 l s.1 s.2) (body':=λs:Int×List Block=>Km l s.1 s.2) (λ(s:List Block) i=>(i,s)) l.length (λ_ s=>LN (Flash.mk s)) (λr=>(∃b,r= .inl b/\LN (Flash.mk b))\/∃(g:Flash) (n:Nat),r= .inr (g,(n:Int))/\LN g/\n<=l.length)
  (λs i hi hs=>by
   obtain⟨g,v,h1,h2,h3⟩:=aW (Flash.mk s) l[i] hs;simp only [D5,Km,AC,Ad hi,Ae,A9,Ac hi,Aa,h1,h2];refine⟨trivial,?_⟩
   rcases h3 with⟨rfl,rfl⟩|⟨rfl,h3⟩
   ·exact .inr ⟨_,rfl,.inr ⟨_,i,rfl,hs,by omega⟩⟩
   refine .inl ⟨g.Blocks,?_,h3.cap⟩;simp only [Ai,Ab]
   rw [ad1 (by omega)])
  (λs hs=>by
   simp only [D5,Km,AC,Ao,Aq,Ab]
   exact⟨trivial,_,rfl,.inl ⟨s,rfl,hs⟩⟩) (s:=f.Blocks) h
 rw [h1,h2];simp only [Aa]
 rcases h3 with⟨b,rfl,h3⟩|⟨g,n,rfl,h3,h4⟩
 ·exact⟨_,_,rfl,rfl,h3,by rw [BG];omega,by rw [BG];omega⟩
 exact⟨_,_,rfl,rfl,h3,by omega,by omega⟩
end Go.TI
