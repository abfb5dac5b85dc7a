/- Cleaning that is cut. No condition; no program is in sight. -/
import Derived.Test.YtpafpcbnmplkfaaGreatCCP0
set_option linter.unusedVariables false
set_option linter.unusedSimpArgs false
namespace Go.TI
open Go
theorem AEd (s:ByteArray) (f a:Int):ME s f a=Aw (λn:Int=>Gk s a f n) 0:=by
 show(Aw (λn:Int=>Gk s a f n) 0).bind _=_;cases Aw (λn:Int=>Gk s a f n) 0<;>rfl
theorem AEc (s:ByteArray) (f a:Nat) (hf:f<a) (ha:a<=(L s).length) (hs:(L s).length<=64):∃k:Nat,Aw (λn:Int=>Gk s (a:Int) (f:Int) n) 0=some (k:Int)/\k<=31/\a+k<=(L s).length:=by
 obtain⟨b,h1,k,rfl,h2,h3⟩:=Bk (body:=λn:Int=>Gk s (a:Int) (f:Int) n) (λ(_:Unit) i=>i) 31 (λi _=>a+i<=(L s).length) (λb=>∃k:Nat,b=(k:Int)/\k<=31/\a+k<=(L s).length)
  (λ_ i hi hs=>by
   simp only [Gk];rw [Ad (by omega:(i:Int)<31),Ae,CA (by omega) (by omega),CA (by omega) (by omega),BL];by_cases c:a+i<(L s).length
   ·rw [Ad (by omega:((a:Int)+(i:Int))<((L s).length:Int)),Ae];have e1:((f:Int)+(i:Int))=((f+i:Nat):Int):=by omega
    have e2:((a:Int)+(i:Int))=((a+i:Nat):Int):=by omega
    rw [e1,e2,EX s (by omega),EX s c];simp only [Aa]
    cases((((L s)[f+i]).toNat:Int)==(((L s)[a+i]).toNat:Int))with
    |true=>
     simp only [Ae];rw [ad1 (by omega)];exact .inl ⟨(),rfl,by omega⟩
    |false=>exact .inr ⟨_,rfl,i,rfl,by omega,hs⟩
   rw [Af (by omega:¬((a:Int)+(i:Int))<((L s).length:Int)),Ac]
   exact .inr ⟨_,rfl,i,rfl,by omega,hs⟩)
  (λ_ hs=>by
   simp only [Gk];rw [Af (by omega:¬((31:Nat):Int)<31),Ac]
   exact⟨_,rfl,31,rfl,by omega,hs⟩) (s:=()) (by omega)
 exact⟨k,h1,h2,h3⟩
theorem AAk (s:ByteArray) (a:Nat) (ha:a<=(L s).length) (hs:(L s).length<=64):∃z b:Nat,Vt s (a:Int)=some ((z:Int),(b:Int))/\Aw (λq:Int×Int×Int=>EB s (a:Int) q.1 q.2.1 q.2.2) (0,0,(sb (a:Int) 1))=some ((z:Int),(b:Int))/\z<=31/\a+z<=(L s).length/\(z=0\/4<=z/\1<=b/\b<=a):=by
 have c:(λq:Int×Int×Int=>EB s (a:Int) q.1 q.2.1 q.2.2)=λq:Int×Int×Int=>I5 s (a:Int) q.1 q.2.1 q.2.2:=by
  funext ⟨x,y,z⟩;simp only [EB,I5,AEd]
 rw [c,Cz (by omega) (by omega)];obtain⟨r,h1,z,b,rfl,h2,h3,h4⟩:=Bk (body:=λq:Int×Int×Int=>I5 s (a:Int) q.1 q.2.1 q.2.2) (λ(q:Nat×Nat) i=>((q.1:Int),(q.2:Int),(a:Int)-1-i)) a (λi q=>q.1<=31/\a+q.1<=(L s).length/\(q.1=0\/4<=q.1/\1<=q.2/\q.2<=a)) (λr=>∃z b:Nat,r=((z:Int),(b:Int))/\z<=31/\a+z<=(L s).length/\(z=0\/4<=z/\1<=b/\b<=a))
  (λq i hi hq=>by
   obtain⟨k,m1,m2,m3⟩:=AEc s (a-1-i) a (by omega) ha hs;have e1:((a:Int)-1-(i:Int))=((a-1-i:Nat):Int):=by omega
   simp only [I5,e1];rw [Ad (by omega:(((a-1-i:Nat)):Int)>=0),Ae,m1];simp only [Aa];rw [Cz (by omega) (by omega),Cz (by omega) (by omega)];refine .inl ?_;have e2:(((a-1-i:Nat):Int)-1)=(a:Int)-1-((i+1:Nat):Int):=by omega
   have e3:((a:Int)-((a-1-i:Nat):Int))=((1+i:Nat):Int):=by omega
   rw [e2,e3];by_cases h4:4<=k
   ·rw [Ad (by omega:(k:Int)>=4),Ae];by_cases h5:q.1<k
    ·rw [Ad (by omega:(k:Int)>(q.1:Int))];exact⟨(k,1+i),rfl,m2,m3,.inr ⟨h4,by omega,by omega⟩⟩
    rw [Af (by omega:¬(k:Int)>(q.1:Int))];exact⟨q,rfl,hq⟩
   rw [Af (by omega:¬(k:Int)>=4),Ac]
   exact⟨q,rfl,hq⟩)
  (λq hq=>by
   simp only [I5];rw [Af (by omega:¬((a:Int)-1-(a:Int))>=0),Ac]
   exact⟨_,rfl,q.1,q.2,rfl,hq⟩) (s:=(0,0)) ⟨by omega,by omega,.inl rfl⟩
 have e0:(((0:Nat):Int),((0:Nat):Int),(a:Int)-1-0)=((0:Int),(0:Int),(a:Int)-1):=by simp
 simp only [e0]at h1;refine⟨z,b,?_,h1,h2,h3,h4⟩;unfold Vt;rw [Cz (by omega) (by omega),h1];rfl
def Tj (t:Bg):Prop:=(t.Back=0/\t.Size=0/\1<=(L t.Text).length/\(L t.Text).length<=31)\/(1<=t.Back/\t.Back<=64/\4<=t.Size/\t.Size<=31/\L t.Text=[])
variable {f:Flash} {n j i:Nat} {r:List As} {α:Type} {c x:Int} {l:List Int} {y:As} {p q:Nat->Bool}
theorem Fo (l:List α) (x:α):gi (l++ [x]) (l.length:Int)=some x:=by
 rw [AC];simp
theorem Jq (l:List α) (x y:α):si (l++ [x]) (l.length:Int) y=l++ [y]:=by
 rw [Gs];simp
theorem wP (s:ByteArray) (hs:(L s).length<=64):∃l,K4 s=some l/\SG s=some l/\l.length<=64/\∀t∈l,Tj t:=by
 unfold K4 SG;rw [BL,Af (by omega:¬((L s).length:Int)>64),Ac,Ac];obtain⟨l,h1,h2,h3,h4⟩:=Rx (body:=λq:List Bg×Int=>C0 s q.1 q.2) (body':=λq:List Bg×Int=>NK s q.1 q.2) (λq=>(L s).length-q.2.toNat)
  (λq=>∃a:Nat,q.2=(a:Int)/\a<=(L s).length/\q.1.length<=a/\∀t∈q.1,Tj t) (λl=>l.length<=64/\∀t∈l,Tj t)
  (by
   rintro⟨f,at_⟩ ⟨a,ha,h1,h2,h3⟩;simp only at ha h2 h3;subst ha;simp only [C0,NK];rw [BL];by_cases i:a<(L s).length
   ·rw [Ad (by omega:(a:Int)<((L s).length:Int)),Ae,Ae];obtain⟨z,b,m1,m2,m3,m4,m5⟩:=AAk s a h1 hs;rw [m1,m2];simp only [Aa]
    have c:∀x:Bg,ap 32 f [x]=some (f++ [x]):=λx=>C3 (by simp only [Aj];omega)
    refine .inl ?_;by_cases hz:z=0
    ·subst hz;rw [Af (by omega:¬((0:Nat):Int)>0),Ac,Ac];have esub:sub s (a:Int) (ad (a:Int) 1)=some (s.extract a (a+1)):=by rw [ad1 (by omega)];exact EY s (by omega) (by omega)
     have elen:(L (s.extract a (a+1))).length=1:=by rw [HG];simp;omega
     rw [esub,ad1 (by omega),Cz (by rw [Cf];omega) (by rw [Cf];omega),Cf]
     have ecat:∀x:ByteArray,(L x).length<=31->HH x (s.extract a (a+1))=some (x++s.extract a (a+1)):=λx hx=>FT _ _ (by rw [elen];omega)
     have e0:HH (bs []) (s.extract a (a+1))=some (s.extract a (a+1)):=by
      rw [ecat _ (by rw [DV];simp)];exact Ca some (Ii (by rw [D4,DV];rfl))
     have enew:Tj (Bg.mk 0 0 (s.extract a (a+1))):= .inl ⟨rfl,rfl,by simp only;rw [elen];omega,by simp only;rw [elen];omega⟩
     have d:∀(o:List Bg) (x:Bg),(∀t∈o,Tj t)->Tj x->∀t∈o++ [x],Tj t:=λo x ho hx t ht=>by
      rcases Ak.1 ht with ht|ht
      ·exact ho t ht
      rw [Az]at ht;subst ht;exact hx
     have fin:∀o:List Bg,o.length<=a+1->(∀t∈o,Tj t)->(∃a':Nat,((a+1:Nat):Int)=(a':Int)/\a'<=(L s).length/\o.length<=a'/\∀t∈o,Tj t)/\(L s).length-(((a+1:Nat)):Int).toNat<(L s).length-((a:Int)).toNat:=λo g h=>⟨⟨a+1,rfl,by omega,g,h⟩,by omega⟩
     rcases Hb f with rfl|⟨o,x,rfl⟩
     ·simp only [Bn,Int.ofNat_zero,Int.zero_sub];rw [Ad (by omega:(-1:Int)<0),Af (by omega:¬(-1:Int)>=0)];simp only [Ae,Ac,Aa,c];rw [show ad (-1) 1=(([]:List Bg).length:Int)from rfl];simp only [Fo,Aa,e0,Jq];exact⟨_,rfl,rfl,fin _ (by simp) (d _ _ (by simp) enew)⟩
     rw [Hc]at h2 h3 c⊢;simp only [Ag,Aj]at h2⊢;have ek:(((o.length+1:Nat):Int)-1)=(o.length:Int):=by omega
     rw [ek,Af (by omega:¬(o.length:Int)<0),Ad (by omega:(o.length:Int)>=0)];simp only [Ae,Ac,Fo,Aa];have hx:=h3 x (by simp);have e:=d (o++ [x]) _ h3 enew;have elast:ad (o.length:Int) 1=((o++ [x]).length:Int):=by rw [ad1 (by omega)];simp
     rcases hx with⟨x1,x2,x3,x4⟩|⟨x1,x2,x3,x4,x5⟩
     ·rw [x1];simp only [show((0:Int)==0)=true from rfl,Ae,show decide ((0:Int)>0)=false from rfl,Ac];rw [BL];by_cases h31:(L x.Text).length<31
      ·rw [Ad (by omega:((L x.Text).length:Int)<31),Af (by omega:¬((L x.Text).length:Int)>=31)];simp only [Ae,Ac,Aa,Fo,ecat _ x4,Jq];simp only [x1];refine⟨_,rfl,rfl,fin _ (by simp;omega) (d _ _ (λt ht=>h3 t (by simp [ht])) (.inl ⟨rfl,x2,?_,?_⟩))⟩
       ·simp only;rw [D4,Ag,elen];omega
       simp only;rw [D4,Ag,elen];omega
      rw [Af (by omega:¬((L x.Text).length:Int)<31),Ad (by omega:((L x.Text).length:Int)>=31)];simp only [Ae,Ac,Aa,c,elast,Fo,e0,Jq];exact⟨_,rfl,rfl,fin _ (by simp;omega) e⟩
     have hb:(x.Back==0)=false:=by simp;omega
     rw [hb,Ad (by omega:x.Back>0)];simp only [Ae,Ac,Aa,c,elast,Fo,e0,Jq];exact⟨_,rfl,rfl,fin _ (by simp;omega) e⟩
    rw [Ad (by omega:(z:Int)>0),Ae,Ae,c];simp only [Aa];rw [CA (by omega) (by omega)];refine⟨_,rfl,rfl,⟨a+z,by simp,by omega,by simp;omega,?_⟩,by simp only;omega⟩;intro t ht
    rcases Ak.1 ht with ht|ht
    ·exact h3 t ht
    rw [Az]at ht;subst ht;refine .inr ⟨?_,?_,?_,?_,by simp only;rw [DV]⟩<;>simp only<;>omega
   rw [Af (by omega:¬(a:Int)<((L s).length:Int)),Ac,Ac]
   exact .inr ⟨_,rfl,rfl,by omega,h3⟩) ((L s).length) ([],0) (by simp) ⟨0,rfl,by omega,by simp,by simp⟩
 rw [h1,h2];exact⟨l,rfl,rfl,h3,h4⟩
theorem Tk (l m:List Int):L (EI (l++m))=L (EI l)++L (EI m):=by rw [Jn,Jn,Jn,CD]
theorem M0 (l:List Int):(L (EI l)).length=l.length:=by rw [Jn,Bo]
theorem ADo (b:ByteArray):L (EI (yL b))=L b:=by
 rw [Jn,yL,FK];have:((λn:Int=>UInt8.ofNat n.toNat)∘λc:UInt8=>(c.toNat:Int))=id:=by
  funext c;simp
 rw [this,SY];rfl
theorem AEP (l:List Int) (b:ByteArray):aps l b=ap 1 l (yL b):=by
 have:(yL b).length=b.size:=by simp [yL]
 unfold aps ap;rw [this,fF]
theorem jT (b:ByteArray):(yL b).length=(L b).length:=by simp [yL,L]
theorem wV (s:ByteArray):∃z ok,ES s=some (z,ok)/\Pr s=some (z,ok)/\(ok=false->z=bs [])/\(ok=true->(L s).length<=64/\((L z)[0]?=some 122\/(L z)[0]?=some 114)):=by
 unfold ES Pr;rw [BL];by_cases hs:(L s).length<=64
 ·rw [Af (by omega:¬((L s).length:Int)>64),Ac,Ac];obtain⟨l,t1,t2,t3,t4⟩:=wP s hs;rw [t1,t2];simp only [Aa];obtain⟨z,v,h1,h2,rfl,h3,h4⟩:=ACA (body:=λq:ByteArray×Int=>ED l q.1 q.2) (body':=λq:List Int×Int=>KZ l q.1 q.2) (λv i=>(EI v,i)) (λv i=>(v,i)) l.length (λi v=>v.length<=1+33*i/\(L (EI v))[0]?=some 122) (λz v=>z=EI v/\v.length<=4000/\(L (EI v))[0]?=some 122)
   (λv i hi hv=>by
    have hg:l[i]?=some l[i]:=Ab hi;have c:=hv.1;have ht:=t4 _ (AD hi);refine .inl ?_;simp only [ED,KZ,AE,Ad hi,Ae,AC,hg,Aa]
    have b:∀(a:ByteArray) (m:List Int),(L a).length<=4000->m.length<=2->HH a (EI m)=some (a++EI m):=λa m h1 h2=>FT _ _ (by rw [M0];omega)
    have h0:∀m:List Int,(L (EI (v++m)))[0]?=some 122:=λm=>by
     rw [Tk,AQ]
     ·exact hv.2
     rcases GQ (L (EI v)).length with h|h
     ·have:=hv.2;rw [AB h]at this;cases this
     exact h
    rcases ht with⟨x1,x2,x3,x4⟩|⟨x1,x2,x3,x4,x5⟩
    ·rw [x1];simp only [show((0:Int)==0)=true from rfl,Ae,show decide ((0:Int)>0)=false from rfl,Ac];rw [b _ _ (by rw [M0];omega) (by simp),C3 (by simp only [Aj];omega)];simp only [Aa];rw [FT _ _ (by rw [D4,Ag,M0,M0];simp only [Aj];omega),AEP,C3 (by rw [jT];simp only [Ag,Aj];omega)];simp only [Aa];rw [ad1 (by omega)];refine⟨v++([IntKind.u8.wrap (FL l[i].Text)]++yL l[i].Text),?_,by rw [Ar],?_,h0 _⟩
     ·congr 4;apply Ii;rw [D4,D4,Tk,Tk,ADo,Ar]
     simp only [Ag,Aj,jT];omega
    have hb:(l[i].Back==0)=false:=by simp;omega
    rw [hb,Ad (by omega:l[i].Back>0)];simp only [Ae,Ac];rw [b _ _ (by rw [M0];omega) (by simp),C3 (by simp only [Ay,Bn];omega)];simp only [Aa];rw [ad1 (by omega)];refine⟨v++ [IntKind.u8.wrap (ad 128 l[i].Size),IntKind.u8.wrap l[i].Back],?_,rfl,?_,h0 _⟩
    ·congr 4;apply Ii;rw [D4,Tk]
    simp only [Ag,Ay,Bn];omega)
   (λv hv=>⟨_,_,by simp only [ED,AE,Aq,Av,Ac],by simp only [KZ,AE,Aq,Av,Ac],rfl,by have:=hv.1;omega,hv.2⟩) (s:=[122]) ⟨by simp,by rw [Jn];rfl⟩
  have e0:(EI [122],(0:Int))=(bs [122],(0:Int)):=by rw [show EI [122]=bs [122]from Ii (by rw [Jn,DV];rfl)]
  simp only [e0]at h1;rw [h1,h2];simp only [Aa];rw [BL,M0,Cf,CA (by omega) (by omega)];by_cases hc:((L s).length:Int)+1<=(v.length:Int)
  ·rw [Ad hc,Ae,FT _ _ (by rw [DV];simp only [Aj];omega)];refine⟨_,true,rfl,rfl,by simp,λ_=>⟨hs,.inr ?_⟩⟩;rw [D4,DV];rfl
  rw [Af hc,Ac];exact⟨_,true,rfl,rfl,by simp,λ_=>⟨hs,.inl h4⟩⟩
 rw [Ad (by omega:((L s).length:Int)>64),Ae,Ae];exact⟨_,false,rfl,rfl,by simp,by simp⟩
def PB (t:Bg):Prop:=(t.Back=0/\t.Size=0/\1<=(L t.Text).length/\(L t.Text).length<=31)\/(t.Back≠0/\1<=t.Size/\t.Size<=31/\L t.Text=[])
theorem qJ:R3=Ga:=by
 funext l;unfold R3 Ga;have hb:Pp l=Ee l:=by
  funext out y;unfold Pp Ee
  cases decide (y<ln l)with
  |false=>rfl
  |true=>
   simp only [Ae]
   cases gi l y with
   |none=>rfl
   |some t=>
    simp only [Aa,ZR,PG,AEP]
    have h2:(λs:List Int×Int=>TZ t s.1 s.2)=λs:List Int×Int=>Ed t s.1 s.2:=rfl
    rw [h2]
    cases t.Back==0 with
    |false=>rfl
    |true=>
     simp only [Ae];cases t.Size !=0<;>cases(decide (1<=FL t.Text)&&decide (FL t.Text<=31))<;>rfl
 rw [hb]
theorem P8 (l:List Bg) (hl:l.length<=1048576):∃p ok,Ga l=some (p,ok)/\(ok=true->∀t∈l,PB t):=by
 unfold Ga;obtain⟨r,h1,h2⟩:=Bk (body:=λq:List Int×Int=>Ee l q.1 q.2) (λ(o:List Int) i=>(o,i)) l.length (λi o=>o.length<=64/\∀(j:Nat) t,j<i->l[j]?=some t->PB t) (λr=>(∃o,r= .inl o/\∀t∈l,PB t)\/r= .inr (bs [],false))
  (λo i hi ho=>by
   have hg:l[i]?=some l[i]:=Ab hi;obtain⟨h,d⟩:=ho;simp only [Ee,AE,Ad hi,Ae,AC,hg,Aa,PG];have bad:∀k:(List Int)⊕((List Int×Int)⊕((List Int)⊕((ByteArray×Bool)))),k= .inr (.inr (.inr (bs [],false)))->∃b,(some k).bind (Sum.elim (λj1=>(bif(decide ((ln j1)>64))then(some (.inr (.inr ((bs []),false))))else(some (.inl (j1,(ad (i:Int) 1)))))) some)=some (.inr b)/\((∃o,b= .inl o/\∀t∈l,PB t)\/b= .inr (bs [],false)):=by
    rintro k rfl;exact⟨_,rfl,.inr rfl⟩
   have good:∀(o':List Int),PB l[i]->(∃s',(some (.inl o':(List Int)⊕((List Int×Int)⊕((List Int)⊕((ByteArray×Bool)))))).bind (Sum.elim (λj1=>(bif(decide ((ln j1)>64))then(some (.inr (.inr ((bs []),false))))else(some (.inl (j1,(ad (i:Int) 1)))))) some)=some (.inl (s',((i+1:Nat):Int)))/\s'.length<=64/\∀(j:Nat) t,j<i+1->l[j]?=some t->PB t)\/∃b,(some (.inl o':(List Int)⊕((List Int×Int)⊕((List Int)⊕((ByteArray×Bool)))))).bind (Sum.elim (λj1=>(bif(decide ((ln j1)>64))then(some (.inr (.inr ((bs []),false))))else(some (.inl (j1,(ad (i:Int) 1)))))) some)=some (.inr b)/\((∃o,b= .inl o/\∀t∈l,PB t)\/b= .inr (bs [],false)):=by
    intro o' ht;simp only [Aa,BM];by_cases h64:o'.length<=64
    ·rw [Af (by rw [Cf];omega),Ac,ad1 (by omega)];refine .inl ⟨o',rfl,h64,λj t hj a=>?_⟩;by_cases e:j=i
     ·subst e;rw [hg]at a
      injection a with a
      rw [<-a];exact ht
     exact d j t (by omega) a
    rw [Ad (by rw [Cf];omega),Ae];exact .inr ⟨_,rfl,.inr rfl⟩
   by_cases hb:l[i].Back=0
   ·rw [hb];simp only [show((0:Int)==0)=true from rfl,Ae];rw [BL];by_cases hx:(1<=(L l[i].Text).length/\(L l[i].Text).length<=31)/\l[i].Size=0
    ·obtain⟨⟨f,g⟩,c⟩:=hx;rw [Ad (by omega:(1:Int)<=((L l[i].Text).length:Int)),Ad (by omega:((L l[i].Text).length:Int)<=31),c];simp only [JF,Al,Ac,Aa,show((0:Int) !=0)=false from rfl];rw [C3 (by rw [jT];omega)];simp only [Aa];exact good _ (.inl ⟨hb,c,f,g⟩)
    by_cases h1:1<=(L l[i].Text).length/\(L l[i].Text).length<=31
    ·have hs:(l[i].Size !=0)=true:=by simp;intro e;exact hx ⟨h1,e⟩
     rw [Ad (by omega:(1:Int)<=((L l[i].Text).length:Int)),Ad (by omega:((L l[i].Text).length:Int)<=31),hs];simp only [JF,Al,Ac,Ae,Aa];exact .inr (bad _ rfl)
    have hd:(decide ((1:Int)<=((L l[i].Text).length:Int))&&decide (((L l[i].Text).length:Int)<=31))=false:=by
     rw [C5,AY,AY];omega
    rw [hd];simp only [AJ,Ae,Aa];exact .inr (bad _ rfl)
   have hb':(l[i].Back==0)=false:=by simpa using hb
   rw [hb'];simp only [Ac];rw [Cf,Qp,DV];by_cases hx:(1<=l[i].Back/\l[i].Back<=(o.length:Int))/\(1<=l[i].Size/\l[i].Size<=31)/\L l[i].Text=[]
   ·obtain⟨⟨y1,y2⟩,⟨y3,y4⟩,y5⟩:=hx;rw [Ad y1,Ad y2,Ad y3,Ad y4,Ad y5];simp only [JF,Al,Ac,Aa];obtain⟨o',q1,q2⟩:=Bk (body:=λq:List Int×Int=>Ed l[i] q.1 q.2) (λ(o:List Int) k=>(o,k)) l[i].Size.toNat (λk u=>u.length=o.length+k) (λ_=>True)
     (λu k hk hu=>by
      simp only [Ed];rw [Ad (by omega:(k:Int)<l[i].Size),Ae,Cz (by rw [Cf];omega) (by rw [Cf];omega),Cf,Kr (by omega) (by omega)];simp only [Aa];rw [C3 (by simp only [Aj];omega),ad1 (by omega)]
      exact .inl ⟨_,rfl,by simp only [Ag,Aj];omega⟩)
     (λu hu=>⟨u,by simp only [Ed];rw [Af (by omega),Ac],trivial⟩) (s:=o) (by omega)
    rw [q1];simp only [Aa];exact good _ (.inr ⟨hb,y3,y4,y5⟩)
   refine .inr ?_
   cases c1:(decide (1<=l[i].Back)&&decide (l[i].Back<=(o.length:Int)))with
   |false=>
    simp only [AJ,Ae,Aa];exact bad _ rfl
   |true=>
    simp only [Al,Ac,Aa]
    cases c2:(decide (1<=l[i].Size)&&decide (l[i].Size<=31))with
    |false=>
     simp only [AJ,Ae,Aa];exact bad _ rfl
    |true=>
     simp only [Al,Ac,Aa];have c3:decide (L l[i].Text=[])=false:=by
      rw [AY];intro e;simp only [An,A9]at c1 c2;exact hx ⟨c1,c2,e⟩
     rw [c3];simp only [AJ,Ae]
     exact bad _ rfl)
  (λo ho=>⟨_,by simp only [Ee,AE,Aq,Av,Ac],.inl ⟨o,rfl,λt ht=>by
   obtain⟨j,hj,rfl⟩:=AI ht
   exact ho.2 j _ hj (Ab hj)⟩⟩) (s:=[]) ⟨by simp,λj t hj=>by omega⟩
 rw [h1]
 rcases h2 with⟨o,rfl,h2⟩|rfl
 ·exact⟨_,true,rfl,λ_=>h2⟩
 exact⟨_,false,rfl,by simp⟩
theorem Xp (c:UInt8):IntKind.i64.wrap (c.toNat:Int)=(c.toNat:Int):=ND (by omega) (by have:=c.toNat_lt;omega)
theorem fS (rem:ByteArray) (a:List Bg) (h:0<(L rem).length) (ho:a.length<=1048576) (hr:(L rem).length<=1048576):
  DW rem a=some (if 128<=(L rem)[0].toNat/\2<=(L rem).length then .inl (rem.extract 2 (L rem).length,a++ [Bg.mk (((L rem)[1]?.getD 0).toNat:Int) (((L rem)[0].toNat:Int)-128) (bs [])])
   else if(L rem)[0].toNat<128/\(L rem)[0].toNat<(L rem).length then .inl (rem.extract (1+(L rem)[0].toNat) (L rem).length,a++ [Bg.mk 0 0 (rem.extract 1 (1+(L rem)[0].toNat))])
   else .inr (.inr ([],false))):=by
 have d:=(L rem)[0].toNat_lt;have b:seq rem (bs [])=false:=by
  rw [Qp,DV,AY];intro e;rw [e]at h;simp at h
 have c:∀x:Bg,ap 32 a [x]=some (a++ [x]):=λx=>C3 (by simp only [Aj];omega)
 unfold DW;rw [b];have s0:sx rem 0=some ((L rem)[0].toNat:Int):=EX rem (i:=0) h;simp only [AJ,Ae,s0,Aa,Xp,BL,c];have c0:ad 1 ((L rem)[0].toNat:Int)=((1+(L rem)[0].toNat:Nat):Int):=by rw [CA (by omega) (by omega)];omega
 rw [c0];by_cases h1:128<=(L rem)[0].toNat
 ·rw [Ad (by omega:((L rem)[0].toNat:Int)>=128),Af (by omega:¬((L rem)[0].toNat:Int)<128)];simp only [Ae,Ac,Aa];by_cases h2:2<=(L rem).length
  ·rw [Ad (by omega:((L rem).length:Int)>=2),Ae,A3 ⟨h1,h2⟩];have s1:sx rem 1=some ((L rem)[1].toNat:Int):=EX rem (i:=1) (by omega);have s2:sub rem 2 ((L rem).length:Int)=some (rem.extract 2 (L rem).length):=EY rem (i:=2) h2 (A4 _);rw [s1,s2,Cz (by omega) (by omega)];simp only [Aa,Xp];rw [Ab (by omega:1<(L rem).length)];rfl
  rw [Af (by omega:¬((L rem).length:Int)>=2),Ac,A5 (λe=>h2 e.2),A5 (λe=>by omega)]
 rw [Af (by omega:¬((L rem)[0].toNat:Int)>=128),Ad (by omega:((L rem)[0].toNat:Int)<128),A5 (λe=>h1 e.1)];simp only [Ae,Ac,Aa];by_cases h2:(L rem)[0].toNat<(L rem).length
 ·rw [Ad (by omega:((L rem)[0].toNat:Int)<((L rem).length:Int)),Ae,A3 ⟨by omega,h2⟩];have s1:sub rem 1 ((1+(L rem)[0].toNat:Nat):Int)=some (rem.extract 1 (1+(L rem)[0].toNat)):=EY rem (i:=1) (by omega) (by omega);have s2:sub rem ((1+(L rem)[0].toNat:Nat):Int) ((L rem).length:Int)=some (rem.extract (1+(L rem)[0].toNat) (L rem).length):=EY rem (by omega) (A4 _);rw [s1,s2];rfl
 rw [Af (by omega:¬((L rem)[0].toNat:Int)<((L rem).length:Int)),Ac,A5 (λe=>h2 e.2)]
theorem XP (rem:ByteArray) (a:List Bg) (h:(L rem).length=0):DW rem a=some (.inr (.inl a)):=by
 have b:seq rem (bs [])=true:=by
  rw [Qp,DV,A9];exact AB h
 unfold DW;rw [b];rfl
theorem fR (t:ByteArray) (b:List Bg) (a:Nat) (h:a<(L t).length) (ho:b.length<=1048576) (hr:(L t).length<=1048576):
  Ci t b (a:Int)=some (if 128<(L t)[a].toNat then(if a+2<=(L t).length then .inl (b++ [Bg.mk (((L t)[a+1]?.getD 0).toNat:Int) (((L t)[a].toNat:Int)-128) (bs [])],((a+2:Nat):Int))else .inr (.inr (b,false)))
   else if a+1+(L t)[a].toNat<=(L t).length then .inl (b++ [Bg.mk 0 0 (t.extract (a+1) (a+1+(L t)[a].toNat))],((a+1+(L t)[a].toNat:Nat):Int))
   else .inr (.inr (b,false))):=by
 have d:=(L t)[a].toNat_lt
 have c:∀x:Bg,ap 32 b [x]=some (b++ [x]):=λx=>C3 (by simp only [Aj];omega)
 have c2:ad (a:Int) 2=((a+2:Nat):Int):=by rw [CA (by omega) (by omega)];omega
 have c3:ad ((a+1:Nat):Int) ((L t)[a].toNat:Int)=((a+1+(L t)[a].toNat:Nat):Int):=by rw [CA (by omega) (by omega)];omega
 unfold Ci;rw [BL,Ad (by omega:(a:Int)<((L t).length:Int)),Ae,EX t h];simp only [Aa,Xp,c];rw [c2,ad1 (by omega),c3];by_cases h1:128<(L t)[a].toNat
 ·rw [Ad (by omega:((L t)[a].toNat:Int)>128),Ae,A3 h1];by_cases h2:a+2<=(L t).length
  ·rw [Af (by omega:¬((a+2:Nat):Int)>((L t).length:Int)),Ac,A3 h2,EX t (by omega:a+1<(L t).length),Cz (by omega) (by omega)];simp only [Aa,Xp];rw [Ab (by omega:a+1<(L t).length)];rfl
  rw [Ad (by omega:((a+2:Nat):Int)>((L t).length:Int)),Ae,A5 h2]
 rw [Af (by omega:¬((L t)[a].toNat:Int)>128),Ac,A5 h1];by_cases h2:a+1+(L t)[a].toNat<=(L t).length
 ·rw [Af (by omega:¬((a+1+(L t)[a].toNat:Nat):Int)>((L t).length:Int)),Ac,A3 h2,EY t (by omega) h2];rfl
 rw [Ad (by omega:((a+1+(L t)[a].toNat:Nat):Int)>((L t).length:Int)),Ae,A5 h2]
theorem XO (t:ByteArray) (b:List Bg) (a:Nat) (h:(L t).length<=a):Ci t b (a:Int)=some (.inr (.inl b)):=by
 unfold Ci;rw [BL,Af (by omega:¬(a:Int)<((L t).length:Int)),Ac]
theorem ADi (rem:ByteArray) (a:List Bg) (h:a.length+(L rem).length<=1048576):∃r,Aw (λq:ByteArray×List Bg=>DW q.1 q.2) (rem,a)=some r/\((∃l,r= .inl l/\l.length<=1048576/\∀t∈a,t∈l)\/r= .inr ([],false)):=by
 obtain⟨r,h1,_,h2⟩:=Rx (body:=λq:ByteArray×List Bg=>DW q.1 q.2) (body':=λq:ByteArray×List Bg=>DW q.1 q.2) (λq=>(L q.1).length) (λq=>q.2.length+(L q.1).length<=1048576/\∀t∈a,t∈q.2) (λr=>(∃l,r= .inl l/\l.length<=1048576/\∀t∈a,t∈l)\/r= .inr ([],false))
  (by
   rintro⟨rem,o⟩ ⟨hl,ho⟩;simp only at hl ho;simp only
   rcases GQ (L rem).length with h0|h0
   ·rw [XP rem o h0];exact .inr ⟨_,rfl,rfl,.inl ⟨o,rfl,by omega,ho⟩⟩
   rw [fS rem o h0 (by omega) (by omega)];split
   ·rename_i hc;refine .inl ⟨_,rfl,rfl,⟨?_,λt ht=>AG _ (ho t ht)⟩,?_⟩
    ·simp only [Ag,Aj,HG,AF,B8];omega
    simp only [HG,AF,B8];omega
   split
   ·rename_i hc;refine .inl ⟨_,rfl,rfl,⟨?_,λt ht=>AG _ (ho t ht)⟩,?_⟩
    ·simp only [Ag,Aj,HG,AF,B8];omega
    simp only [HG,AF,B8];omega
   exact .inr ⟨_,rfl,rfl,.inr rfl⟩) _ (rem,a) (A4 _) ⟨h,λt ht=>ht⟩
 exact⟨r,h1,h2⟩
theorem ADh (t:ByteArray) (b:List Bg) (a:Nat) (ha:a<=(L t).length) (h:b.length<=a) (hr:(L t).length<=1048576):∃r,Aw (λq:List Bg×Int=>Ci t q.1 q.2) (b,(a:Int))=some r/\((∃l,r= .inl l/\l.length<=1048576/\∀x∈b,x∈l)\/∃l,r= .inr (l,false)/\l.length<=1048576):=by
 obtain⟨r,h1,_,h2⟩:=Rx (body:=λq:List Bg×Int=>Ci t q.1 q.2) (body':=λq:List Bg×Int=>Ci t q.1 q.2) (λq=>(L t).length-q.2.toNat) (λq=>∃a:Nat,q.2=(a:Int)/\a<=(L t).length/\q.1.length<=a/\∀x∈b,x∈q.1) (λr=>(∃l,r= .inl l/\l.length<=1048576/\∀x∈b,x∈l)\/∃l,r= .inr (l,false)/\l.length<=1048576)
  (by
   rintro⟨o,at_⟩ ⟨a,ha,hl,hb,ho⟩;simp only at ha hb ho;subst ha;simp only
   rcases Dc a (L t).length with h0|h0
   ·rw [fR t o a h0 (by omega) hr];split
    ·split
     ·refine .inl ⟨_,rfl,rfl,⟨a+2,rfl,by omega,by simp only [Ag,Aj];omega,λt ht=>AG _ (ho t ht)⟩,by simp only;omega⟩
     exact .inr ⟨_,rfl,rfl,.inr ⟨o,rfl,by omega⟩⟩
    split
    ·refine .inl ⟨_,rfl,rfl,⟨_,rfl,by assumption,by simp only [Ag,Aj];omega,λt ht=>AG _ (ho t ht)⟩,by simp only;omega⟩
    exact .inr ⟨_,rfl,rfl,.inr ⟨o,rfl,by omega⟩⟩
   rw [XO t o a h0]
   exact .inr ⟨_,rfl,rfl,.inl ⟨o,rfl,by omega,ho⟩⟩) _ (b,(a:Int)) (A4 _) ⟨a,rfl,ha,h,λt ht=>ht⟩
 exact⟨r,h1,h2⟩
theorem ADg (t:ByteArray) (hr:(L t).length<=1048576):∀(n a:Nat) (rem:ByteArray) (d:List Bg),(L t).length-a<=n->a<=(L t).length->L rem=(L t).drop a->d.length<=a->
  ∃ri rs,Aw (λq:ByteArray×List Bg=>DW q.1 q.2) (rem,d)=some ri/\Aw (λq:List Bg×Int=>Ci t q.1 q.2) (d,(a:Int))=some rs/\
   ((∃l,ri= .inl l/\rs= .inl l/\l.length<=1048576)\/((ri= .inr ([],false)\/∃l,ri= .inl l/\l.length<=1048576/\∃x∈l,¬PB x)/\((∃l,rs= .inr (l,false)/\l.length<=1048576)\/∃l,rs= .inl l/\l.length<=1048576/\∃x∈l,¬PB x))):=by
 intro n
 induction n with
 |zero=>
  intro a rem d h1 h2 h3 h4;have ha:a=(L t).length:=by omega
  have g:(L rem).length=0:=by rw [h3,ha];simp
  refine⟨_,_,by rw [A8];simp only [XP rem d g],by rw [A8];simp only [XO t d a (by omega)],.inl ⟨d,rfl,rfl,by omega⟩⟩
 |succ n ih=>
  intro a rem d h1 h2 h3 h4
  rcases Dc a (L t).length with h0|h0
  ·have o:(L rem).length=(L t).length-a:=by rw [h3];simp
   have h:0<(L rem).length:=by omega
   have i:(L rem)[0]=(L t)[a]:=by simp only [h3];simp
   have j:(L rem)[1]?.getD 0=(L t)[a+1]?.getD 0:=by rw [h3,Cm]
   have c:=fS rem d h (by omega) (by omega);have b:=fR t d a h0 (by omega) hr
   have f:∀k,L (rem.extract k (L rem).length)=(L t).drop (a+k):=λk=>by
    rw [HG,h3,CL,Ba];simp only [B8];omega
   rw [i,j]at c
   rcases Nf (L t)[a].toNat 128 with hc|hc|hc
   ·rw [A5 (by omega)]at c;rw [A5 (by omega)]at b;by_cases hk:a+1+(L t)[a].toNat<=(L t).length
    ·rw [A3 (by omega)]at c;rw [A3 hk]at b;obtain⟨ri,rs,q1,q2,q3⟩:=ih (a+1+(L t)[a].toNat) (rem.extract (1+(L t)[a].toNat) (L rem).length) (d++ [Bg.mk 0 0 (t.extract (a+1) (a+1+(L t)[a].toNat))]) (by omega) hk (by rw [f,FI]) (by simp only [Ag,Aj];omega);have etx:rem.extract 1 (1+(L t)[a].toNat)=t.extract (a+1) (a+1+(L t)[a].toNat):=by
      apply Ii;rw [HG,HG,h3,CL];congr 1;omega
     refine⟨ri,rs,?_,?_,q3⟩
     ·rw [A8];simp only [c];rw [etx];exact q1
     rw [A8];simp only [b];exact q2
    rw [A5 (by omega)]at c;rw [A5 hk]at b;exact⟨_,_,by rw [A8];simp only [c],by rw [A8];simp only [b],.inr ⟨.inl rfl,.inl ⟨d,rfl,by omega⟩⟩⟩
   ·
    have hI:∃ri,Aw (λq:ByteArray×List Bg=>DW q.1 q.2) (rem,d)=some ri/\(ri= .inr ([],false)\/∃l,ri= .inl l/\l.length<=1048576/\∃x∈l,¬PB x):=by
     by_cases hk:2<=(L rem).length
     ·rw [A3 ⟨by omega,hk⟩]at c;obtain⟨r,q1,q2⟩:=ADi (rem.extract 2 (L rem).length) (d++ [Bg.mk (((L t)[a+1]?.getD 0).toNat:Int) (((L t)[a].toNat:Int)-128) (bs [])]) (by rw [f];simp only [Ag,Aj,B8];omega);refine⟨r,by rw [A8];simp only [c];exact q1,?_⟩
      rcases q2 with⟨l,rfl,q3,q4⟩|rfl
      ·refine .inr ⟨l,rfl,q3,_,q4 _ (AL _ (Az.2 rfl)),?_⟩;intro hk
       rcases hk with⟨_,_,k3,_⟩|⟨_,k2,_⟩
       ·simp only [DV,Bn]at k3;omega
       simp only at k2;omega
      exact .inl rfl
     rw [A5 (λe=>hk e.2),A5 (by omega)]at c;exact⟨_,by rw [A8];simp only [c],.inl rfl⟩
    have hS:∃rs,Aw (λq:List Bg×Int=>Ci t q.1 q.2) (d,(a:Int))=some rs/\((∃l,rs= .inr (l,false)/\l.length<=1048576)\/∃l,rs= .inl l/\l.length<=1048576/\∃x∈l,¬PB x):=by
     rw [A5 (by omega)]at b;by_cases hk:a+1+(L t)[a].toNat<=(L t).length
     ·rw [A3 hk]at b;obtain⟨r,q1,q2⟩:=ADh t (d++ [Bg.mk 0 0 (t.extract (a+1) (a+1+(L t)[a].toNat))]) (a+1+(L t)[a].toNat) hk (by simp only [Ag,Aj];omega) hr;refine⟨r,by rw [A8];simp only [b];exact q1,?_⟩
      rcases q2 with⟨l,rfl,q3,q4⟩|⟨l,rfl,q3⟩
      ·refine .inr ⟨l,rfl,q3,_,q4 _ (AL _ (Az.2 rfl)),?_⟩;intro m
       rcases m with⟨_,_,_,k4⟩|⟨k1,_⟩
       ·simp only [HG,AF,B8]at k4;omega
       exact k1 rfl
      exact .inl ⟨l,rfl,q3⟩
     rw [A5 hk]at b;exact⟨_,by rw [A8];simp only [b],.inl ⟨d,rfl,by omega⟩⟩
    obtain⟨ri,q1,q2⟩:=hI;obtain⟨rs,q3,q4⟩:=hS;exact⟨ri,rs,q1,q3,.inr ⟨q2,q4⟩⟩
   rw [A3 hc]at b;by_cases hk:a+2<=(L t).length
   ·rw [A3 ⟨by omega,by omega⟩]at c;rw [A3 hk]at b;obtain⟨ri,rs,q1,q2,q3⟩:=ih (a+2) (rem.extract 2 (L rem).length) (d++ [Bg.mk (((L t)[a+1]?.getD 0).toNat:Int) (((L t)[a].toNat:Int)-128) (bs [])]) (by omega) hk (f 2) (by simp only [Ag,Aj];omega);exact⟨ri,rs,by rw [A8];simp only [c];exact q1,by rw [A8];simp only [b];exact q2,q3⟩
   rw [A5 (by omega),A5 (by omega)]at c;rw [A5 hk]at b;exact⟨_,_,by rw [A8];simp only [c],by rw [A8];simp only [b],.inr ⟨.inl rfl,.inl ⟨d,rfl,by omega⟩⟩⟩
  have ha:a=(L t).length:=by omega
  have g:(L rem).length=0:=by rw [h3,ha];simp
  refine⟨_,_,by rw [A8];simp only [XP rem d g],by rw [A8];simp only [XO t d a (by omega)],.inl ⟨d,rfl,rfl,by omega⟩⟩
theorem ADQ (t:ByteArray) (hr:(L t).length<=1048576):∃li oi ls os pi ki ps ks,SB t=some (li,oi)/\Jt t=some (ls,os)/\R3 li=some (pi,ki)/\Ga ls=some (ps,ks)/\((oi=os/\pi=ps/\ki=ks)\/((oi=false\/ki=false)/\(os=false\/ks=false))):=by
 obtain⟨ri,rs,q1,q2,q3⟩:=ADg t hr ((L t).length) 0 t [] (by omega) (by omega) (by simp) (by simp);have e0:(([]:List Bg),((0:Nat):Int))=([],0):=rfl;simp only [e0]at q2;unfold SB Jt;rw [q1,q2,qJ];have none:∀l:List Bg,l.length<=1048576->(∃x∈l,¬PB x)->∃p,Ga l=some (p,false):=by
  rintro l hl ⟨x,hx,hn⟩;obtain⟨p,ok,h1,h2⟩:=P8 l hl
  cases ok with
  |false=>exact⟨p,h1⟩
  |true=>exact absurd (h2 rfl x hx) hn
 rcases q3 with⟨l,rfl,rfl,hl⟩|⟨hi,hs⟩
 ·obtain⟨p,ok,h1,_⟩:=P8 l hl;exact⟨l,true,l,true,p,ok,p,ok,rfl,rfl,h1,h1,.inl ⟨rfl,rfl,rfl⟩⟩
 have hI:∃li oi pi ki,(some ri).bind (Sum.elim (λv1=>(some (v1,true))) some)=some (li,oi)/\Ga li=some (pi,ki)/\(oi=false\/ki=false):=by
  rcases hi with rfl|⟨l,rfl,hl,hb⟩
  ·obtain⟨p,ok,h1,_⟩:=P8 [] (by simp);exact⟨[],false,p,ok,rfl,h1,.inl rfl⟩
  obtain⟨p,h1⟩:=none l hl hb;exact⟨l,true,p,false,rfl,h1,.inr rfl⟩
 have hS:∃li oi pi ki,(some rs).bind (Sum.elim (λv1=>(some (v1,true))) some)=some (li,oi)/\Ga li=some (pi,ki)/\(oi=false\/ki=false):=by
  rcases hs with⟨l,rfl,hl⟩|⟨l,rfl,hl,hb⟩
  ·obtain⟨p,ok,h1,_⟩:=P8 l hl;exact⟨l,false,p,ok,rfl,h1,.inl rfl⟩
  obtain⟨p,h1⟩:=none l hl hb;exact⟨l,true,p,false,rfl,h1,.inr rfl⟩
 obtain⟨li,oi,pi,ki,a1,a2,a3⟩:=hI;obtain⟨ls,os,ps,ks,b1,b2,b3⟩:=hS;exact⟨li,oi,ls,os,pi,ki,ps,ks,a1,b1,a2,b2,.inr ⟨a3,b3⟩⟩
theorem fE (t:ByteArray) (hr:(L t).length<=1048576):∃u ok,Gh t=some (u,ok)/\TX t=some (u,ok)/\(ok=false->u=bs [])/\(ok=true->(L u).length<=64):=by
 unfold Gh TX;rw [BL,Qp,DV];by_cases h0:L t=[]
 ·rw [h0];exact⟨_,false,rfl,rfl,by simp,by simp⟩
 have a:0<(L t).length:=by
  rcases GQ (L t).length with h|h
  ·exact absurd (AB h) h0
  exact h
 have e1:(((L t).length:Int)==0)=false:=by simp;exact h0
 rw [e1,Af h0,Ac,Ac];have s1:sub t 1 ((L t).length:Int)=some (t.extract 1 (L t).length):=EY t (i:=1) (by omega) (A4 _);have s0:sx t 0=some ((L t)[0].toNat:Int):=EX t (i:=0) a;rw [s1,s0];simp only [Aa];generalize hx:t.extract 1 (L t).length=x;have b:(L x).length<=1048576:=by rw [<-hx,HG];simp;omega
 obtain⟨li,oi,ls,os,pi,ki,ps,ks,a1,a2,a3,a4,a5⟩:=ADQ x b;rw [a1,a2];simp only [Aa];rw [a3,a4];simp only [Aa];have back:∀j:ByteArray,∃u ok,((ES j).bind λv3=>(bif(!v3.2)then(some true)else(some (!(seq v3.1 t))):Option (Bool)).bind λj2=>bif j2 then(some ((bs []),false))else(some (j,true)):Option (ByteArray×Bool))=some (u,ok)/\
   ((Pr j).bind λv3=>(bif(!v3.2)then(some true)else(some (!(seq v3.1 t))):Option (Bool)).bind λj2=>bif j2 then(some ((bs []),false))else(some (j,true)):Option (ByteArray×Bool))=some (u,ok)/\(ok=false->u=bs [])/\(ok=true->(L u).length<=64/\((L t)[0].toNat=122\/(L t)[0].toNat=114)):=by
  intro j;obtain⟨z,ok,p1,p2,p3,p4⟩:=wV j;rw [p1,p2];simp only [Aa]
  cases ok with
  |false=>exact⟨_,false,rfl,rfl,by simp,by simp⟩
  |true=>
   simp only [Al,Ac,Aa]
   cases hz:seq z t with
   |false=>exact⟨_,false,rfl,rfl,by simp,by simp⟩
   |true=>
    have c:z=t:=by rw [Jc,A9]at hz;exact hz
    obtain⟨p5,p6⟩:=p4 rfl;refine⟨_,true,rfl,rfl,by simp,λ_=>⟨p5,?_⟩⟩;rw [c,Ab a]at p6
    rcases p6 with p6|p6
    ·injection p6 with p6;left;rw [p6];rfl
    injection p6 with p6;right;rw [p6];rfl
 by_cases h122:(L t)[0].toNat=122
 ·have c1:((((L t)[0].toNat:Nat):Int)==122)=true:=by simp [h122]
  have c2:((((L t)[0].toNat:Nat):Int) !=114)=true:=by simp [h122]
  rw [c1,c2];simp only [Ae]
  rcases a5 with⟨rfl,rfl,rfl⟩|⟨hi,hs⟩
  ·cases oi with
   |false=>exact⟨_,false,rfl,rfl,by simp,by simp⟩
   |true=>
    cases ki with
    |false=>exact⟨_,false,rfl,rfl,by simp,by simp⟩
    |true=>
     simp only [Al,Ac,Aa,BM];obtain⟨u,ok,b1,b2,b3,b4⟩:=back pi;exact⟨u,ok,b1,b2,b3,λh=>(b4 h).1⟩
  refine⟨bs [],false,?_,?_,by simp,by simp⟩
  ·rcases hs with rfl|rfl
   ·rfl
   cases os<;>rfl
  rcases hi with rfl|rfl
  ·rfl
  cases oi<;>rfl
 have c1:((((L t)[0].toNat:Nat):Int)==122)=false:=by simp;omega
 rw [c1];simp only [Ac,Aa,BM];by_cases h114:(L t)[0].toNat=114
 ·have c2:((((L t)[0].toNat:Nat):Int) !=114)=false:=by simp [h114]
  rw [c2];simp only [Ac,Aa,BM];obtain⟨u,ok,b1,b2,b3,b4⟩:=back x;exact⟨u,ok,b1,b2,b3,λh=>(b4 h).1⟩
 have c2:((((L t)[0].toNat:Nat):Int) !=114)=true:=by simp;omega
 rw [c2];simp only [Ae];have nope:∀(j u:ByteArray) (ok:Bool),(ok=true->(L u).length<=64/\((L t)[0].toNat=122\/(L t)[0].toNat=114))->ok=false:=by
  intro j u ok d
  cases ok with
  |false=>rfl
  |true=>rcases(d rfl).2 with h|h<;>omega
 obtain⟨u,ok,b1,b2,b3,b4⟩:=back x;have k1:=nope x u ok b4;subst k1;have k2:=b3 rfl;subst k2;refine⟨bs [],false,b1,?_,by simp,by simp⟩
 cases oi with
 |false=>rfl
 |true=>
  cases ki with
  |false=>rfl
  |true=>
   simp only [Al,Ac,Aa,BM];obtain⟨u,ok,d1,d2,d3,d4⟩:=back pi;have k1:=nope pi u ok d4;subst k1;have k2:=d3 rfl;subst k2;exact d2
def qU (x:Cc):Nat:=x.Kids.length
def ADc (x:Arena):Nat:=zl qU x.Knots
def UD (x:Store):Nat:=x.Vols.length+ADc x.Arena
def Xo (x:AH):Nat:=Mw x.Flash+UD x.Store
def Ol (x:Leaf):Nat:=bif x.Is==0 then 1 else 0
theorem AEL (l:List Leaf):(l.map Ol).sum<=l.length:=by
 induction l with
 |nil=>simp
 |cons x l ih=>
  have:Ol x<=1:=by unfold Ol;cases x.Is==0<;>simp
  simp only [BF,FJ,Ay];omega
theorem V7 (b:Block) (h:b.Leaves.length<=1048576):HY b=some ((b.Leaves.map Ol).sum:Int):=by
 unfold HY;obtain⟨v,h1,rfl⟩:=Bk (body:=λs:Int×Int=>GY b s.1 s.2) (λ(s:Int) i=>(s,i)) b.Leaves.length (λk s=>s=(((b.Leaves.take k).map Ol).sum:Nat)) (λv=>v=((b.Leaves.map Ol).sum:Nat))
  (λs k hk hs=>by
   have hx:b.Leaves[k]?=some b.Leaves[k]:=Ab hk;have e:=Qe Ol b.Leaves k hk;have e2:=Nk Ol b.Leaves (k+1);have e3:=AEL b.Leaves;refine .inl ?_;simp only [GY,AE,Ad hk,Ae,AC,hx,Aa];have e4:Ol b.Leaves[k]=bif b.Leaves[k].Is==0 then 1 else 0:=rfl
   cases hb:b.Leaves[k].Is==0 with
   |true=>
    rw [hb]at e4;simp only [Ae]at e4⊢;rw [ad1 (by omega),CA (by omega) (by omega)];exact⟨_,rfl,by omega⟩
   |false=>
    rw [hb]at e4;simp only [Ac]at e4⊢;rw [ad1 (by omega)]
    exact⟨_,rfl,by omega⟩)
  (λs hs=>⟨s,by simp only [GY,AE,Aq,Av,Ac],by rw [AR]at hs;exact hs⟩) (s:=0) (by simp)
 rw [h1];rfl
theorem AC1 (f:Flash) (hf:L0 f) (hn:nl f.Blocks<=1048576):∃v:Int,MF f=some v/\vB f=some v/\0<=v/\v<=nl f.Blocks:=by
 unfold MF vB;obtain⟨v,h1,h2,h3⟩:=QF (body:=λs:Int×Int=>Lj f s.1 s.2) (body':=λs:Int×Int=>N1 f s.1 s.2) (λ(s:Int) i=>(s,i)) (λ(s:Int) i=>(s,i)) f.Blocks.length (λi n=>0<=n/\n<=(((f.Blocks.take i).map λb=>b.Leaves.length).sum:Nat)) (λv=>0<=v/\v<=nl f.Blocks)
  (λn i hi hs=>by
   have hb:f.Blocks[i]?=some f.Blocks[i]:=Ab hi;have hm:f.Blocks[i]∈f.Blocks:=AD _;have d:=Qe (λb:Block=>b.Leaves.length) f.Blocks i hi;have g:=Nk (λb:Block=>b.Leaves.length) f.Blocks (i+1);unfold nl at hn;have h:=hf.1;have c:=hf.2 _ hm;have j:=AEL f.Blocks[i].Leaves;refine .inl ?_;simp only [Lj,N1,AE,Ad hi,Ae,AC,hb,Aa,V7 _ c];obtain⟨u,q1,rfl⟩:=Bk (body:=λs:Int×Int=>Li f (i:Int) s.1 s.2) (λ(s:Int) i=>(s,i)) f.Blocks[i].Leaves.length (λk s=>s=n+(bif f.Blocks[i].Bad then 0 else((f.Blocks[i].Leaves.take k).map Ol).sum:Nat)) (λv=>v=n+(bif f.Blocks[i].Bad then 0 else(f.Blocks[i].Leaves.map Ol).sum:Nat))
    (λs k hk hs=>by
     have hx:f.Blocks[i].Leaves[k]?=some f.Blocks[i].Leaves[k]:=Ab hk;have e:=Qe Ol f.Blocks[i].Leaves k hk;have e2:=Nk Ol f.Blocks[i].Leaves (k+1);refine .inl ?_;simp only [Li,AC,hb,Aa,AE,Ad hk,Ae,hx]
     cases a:f.Blocks[i].Bad with
     |true=>
      rw [a]at hs;simp only [Al,Ac,Ae]at hs⊢;rw [ad1 (by omega)];exact⟨_,rfl,hs⟩
     |false=>
      rw [a]at hs;simp only [AJ,Ac,Ae]at hs⊢;have e4:Ol f.Blocks[i].Leaves[k]=bif f.Blocks[i].Leaves[k].Is==0 then 1 else 0:=rfl
      cases hb:f.Blocks[i].Leaves[k].Is==0 with
      |true=>
       rw [hb]at e4;simp only [Ae]at e4⊢;rw [ad1 (by omega),CA (by omega) (by omega)];exact⟨_,rfl,by omega⟩
      |false=>
       rw [hb]at e4;simp only [Ac]at e4⊢;rw [ad1 (by omega)]
       exact⟨_,rfl,by omega⟩)
    (λs hs=>⟨s,by simp only [Li,AC,hb,Aa,AE,Aq,Av,Ac],by rw [AR]at hs;exact hs⟩) (s:=n) (by cases f.Blocks[i].Bad<;>simp)
   rw [q1];simp only [Aa]
   cases f.Blocks[i].Bad with
   |true=>
    simp only [Ae,Al,Ac];rw [ad1 (by omega)];exact⟨_,rfl,by simp,by omega,by omega⟩
   |false=>
    simp only [Ae,AJ,Ac];rw [ad1 (by omega),CA (by omega) (by omega)]
    exact⟨_,rfl,rfl,by omega,by omega⟩)
  (λn hs=>by
   rw [AR]at hs
   exact⟨n,by simp only [Lj,AE,Aq,Av,Ac],by simp only [N1,AE,Aq,Av,Ac],hs⟩) (s:=0) (by simp)
 rw [h1,h2];exact⟨v,rfl,rfl,h3⟩
def Us (a:Arena):Prop:=a.Knots.length<=1048576
theorem uP (x a b:Int):BY x a b=some (decide (a<=x/\x<=b)):=by
 rw [PG];congr 1;rw [DP];simp
theorem qS (a:Arena):R5 a=GF a:=by
 unfold R5 GF;have hb:Mh a=El a:=by
  funext y;unfold Mh El
  cases decide (y<ln a.Knots)with
  |false=>rfl
  |true=>
   simp only [Ae]
   cases gi a.Knots y with
   |none=>rfl
   |some k=>
    simp only [Aa]
    cases h:(ln k.Kids !=4)with
    |true=>rfl
    |false=>
     simp only [Ac];have h4:ln k.Kids=4:=by simpa using h
     have:(λs:Int=>Mg a y k s)=λs:Int=>Ek a y k s:=by
      funext s;unfold Mg Ek;rw [h4,ZR]
     rw [this]
 rw [hb]
def QG (a:Arena) (i:Nat) (k:Cc) (n:Int):Prop:=if k.Leaf=true then 0<=n else n= -1\/(0<=n/\n<i/\∃k',gi a.Knots n=some k'/\k'.Leaf=true)
theorem ABb (a:Arena) (ha:Us a):∃v,GF a=some v/\(v=true->∀(i:Nat) k,a.Knots[i]?=some k->k.Kids.length=4/\∀n∈k.Kids,QG a i k n):=by
 unfold Us at ha;unfold GF;obtain⟨r,h1,h2⟩:=Bk (body:=λs:Int=>El a s) (λ(_:Unit) i=>i) a.Knots.length (λi _=>∀(j:Nat) k,j<i->a.Knots[j]?=some k->k.Kids.length=4/\∀n∈k.Kids,QG a j k n) (λr=>r= .inr false\/r= .inl ()/\∀(i:Nat) k,a.Knots[i]?=some k->k.Kids.length=4/\∀n∈k.Kids,QG a i k n)
  (λ_ i hi hs=>by
   obtain⟨k,hk⟩:∃k,a.Knots[i]?=some k:=⟨_,Ab hi⟩;simp only [El,AE,Ad hi,Ae,AC,hk,Aa];by_cases h4:k.Kids.length=4
   ·have e1:(ln k.Kids !=4)=false:=by simp [ln,h4]
    simp only [e1,Ac];obtain⟨r,q1,q2⟩:=Bk (body:=λs:Int=>Ek a (i:Int) k s) (λ(_:Unit) j=>j) 4 (λj _=>∀(m:Nat) n,m<j->k.Kids[m]?=some n->QG a i k n) (λr=>r= .inr (.inr (.inr false))\/r= .inl ()/\∀n∈k.Kids,QG a i k n)
     (λ_ j hj d=>by
      obtain⟨n,hn⟩:∃n,k.Kids[j]?=some n:=⟨_,Ab (by omega)⟩;simp only [Ek];rw [Ad (by omega:(j:Int)<4),Ae,AC,hn];simp only [Aa]
      have good:QG a i k n->(∃s':Unit,(bif false then(some (.inr (.inr (.inr (.inr false)))))else(some (.inl (ad (j:Int) 1))):Option ((Int)⊕((Unit)⊕((Int)⊕((Unit)⊕(Bool))))))=some (.inl ((j+1:Nat):Int))/\∀(m:Nat) n,m<j+1->k.Kids[m]?=some n->QG a i k n):=λf=>by
       refine⟨(),by rw [Ac,ad1 (by omega)],λm n' hm b=>?_⟩;by_cases e:m=j
       ·subst e;rw [hn]at b
        injection b with b
        rw [<-b];exact f
       exact d m n' (by omega) b
      cases hl:k.Leaf with
      |true=>
       simp only [Ae,Al,Ac];by_cases h0:n<0
       ·rw [Ad h0,Ae];exact .inr ⟨_,rfl,.inl rfl⟩
       rw [Af h0,Ac];simp only [Aa];exact .inl (good (by unfold QG;rw [A3 hl];omega))
      |false=>
       simp only [Ac,AJ,Ae];by_cases h1:n= -1
       ·have:(n != -1)=false:=by simp [h1]
        rw [this];simp only [Ac,Aa];exact .inl (good (by unfold QG;rw [A5 (by rw [hl];simp)];exact .inl h1))
       have:(n != -1)=true:=by simp [h1]
       rw [this];simp only [Ae];rw [Cz (by omega) (by omega),uP];simp only [Aa];by_cases h2:0<=n/\n<=(i:Int)-1
       ·rw [Ad h2];simp only [Al,Ac];rw [Kr h2.1 (by omega)];simp only [Aa]
        cases g:(a.Knots[n.toNat]'(by omega)).Leaf with
        |true=>
         simp only [Al];refine .inl (good ?_);unfold QG;rw [A5 (by rw [hl];simp)];exact .inr ⟨h2.1,by omega,_,Kr h2.1 (by omega),g⟩
        |false=>
         simp only [AJ,Ae];exact .inr ⟨_,rfl,.inl rfl⟩
       rw [Af h2];simp only [AJ,Ae,Aa]
       exact .inr ⟨_,rfl,.inl rfl⟩)
     (λ_ d=>⟨_,by simp only [Ek];rw [Af (by omega:¬((4:Nat):Int)<4),Ac],.inr ⟨rfl,λn hn=>by
      obtain⟨m,hm,rfl⟩:=AI hn
      exact d m _ (by omega) (Ab hm)⟩⟩) (s:=()) (λm n hm=>by omega)
    have q1':Aw (λs:Int=>Ek a (i:Int) k s) 0=some r:=q1;rw [q1']
    rcases q2 with rfl|⟨rfl,q2⟩
    ·exact .inr ⟨_,rfl,.inl rfl⟩
    simp only [Aa,BM];rw [ad1 (by omega)];refine .inl ⟨(),rfl,λj k' hj c=>?_⟩;by_cases e:j=i
    ·subst e;rw [hk]at c
     injection c with c
     rw [<-c];exact⟨h4,q2⟩
    exact hs j k' (by omega) c
   have e1:(ln k.Kids !=4)=true:=by simp [ln];omega
   simp only [e1,Ae]
   exact .inr ⟨_,rfl,.inl rfl⟩)
  (λ_ hs=>⟨_,by simp only [El,AE,Aq,Av,Ac],.inr ⟨rfl,λi k hk=>hs i k (Ai.1 hk).1 hk⟩⟩) (s:=()) (λj k hj=>by omega)
 have h1':Aw (λs:Int=>El a s) 0=some r:=h1;rw [h1']
 rcases h2 with rfl|⟨rfl,h2⟩
 ·exact⟨_,rfl,by simp⟩
 exact⟨_,rfl,λ_=>h2⟩
theorem AEZ (a:Arena) (ha:Us a) (root:Int) (s:Nat) (hs:s<16):∃v,ON a root (s:Int)=some v/\X4 a root (s:Int)=some v:=by
 have f:a.Knots.length<=1048576:=ha;obtain⟨ok,h1,h2⟩:=ABb a ha;unfold ON X4;rw [qS,h1,ZR];simp only [Aa,uP];rw [Ad (by omega:(0:Int)<=(s:Int)/\(s:Int)<=15)];simp only [Al,Ac,Aa];have d:∃b,TR a root=some b/\Hu a root=some (b||root== -1)/\(b=true->0<=root/\∃k,gi a.Knots root=some k/\k.Leaf=false):=by
  unfold TR Hu;rw [ZR,Cz (by rw [Cf];omega) (by rw [Cf];omega),Cf,uP];simp only [Aa];by_cases hr:0<=root/\root<=(a.Knots.length:Int)-1
  ·have e1:(root== -1)=false:=by simp;omega
   rw [Ad hr,e1];simp only [Ae,Ac,O1];rw [Kr hr.1 (by omega)];exact⟨_,rfl,rfl,λhb=>⟨hr.1,_,rfl,by simpa using hb⟩⟩
  rw [Af hr];simp only [Ac];refine⟨false,rfl,?_,by simp⟩;cases root== -1<;>rfl
 obtain⟨b,r1,r2,r3⟩:=d;rw [r1,r2];simp only [Aa]
 cases ok with
 |false=>
  simp only [AJ,Ae,Aa];cases b<;>exact⟨0,rfl,rfl⟩
 |true=>
  simp only [Al,Ac]
  cases b with
  |false=>
   simp only [U8,AJ,Ae,Aa]
   cases hm:(root== -1)with
   |false=>exact⟨0,rfl,rfl⟩
   |true=>
    have hr:root= -1:=by simpa using hm
    simp only [Al,Ac,Aa,MD,hr];rw [Ad (by omega:(-1:Int)<0)];exact⟨0,rfl,rfl⟩
  |true=>
   obtain⟨hr,k,hk,hl⟩:=r3 rfl;simp only [Bool.true_or,Al,Ac,Aa,MD,SE,hk];rw [Af (by omega:¬root<0),Ac];obtain⟨g1,g2⟩:=C6 hk;obtain⟨k4,kk⟩:=h2 rfl root.toNat k g2;have eq4:qu (s:Int) 4=((s/4:Nat):Int):=by
    unfold qu;rw [show Int.tdiv (s:Int) 4=((s/4:Nat):Int)from rfl,ND (by omega) (by omega)]
   have em:Int.tmod (s:Int) 4=((s %4:Nat):Int):=rfl;rw [eq4,em,Kr (by omega) (by omega)];simp only [Aa,B6];have e:k.Kids[s/4]'(by omega)∈k.Kids:=AD _;have c:=kk _ e;unfold QG at c;rw [A5 (by rw [hl];simp)]at c
   rcases c with c|⟨c1,c2,k',c3,c4⟩
   ·rw [c,Ad (by omega:(-1:Int)<0)];exact⟨0,rfl,rfl⟩
   rw [Af (by omega),Ac,c3];simp only [Aa];obtain⟨g3,g4⟩:=C6 c3;obtain⟨k4',_⟩:=h2 rfl _ k' g4;rw [Kr (by omega) (by omega)];exact⟨_,rfl,rfl⟩
theorem UB (a:Arena) (ha:Us a) (root:Int):∃l,Jb a root=some l/\Ue a root=some l/\l.length=16:=by
 unfold Jb Ue;obtain⟨l,h1,h2,h3⟩:=QF (body:=λs:List Int×Int=>Hf a root s.1 s.2) (body':=λs:List Int×Int=>MV a root s.1 s.2) (λ(o:List Int) i=>(o,i)) (λ(o:List Int) i=>(o,i)) 16 (λi o=>o.length=i) (λo=>o.length=16)
  (λo i hi ho=>by
   obtain⟨v,g1,g2⟩:=AEZ a ha root i hi;simp only [Hf,MV];rw [Ad (by omega:(i:Int)<16),Ae,Ae,g1,g2];simp only [Aa];rw [C3 (by simp only [Aj];omega),ad1 (by omega)]
   exact .inl ⟨_,rfl,rfl,by simp only [Ag,Aj];omega⟩)
  (λo ho=>⟨o,by simp only [Hf];rw [Af (by omega:¬((16:Nat):Int)<16),Ac],by simp only [MV];rw [Af (by omega:¬((16:Nat):Int)<16),Ac],ho⟩) (s:=[]) rfl
 rw [h1,h2];exact⟨l,rfl,rfl,h3⟩
def NN:As:=As.mk 0 0 (Page.mk 0 0 0 0 0 (bs []))
def I3 (c:Int) (y:As):Bool:=y.Page.Kind==1&&y.Page.Tx==c
def KH (r:List As) (o:Option Nat):As:=match o with
 |some j=>r[j]?.getD NN
 |none=>NN
def PE (c:Int) (r:List As) (n:Nat) (o:Option Nat):Prop:=match o with
 |none=>∀(k:Nat) y,k<n->r[k]?=some y->I3 c y=false
 |some j=>j<n/\(∃y,r[j]?=some y/\I3 c y=true)/\∀(k:Nat) y,j<k->k<n->r[k]?=some y->I3 c y=false
theorem iC {o o':Option Nat} (h:PE c r r.length o) (h':PE c r r.length o'):o=o':=by
 cases o with
 |none=>
  cases o' with
  |none=>rfl
  |some j=>
   obtain⟨h1,⟨y,h2,h3⟩,_⟩:=h';rw [h j y h1 h2]at h3;cases h3
 |some j=>
  obtain⟨h1,⟨y,h2,h3⟩,h4⟩:=h
  cases o' with
  |none=>
   rw [h' j y h1 h2]at h3;cases h3
  |some i=>
   obtain⟨k1,⟨z,k2,k3⟩,k4⟩:=h'
   rcases Nf i j with e|e|e
   ·rw [k4 j y e h1 h2]at h3;cases h3
   ·rw [e]
   rw [h4 i z e k1 k2]at k3;cases k3
theorem ACy (r:List As) (hr:r.length<=1048576) (c:Int):∃o,Ld r c=some (KH r o,o.isSome)/\PE c r r.length o:=by
 unfold Ld;rw [Cz (by rw [Cf];omega) (by rw [Cf];omega),Cf];obtain⟨b,h1,h2⟩:=Bk (body:=λs:Int=>HM r c s) (λ(_:Unit) i=>(r.length:Int)-1-i) r.length (λi _=>∀(k:Nat) y,r.length-i<=k->k<r.length->r[k]?=some y->I3 c y=false) (λb=>(b= .inl ()/\PE c r r.length none)\/∃j,b= .inr (KH r (some j),true)/\PE c r r.length (some j))
  (λ_ i hi hs=>by
   have e1:((r.length:Int)-1-(i:Int))=((r.length-1-i:Nat):Int):=by omega
   have a:r.length-1-i<r.length:=by omega
   have hg:r[r.length-1-i]?=some r[r.length-1-i]:=Ab a;simp only [HM,e1];rw [Ad (by omega:((r.length-1-i:Nat):Int)>=0),Ae];simp only [AC,hg,Aa]
   have next:I3 c r[r.length-1-i]=false->∃s':Unit,(some (.inl (sb ((r.length-1-i:Nat):Int) 1)):Option ((Int)⊕((Unit)⊕((As×Bool)))))=some (.inl ((r.length:Int)-1-((i+1:Nat):Int)))/\∀(k:Nat) y,r.length-(i+1)<=k->k<r.length->r[k]?=some y->I3 c y=false:=λd=>by
    refine⟨(),by rw [Cz (by omega) (by omega)];congr 2;omega,λk y h1 h2 h3=>?_⟩;by_cases e:k=r.length-1-i
    ·subst e;rw [hg]at h3
     injection h3 with h3
     rw [<-h3];exact d
    exact hs k y (by omega) h2 h3
   cases hk:r[r.length-1-i].Page.Kind==1 with
   |false=>
    simp only [Ac,Aa];exact .inl (next (by unfold I3;rw [hk];rfl))
   |true=>
    simp only [Ae,Aa]
    cases ht:r[r.length-1-i].Page.Tx==c with
    |false=>
     simp only [Ac];exact .inl (next (by unfold I3;rw [ht,fK]))
    |true=>
     simp only [Ae];refine .inr ⟨_,rfl,.inr ⟨r.length-1-i,?_,a,⟨_,hg,by unfold I3;rw [hk,ht];rfl⟩,λk y h1 h2 h3=>hs k y (by omega) h2 h3⟩⟩
     simp only [KH,hg,Be])
  (λ_ hs=>⟨_,by simp only [HM];rw [Af (by omega),Ac],.inl ⟨rfl,λk y h1 h2=>hs k y (by omega) h1 h2⟩⟩) (s:=()) (λk y h1 h2=>by omega)
 have e0:((r.length:Int)-1-0)=(r.length:Int)-1:=by omega
 rw [e0]at h1;rw [h1]
 rcases h2 with⟨rfl,h2⟩|⟨j,rfl,h2⟩
 ·exact⟨none,rfl,h2⟩
 exact⟨some j,rfl,h2⟩
theorem AFi {x:As} (h:srt BO r) (a:j<i) (hx:r[j]?=some x) (hy:r[i]?=some y):x.Page.Seq<=y.Page.Seq:=by
 unfold srt at h;obtain⟨h1,h2⟩:=Ai.1 hx;obtain⟨h3,h4⟩:=Ai.1 hy;rw [<-h2,<-h4];exact Ds.1 h j i h1 h3 a
theorem iM (f:Flash) (r:List As) (l:H1 f=some r) (hr:r.length<=1048576) (m:srt BO r) (c:Int):∃o,TU f c=some (KH r o,o.isSome)/\PE c r r.length o:=by
 unfold TU;rw [l];simp only [Aa];obtain⟨b,h1,o,rfl,h2⟩:=Bk (body:=λs:Bool×Int×Int×Int×Int×Int×Int×Int×Int×ByteArray=>J9 c r s.1 s.2.1 s.2.2.1 s.2.2.2.1 s.2.2.2.2.1 s.2.2.2.2.2.1 s.2.2.2.2.2.2.1 s.2.2.2.2.2.2.2.1 s.2.2.2.2.2.2.2.2.1 s.2.2.2.2.2.2.2.2.2)
  (λ(o:Option Nat) i=>(o.isSome,i,(KH r o).Block,(KH r o).Leaf,(KH r o).Page.Kind,(KH r o).Page.Seq,(KH r o).Page.Tx,(KH r o).Page.Part,(KH r o).Page.Count,(KH r o).Page.Text)) r.length (λi o=>PE c r i o)
  (λb=>∃o,b=(o.isSome,(KH r o).Block,(KH r o).Leaf,(KH r o).Page.Kind,(KH r o).Page.Seq,(KH r o).Page.Tx,(KH r o).Page.Part,(KH r o).Page.Count,(KH r o).Page.Text)/\PE c r r.length o)
  (λo i hi ho=>by
   have hg:r[i]?=some r[i]:=Ab hi;refine .inl ?_;simp only [J9,AE,Ad hi,Ae,AC,hg,Aa]
   have keep:I3 c r[i]=false->PE c r (i+1) o:=λd=>by
    cases o with
    |none=>
     intro k y h1 h2;by_cases e:k=i
     ·subst e;rw [hg]at h2;injection h2 with h2;rw [<-h2];exact d
     exact ho k y (by omega) h2
    |some j=>
     obtain⟨h1,h2,h3⟩:=ho;refine⟨by omega,h2,λk y h4 h5 h6=>?_⟩;by_cases e:k=i
     ·subst e;rw [hg]at h6;injection h6 with h6;rw [<-h6];exact d
     exact h3 k y h4 (by omega) h6
   cases hk:r[i].Page.Kind==1 with
   |false=>
    simp only [Ac,Aa];rw [ad1 (by omega)];exact⟨o,rfl,keep (by unfold I3;rw [hk];rfl)⟩
   |true=>
    simp only [Ae]
    cases ht:r[i].Page.Tx==c with
    |false=>
     simp only [Ac,Aa];rw [ad1 (by omega)];exact⟨o,rfl,keep (by unfold I3;rw [ht,fK])⟩
    |true=>
     simp only [Ae];have g:I3 c r[i]=true:=by unfold I3;rw [hk,ht];rfl
     have a:PE c r (i+1) (some i):=⟨by omega,⟨_,hg,g⟩,λk y h1 h2=>by omega⟩;have h:KH r (some i)=r[i]:=by simp only [KH,hg,Be]
     cases o with
     |none=>
      simp only [GP,AJ,Ae,Aa];rw [ad1 (by omega)];exact⟨some i,by rw [h];rfl,a⟩
     |some j=>
      obtain⟨h1,⟨y,h2,h3⟩,_⟩:=ho;have n:KH r (some j)=y:=by simp only [KH,h2,Be]
      have p:=AFi m h1 h2 hg;simp only [RS,Al,Ac,Aa,n];rw [Ad (by omega:r[i].Page.Seq>=y.Page.Seq)];simp only [Ae];rw [ad1 (by omega)]
      exact⟨some i,by rw [h];rfl,a⟩)
  (λo ho=>⟨_,by simp only [J9,AE,Aq,Av,Ac],o,rfl,ho⟩) (s:=none) (λk y h1=>by omega)
 have h1':Aw (λs:Bool×Int×Int×Int×Int×Int×Int×Int×Int×ByteArray=>J9 c r s.1 s.2.1 s.2.2.1 s.2.2.2.1 s.2.2.2.2.1 s.2.2.2.2.2.1 s.2.2.2.2.2.2.1 s.2.2.2.2.2.2.2.1 s.2.2.2.2.2.2.2.2.1 s.2.2.2.2.2.2.2.2.2) (false,0,0,0,0,0,0,0,0,(bs []))=_:=h1;rw [h1'];exact⟨o,rfl,h2⟩
theorem tW (hT:∀b∈f.Blocks,∀x∈b.Leaves,(L x.Text).length<=1048576) (h:QH f y):(L y.Page.Text).length<=90:=by
 obtain⟨b,x,h1,h2,_,h3⟩:=h;obtain⟨_,g1⟩:=C6 h1;obtain⟨_,g2⟩:=C6 h2;obtain⟨p,ok,k1,_,_,k2⟩:=Ih x.Text (by have:=hT b (A6 g1) x (A6 g2);omega);rw [h3]at k1
 injection k1 with k1
 injection k1 with k1 k3
 have hp:=k2 k3.symm;obtain⟨v,q1,_,q2⟩:=RH p;rw [hp]at q1
 injection q1 with q1
 obtain⟨_,_,_,_,_,q3⟩:=q2 q1.symm;rw [k1];rw [BL]at q3;omega
structure AC0 (f:Flash) (r:List As):Prop where
 s:FZ f=some r
 i:H1 f=some r
 len:r.length<=1048576
 page:∀y∈r,QH f y
 text:∀y∈r,(L y.Page.Text).length<=90
 srt:srt BO r
theorem AGf (f:Flash) (hz:Mw f<=1048576):∃r,AC0 f r:=by
 obtain⟨hf,hT⟩:=AF5 f hz;have hn:nl f.Blocks<=1048576:=G0 (AH1 f) hz;obtain⟨r,h1,h2,h3,h4,h5⟩:=aL f hf hT hn;exact⟨r,h1,h2,by omega,h4,λy hy=>tW hT (h4 y hy),h5⟩
def asc (l:List Int):Prop:=l.Pairwise λx y=>x<y
theorem Uw:∀{a b:List Int},asc a->asc b->(∀x,x∈a↔x∈b)->a=b
 |[],[],_,_,_=>rfl
 |[],y::b,_,_,h=>by have:=(h y).2 CK;cases this
 |x::a,[],_,_,h=>by have:=(h x).1 CK;cases this
 |x::a,y::b,ha,hb,h=>by
  obtain⟨a1,a2⟩:=Cs.1 ha;obtain⟨b1,b2⟩:=Cs.1 hb;have c:x=y:=by
   have h1:=(h x).1 CK;have h2:=(h y).2 CK
   rcases BE.1 h1 with h1|h1
   ·exact h1
   rcases BE.1 h2 with h2|h2
   ·exact h2.symm
   have:=a1 y h2;have:=b1 x h1;omega
  subst c;congr 1
  refine Uw a2 b2 λz=>⟨λhz=>?_,λhz=>?_⟩
  ·rcases BE.1 ((h z).1 (DO _ hz))with e|e
   ·have:=a1 z hz;omega
   exact e
  rcases BE.1 ((h z).2 (DO _ hz))with e|e
  ·have:=b1 z hz;omega
  exact e
def ins (l:List Int) (x:Int):List Int:=l.filter (λy=>decide (y<x))++(if x>0 then [x]else [])++l.filter (λy=>decide (y>x))
theorem Ou {body:List Int×Int->Option ((List Int×Int)⊕(List Int))} (l:List Int) (p:Int->Bool) (o:List Int) (hM:l.length+o.length<=1073741824) (hb:∀(u:List Int) (i:Nat) x,l[i]?=some x->u.length<=o.length+i->body (u,(i:Int))=(bif p x then((ap 8 u [x]).bind λc=>some (.inl (c,ad (i:Int) 1)))else some (.inl (u,ad (i:Int) 1)))) (he:∀u,body (u,(l.length:Int))=some (.inr u)):Aw body (o,0)=some (o++l.filter p):=by
 obtain⟨b,h1,rfl⟩:=Bk (body:=body) (λ(u:List Int) i=>(u,i)) l.length (λi u=>u=o++(l.take i).filter p) (λu=>u=o++l.filter p)
  (λu i hi hu=>by
   have hg:l[i]?=some l[i]:=Ab hi;have a:u.length<=o.length+i:=by
    rw [hu,Ag];have:=BN p (l.take i);simp only [AF]at this;omega
   refine .inl ?_;rw [hb u i _ hg a];have et:l.take (i+1)=l.take i++ [l[i]]:=by rw [Ax hi]
   cases hp:p l[i]with
   |true=>
    simp only [Ae];rw [C3 (by simp only [Aj];omega),ad1 (by omega)];refine⟨_,rfl,?_⟩;rw [et,AT,hu,BK (by simpa using hp),Ex,Ar]
   |false=>
    simp only [Ac];rw [ad1 (by omega)];refine⟨_,rfl,?_⟩
    rw [et,AT,hu,B9 (by simp [hp]),Ex,A0])
  (λu hu=>⟨u,he u,by rw [hu,AR]⟩) (s:=o) (by simp)
 exact h1
theorem AHe (l:List Int) (x:Int) (hl:l.length<=33554432):Np l x=some (ins l x):=by
 unfold Np
 rw [Ou (body:=λs:List Int×Int=>HP l x s.1 s.2) l (λy=>decide (y<x)) [] (by simp only [Bn];omega)
  (λu i y hy _=>by
   have hi:=(Ai.1 hy).1
   simp only [HP,AE,Ad hi,Ae,AC,hy,Aa])
  (λu=>by simp only [HP,AE,Aq,Av,Ac])]
 simp only [Aa,AA];have h1:=BN (λy=>decide (y<x)) l
 have step:∀o:List Int,o.length<=33554433->Aw (λs:List Int×Int=>GA l x s.1 s.2) (o,0)=some (o++l.filter (λy=>decide (y>x))):=λo ho=>
  Ou (body:=λs:List Int×Int=>GA l x s.1 s.2) l (λy=>decide (y>x)) o (by omega)
   (λu i y hy _=>by
    have hi:=(Ai.1 hy).1
    simp only [GA,AE,Ad hi,Ae,AC,hy,Aa])
   (λu=>by simp only [GA,AE,Aq,Av,Ac])
 unfold ins;by_cases hx:x>0
 ·rw [Ad hx,Ae,C3 (by simp only [Aj];omega),A3 hx];simp only [Aa];rw [step _ (by simp only [Ag,Aj];omega)];rfl
 rw [Af hx,Ac,A5 hx];simp only [Aa];rw [step _ (by omega),A0];rfl
theorem ABN {y:Int} (hl:∀z∈l,0<z):y∈ins l x↔y∈l\/(y=x/\0<x):=by
 unfold ins;simp only [Ak,AN,A9];constructor
 ·rintro((⟨h1,_⟩|h1)|⟨h1,_⟩)
  ·exact .inl h1
  ·split at h1
   ·rename_i hx;rw [Az]at h1;exact .inr ⟨h1,hx⟩
   cases h1
  exact .inl h1
 rintro(h1|⟨rfl,h2⟩)
 ·rcases Int.lt_trichotomy y x with h|h|h
  ·exact .inl (.inl ⟨h1,h⟩)
  ·subst h;have:=hl y h1;exact .inl (.inr (by rw [A3 this];exact Az.2 rfl))
  exact .inr ⟨h1,h⟩
 exact .inl (.inr (by rw [A3 h2];exact Az.2 rfl))
theorem ABO (h:asc l):asc (ins l x):=by
 unfold ins asc;rw [AX,AX];refine⟨⟨List.Pairwise.filter _ h,?_,?_⟩,List.Pairwise.filter _ h,?_⟩
 ·split<;>simp
 ·intro a ha b hb;split at hb
  ·rw [Az]at hb;subst hb;simpa using(AN.1 ha).2
  cases hb
 intro a ha b hb;have c:x<b:=by simpa using(AN.1 hb).2
 rcases Ak.1 ha with ha|ha
 ·have:a<x:=by simpa using(AN.1 ha).2
  omega
 split at ha
 ·rw [Az]at ha;omega
 cases ha
theorem Zy (l:List Int) (x:Int) (h:asc l):(ins l x).length<=l.length+1:=by
 have hd:(l.filter (λy=>decide (y<x))).length+(l.filter (λy=>decide (y>x))).length<=l.length:=by
  have e:∀l:List Int,(l.filter (λy=>decide (y<x))).length+(l.filter (λy=>decide (y>x))).length<=l.length:=by
   intro l
   induction l with
   |nil=>simp
   |cons z l ih=>
    simp only [List.filter_cons,Ay];by_cases h1:z<x
    ·rw [A3 (by simpa using h1),A5 (by simp;omega)];simp only [Ay];omega
    by_cases h2:z>x
    ·rw [A5 (by simpa using h1),A3 (by simpa using h2)];simp only [Ay];omega
    rw [A5 (by simpa using h1),A5 (by simpa using h2)];omega
  exact e l
 unfold ins;simp only [Ag];split<;>simp only [Aj,Bn]<;>omega
noncomputable def LZ (s:Store) (n:Nat):List Int:=((s.Vols.take n).map λv=>(Jb s.Arena v.Root).getD []).flatten
theorem Vm (s:Store) (n:Nat) (h:n<s.Vols.length):LZ s (n+1)=LZ s n++(Jb s.Arena s.Vols[n].Root).getD []:=by
 unfold LZ;rw [Ax h,CD,List.flatten_append];simp
theorem uB (s:Store) (ha:Us s.Arena) (n:Nat) (h:n<=s.Vols.length):(LZ s n).length=16*n:=by
 induction n with
 |zero=>simp [LZ]
 |succ n ih=>
  obtain⟨l,h1,_,h2⟩:=UB s.Arena ha (s.Vols[n]'(by omega)).Root;rw [Vm s n (by omega),Ag,ih (by omega),h1,Be,h2];omega
def Zx (s:Store) (n:Nat) (l:List Int):Prop:=asc l/\∀x,x∈l↔x∈LZ s n/\0<x
theorem VV (s:Store) (hv:s.Vols.length<=1048576) (ha:Us s.Arena):∃l,GE s=some l/\Zx s s.Vols.length l/\l.length<=16777216:=by
 unfold GE;obtain⟨l,h1,h2,h3⟩:=Bk (body:=λq:List Int×Int=>Ll s q.1 q.2) (λ(o:List Int) i=>(o,i)) s.Vols.length (λi o=>Zx s i o/\o.length<=16*i) (λo=>Zx s s.Vols.length o/\o.length<=16777216)
  (λo i hi ho=>by
   have hg:s.Vols[i]?=some s.Vols[i]:=Ab hi;obtain⟨⟨d,e⟩,g⟩:=ho;obtain⟨a,a1,_,a2⟩:=UB s.Arena ha s.Vols[i].Root;refine .inl ?_;simp only [Ll,AE,Ad hi,Ae,AC,hg,Aa,a1];obtain⟨u,q1,⟨q2,q3⟩,q4⟩:=Bk (body:=λq:List Int×Int=>Lk a q.1 q.2) (λ(u:List Int) k=>(u,k)) a.length (λk u=>(asc u/\∀x,x∈u↔(x∈LZ s i++a.take k)/\0<x)/\u.length<=o.length+k) (λu=>(asc u/\∀x,x∈u↔(x∈LZ s i++a)/\0<x)/\u.length<=o.length+a.length)
    (λu k hk hu=>by
     have f:a[k]?=some a[k]:=Ab hk;obtain⟨⟨b,c⟩,j⟩:=hu;refine .inl ?_;simp only [Lk,AE,Ad hk,Ae,AC,f,Aa];rw [AHe u a[k] (by omega),ad1 (by omega)];refine⟨_,rfl,⟨ABO b,λx=>?_⟩,by have:=Zy u a[k] b;omega⟩;rw [ABN (λz hz=>((c z).1 hz).2),c,Ax hk];simp only [Ak,Az];constructor
     ·rintro(⟨h,h0⟩|⟨rfl,h0⟩)
      ·exact⟨h.imp id .inl,h0⟩
      exact⟨.inr (.inr rfl),h0⟩
     rintro⟨h|h|h,h0⟩
     ·exact .inl ⟨.inl h,h0⟩
     ·exact .inl ⟨.inr h,h0⟩
     exact .inr ⟨h,by omega⟩)
    (λu hu=>⟨u,by simp only [Lk,AE,Aq,Av,Ac],by rw [AR]at hu;exact hu⟩) (s:=o) ⟨⟨d,λx=>by rw [e];simp⟩,by omega⟩
   rw [q1];simp only [Aa];rw [ad1 (by omega)];refine⟨u,rfl,⟨q2,λx=>?_⟩,by omega⟩
   rw [q3,Vm s i hi,a1,Be])
  (λo ho=>⟨o,by simp only [Ll,AE,Aq,Av,Ac],ho.1,by omega⟩) (s:=[]) ⟨⟨List.Pairwise.nil,λx=>by simp [LZ]⟩,by simp⟩
 rw [h1];exact⟨l,rfl,h2,h3⟩
theorem wD (s:Store) (hv:s.Vols.length<=1048576) (ha:Us s.Arena):Pj s=some ((LZ s s.Vols.length).filter λx=>decide (x>0)):=by
 unfold Pj;obtain⟨l,h1,rfl⟩:=Bk (body:=λq:List Int×Int=>IT s q.1 q.2) (λ(o:List Int) i=>(o,i)) s.Vols.length (λi o=>o=(LZ s i).filter λx=>decide (x>0)) (λo=>o=(LZ s s.Vols.length).filter λx=>decide (x>0))
  (λo i hi ho=>by
   have hg:s.Vols[i]?=some s.Vols[i]:=Ab hi;obtain⟨a,a1,a3,a2⟩:=UB s.Arena ha s.Vols[i].Root;have b:o.length<=16*i:=by
    rw [ho];have:=BN (λx:Int=>decide (x>0)) (LZ s i);rw [uB s ha i (by omega)]at this;exact this
   refine .inl ?_;simp only [IT,AE,Ad hi,Ae,AC,hg,Aa,a3]
   rw [Ou (body:=λq:List Int×Int=>IS a q.1 q.2) a (λx=>decide (x>0)) o (by omega)
    (λu k y hy _=>by
     have hk:=(Ai.1 hy).1
     simp only [IS,AE,Ad hk,Ae,AC,hy,Aa])
    (λu=>by simp only [IS,AE,Aq,Av,Ac])]
   simp only [Aa];rw [ad1 (by omega)];refine⟨_,rfl,?_⟩
   rw [Vm s i hi,a1,Be,AT,ho])
  (λo ho=>⟨o,by simp only [IT,AE,Aq,Av,Ac],ho⟩) (s:=[]) (by simp [LZ])
 rw [h1];rfl
def uniq (l:List Int) (n:Nat):List Int:=((List.range n).filter λi=>i==0||l[i-1]?.getD 0 !=l[i]?.getD 0).map λi=>l[i]?.getD 0
theorem vG (s:Store) (hv:s.Vols.length<=1048576) (ha:Us s.Arena):∃l,Lw s=some l/\Zx s s.Vols.length l:=by
 unfold Lw;rw [wD s hv ha];simp only [Aa];have t:((LZ s s.Vols.length).filter λx=>decide (x>0)).length<=16777216:=by
  have:=BN (λx:Int=>decide (x>0)) (LZ s s.Vols.length);rw [uB s ha _ (A4 _)]at this;omega
 unfold Tq;rw [A3 (by omega)];simp only [Aa];have u:(Qk ((LZ s s.Vols.length).filter λx=>decide (x>0))).length<=16777216:=by rw [ADs];exact t
 have g:∀x,x∈Qk ((LZ s s.Vols.length).filter λx=>decide (x>0))↔x∈LZ s s.Vols.length/\0<x:=λx=>by
  unfold Qk;rw [List.mem_mergeSort,AN];simp
 have d:(Qk ((LZ s s.Vols.length).filter λx=>decide (x>0))).Pairwise λx y=>x<=y:=by
  have:=List.pairwise_mergeSort (le:=λx y:Int=>decide (x<=y)) (λa b c h1 h2=>by simp at*;omega) (λa b=>by simp;omega) ((LZ s s.Vols.length).filter λx=>decide (x>0));unfold Qk;exact this.imp (λh=>by simpa using h)
 generalize Qk ((LZ s s.Vols.length).filter λx=>decide (x>0))=m at u g d;obtain⟨l,h1,h2,h3⟩:=Bk (body:=λq:List Int×Int=>Lv m q.1 q.2) (λ(o:List Int) i=>(o,i)) m.length (λi o=>asc o/\(∀x,x∈o↔x∈m.take i)/\o.length<=i) (λo=>asc o/\∀x,x∈o↔x∈m)
  (λo i hi ho=>by
   have hg:m[i]?=some m[i]:=Ab hi;obtain⟨p,f,h4⟩:=ho
   have v:∀x∈o,x<=m[i]:=λx hx=>by
    obtain⟨k,hk,rfl⟩:=AI ((f x).1 hx);simp only [AF]at hk;rw [EM];exact Ds.1 d k i (by omega) hi (by omega)
   refine .inl ?_;simp only [Lv,AE,Ad hi,Ae,AC,hg,Aa]
   have add:m[i]∉o->∃s',(some (.inl (o++ [m[i]],((i+1:Nat):Int))):Option ((List Int×Int)⊕(List Int)))=some (.inl (s',((i+1:Nat):Int)))/\asc s'/\(∀x,x∈s'↔x∈m.take (i+1))/\s'.length<=i+1:=λw=>by
    refine⟨_,rfl,?_,λx=>?_,by simp only [Ag,Aj];omega⟩
    ·unfold asc;rw [AX];refine⟨p,IB _ _,λa ha b hb=>?_⟩;rw [Az]at hb;subst hb;have h1:=v a ha
     have h2:a≠m[i]:=λe=>w (e▸ha)
     omega
    rw [Ax hi,Ak,Ak,f]
   have skip:m[i]∈o->∃s',(some (.inl (o,((i+1:Nat):Int))):Option ((List Int×Int)⊕(List Int)))=some (.inl (s',((i+1:Nat):Int)))/\asc s'/\(∀x,x∈s'↔x∈m.take (i+1))/\s'.length<=i+1:=λj=>by
    refine⟨_,rfl,p,λx=>?_,by omega⟩;rw [Ax hi,Ak,f,Az];constructor
    ·exact .inl
    rintro(h|rfl)
    ·exact h
    exact(f _).1 j
   rw [C3 (by simp only [Aj];omega),ad1 (by omega)];by_cases h0:i=0
   ·subst h0;simp only [show(((0:Nat):Int)==0)=true from rfl,Ae,Aa];have:o=[]:=AB (by omega);exact add (by rw [this];simp)
   have e0:((i:Int)==0)=false:=by simp;omega
   rw [e0,Cz (by omega) (by omega),show((i:Int)-1)=((i-1:Nat):Int) by omega,AC];have z:m[i-1]?=some (m[i-1]'(by omega)):=Ab (by omega);rw [z];simp only [Ac,Aa];by_cases n:m[i-1]'(by omega)=m[i]
   ·have:((m[i-1]'(by omega)) !=m[i])=false:=by simp [n]
    rw [this];simp only [Ac];refine skip ((f _).2 ?_);rw [<-n];rw [List.mem_iff_getElem];exact⟨i-1,by simp;omega,by rw [EM]⟩
   have:((m[i-1]'(by omega)) !=m[i])=true:=by simp [n]
   rw [this];simp only [Ae,Aa]
   refine add λj=>?_
   obtain⟨k,hk,r⟩:=AI ((f _).1 j);simp only [AF]at hk;rw [EM]at r;have h1:m[k]'(by omega)<=m[i-1]'(by omega):=by
    rcases Dc k (i-1)with h|h
    ·exact Ds.1 d k (i-1) (by omega) (by omega) h
    have:k=i-1:=by omega
    subst this;exact E7 _
   have h2:m[i-1]'(by omega)<=m[i]:=Ds.1 d (i-1) i (by omega) hi (by omega);rw [r]at h1
   omega)
  (λo ho=>⟨o,by simp only [Lv,AE,Aq,Av,Ac],ho.1,λx=>by rw [ho.2.1,AR]⟩) (s:=[]) ⟨List.Pairwise.nil,by simp,by simp⟩
 rw [h1];exact⟨l,rfl,h2,λx=>by rw [h3,g]⟩
theorem i8 (s:Store) (hv:s.Vols.length<=1048576) (ha:Us s.Arena):∃l,GE s=some l/\Lw s=some l/\Zx s s.Vols.length l/\l.length<=16777216:=by
 obtain⟨l,h1,h2,h3⟩:=VV s hv ha;obtain⟨l',k1,k2⟩:=vG s hv ha;have:l'=l:=Uw k2.1 h2.1 (λx=>by rw [k2.2,h2.2]);subst this;exact⟨l',h1,k1,h2,h3⟩
theorem nZ (x a b:Int):JI x a b=some (decide (a<=x/\x<=b)):=by
 unfold JI;by_cases h:x>=a
 ·rw [Ad h,Ae];congr 1;rw [DP];simp;omega
 rw [Af h,Ac,Af (by omega)]
theorem L3 (b:Bool) (x y:α):(bif b then some x else some y)=some (bif b then x else y):=by cases b<;>rfl
def cn (n:Nat) (p:Nat->Bool):Nat:=((List.range n).filter p).length
theorem N8 (n:Nat) (p:Nat->Bool):cn (n+1) p=cn n p+(bif p n then 1 else 0):=by
 unfold cn;rw [Gq,AT,Ag]
 cases h:p n with
 |true=>rw [BK (by simpa using h)];simp
 |false=>rw [B9 (by simp [h])];simp
theorem ABX (n:Nat) (p:Nat->Bool):cn n p<=n:=by
 have:=BN p (List.range n);rw [Ck]at this;exact this
theorem V3 (h:∀j,j<n->p j=q j):cn n p=cn n q:=by
 induction n with
 |zero=>rfl
 |succ n ih=>rw [N8,N8,ih (λj hj=>h j (by omega)),h n (by omega)]
theorem AGG (h:∀j,j<n->p j=true->q j=false):cn n (λj=>p j||q j)=cn n p+cn n q:=by
 induction n with
 |zero=>rfl
 |succ n ih=>
  rw [N8,N8,N8,ih (λj hj=>h j (by omega))];have:=h n (by omega)
  cases hp:p n with
  |true=>rw [this hp];simp;omega
  |false=>cases q n<;>simp;omega
theorem AHh (hi:i<n) (b:Bool):cn n (λj=>(some i==some j)&&b)=bif b then 1 else 0:=by
 induction n with
 |zero=>omega
 |succ n ih=>
  rw [N8];by_cases e:i=n
  ·subst e;have:cn i (λj=>(some i==some j)&&b)=0:=by
    have h2:cn i (λj=>(some i==some j)&&b)=cn i (λ_=>false):=V3 (λj hj=>by
     have:(some i==some j)=false:=by simp;omega
     rw [this];rfl)
    rw [h2];unfold cn;simp
   rw [this];cases b<;>simp
  rw [ih (by omega)];have:(some i==some n)=false:=by simp;omega
  rw [this];cases b<;>simp
theorem AF3 (f:Nat->Bool):cn n (λj=>((none:Option Nat)==some j)&&f j)=0:=by
 have h2:cn n (λj=>((none:Option Nat)==some j)&&f j)=cn n (λ_=>false):=V3 (λj _=>rfl);rw [h2];unfold cn;simp
theorem V0 {body:Int×Int->Option ((Int×Int)⊕Int)} (n:Nat) (p:Nat->Bool) (n0:Int) (h0:0<=n0) (hM:(n:Int)+n0<=1152921504606846976) (hb:∀(m:Int) (i:Nat),i<n->body (m,(i:Int))=(bif p i then some (.inl (ad m 1,ad (i:Int) 1))else some (.inl (m,ad (i:Int) 1)))) (he:∀m,body (m,(n:Int))=some (.inr m)):Aw body (n0,0)=some (n0+(cn n p:Int)):=by
 obtain⟨b,h1,rfl⟩:=Bk (body:=body) (λ(m:Int) i=>(m,i)) n (λi m=>m=n0+(cn i p:Int)) (λm=>m=n0+(cn n p:Int))
  (λm i hi hm=>by
   have hc:=ABX i p;refine .inl ?_;rw [hb m i hi]
   cases hp:p i with
   |true=>
    simp only [Ae];rw [CA (by omega) (by omega),ad1 (by omega)];refine⟨_,rfl,?_⟩;rw [N8,hp,hm];simp;omega
   |false=>
    simp only [Ac];rw [ad1 (by omega)];refine⟨_,rfl,?_⟩;rw [N8,hp,hm]
    simp)
  (λm hm=>⟨m,he m,hm⟩) (s:=n0) (by simp [cn])
 exact h1
theorem R7 {γ:Type} {body:List γ×Int->Option ((List γ×Int)⊕List γ)} (by_:Nat) (n:Nat) (p:Nat->Bool) (g:Nat->γ) (hM:n*by_<=140737488355328) (hn:n<=1152921504606846976) (hb:∀(u:List γ) (i:Nat),i<n->body (u,(i:Int))=(bif p i then((ap by_ u [g i]).bind λc=>some (.inl (c,ad (i:Int) 1)))else some (.inl (u,ad (i:Int) 1)))) (he:∀u,body (u,(n:Int))=some (.inr u)):Aw body ([],0)=some (((List.range n).filter p).map g):=by
 obtain⟨b,h1,rfl⟩:=Bk (body:=body) (λ(u:List γ) i=>(u,i)) n (λi u=>u=((List.range i).filter p).map g) (λu=>u=((List.range n).filter p).map g)
  (λu i hi hu=>by
   have a:u.length<=i:=by
    rw [hu,Bo];exact ABX i p
   refine .inl ?_;rw [hb u i hi]
   cases hp:p i with
   |true=>
    simp only [Ae];have:(u.length+ [g i].length)*by_<=n*by_:=Cy _ (by simp only [Aj];omega);rw [C3 (by omega),ad1 (by omega)];refine⟨_,rfl,?_⟩;rw [Gq,AT,BK (by simpa using hp),Ex,CD,hu];rfl
   |false=>
    simp only [Ac];rw [ad1 (by omega)];refine⟨_,rfl,?_⟩
    rw [Gq,AT,B9 (by simp [hp]),Ex,A0,hu])
  (λu hu=>⟨u,he u,hu⟩) (s:=[]) (by simp)
 exact h1
def NE (c:Int) (r:List As):Nat->Option Nat
 |0=>none
 |n+1=>bif I3 c (r[n]?.getD NN)then some n else NE c r n
theorem NT (c:Int) (r:List As):∀n,n<=r.length->PE c r n (NE c r n)
 |0,_=>λk y hk=>by omega
 |n+1,hn=>by
  have hg:r[n]?=some r[n]:=Ab (by omega);have ih:=NT c r n (by omega);unfold NE;rw [hg,Be]
  cases hi:I3 c r[n]with
  |true=>exact⟨by omega,⟨_,hg,hi⟩,λk y h1 h2=>by omega⟩
  |false=>
   simp only [Ac]
   cases ht:NE c r n with
   |none=>
    rw [ht]at ih;intro k y hk hy;by_cases e:k=n
    ·subst e;rw [hg]at hy;injection hy with hy;rw [<-hy];exact hi
    exact ih k y (by omega) hy
   |some j=>
    rw [ht]at ih;obtain⟨h1,h2,h3⟩:=ih;refine⟨by omega,h2,λk y hj hk hy=>?_⟩;by_cases e:k=n
    ·subst e;rw [hg]at hy;injection hy with hy;rw [<-hy];exact hi
    exact h3 k y hj (by omega) hy
theorem Mx (hn:n<=r.length) (h:NE c r n=some j):j<n/\∃y,r[j]?=some y/\I3 c y=true:=by
 have:=NT c r n hn;rw [h]at this;exact⟨this.1,this.2.1⟩
def Dx (a:Int) (y:As):Bool:=y.Page.Kind==2&&decide (y.Page.Tx>=a)
def dT (r:List As) (a:List Bool) (c:Int):List Bool:=match NE c r r.length with
 |some i=>a.set i true
 |none=>a
theorem g7 {k:Nat} (r:List As) (live:List Int) (hr:r.length<=1048576) (hc:live[k]?=some c) (b:List Bool) (ho:b.length=r.length):∀n,n<=r.length->
  Aw (λs:List Bool×Int=>F6 r live (k:Int) s.1 s.2) (b,(n:Int)-1)=some (match NE c r n with|some i=>b.set i true|none=>b)
 |0,_=>by
  rw [A8];simp only [F6];rw [Af (by omega),Ac];rfl
 |n+1,hn=>by
  have hg:r[n]?=some r[n]:=Ab (by omega);have d:b[n]?=some b[n]:=Ab (by omega);have e:((n+1:Nat):Int)-1=(n:Int):=by omega
  have ht:NE c r (n+1)=bif I3 c r[n]then some n else NE c r n:=by
   rw [NE,hg,Be]
  have hj:(bif r[n].Page.Kind==1 then some (r[n].Page.Tx==c)else some false)=some (I3 c r[n]):=by
   unfold I3;cases r[n].Page.Kind==1<;>rfl
  have hb:F6 r live (k:Int) b (n:Int)=some (bif I3 c r[n]then .inl (b.set n true,-2)else .inl (b,(n:Int)-1)):=by
   simp only [F6];rw [Ad (by omega),Ae];simp only [AC,hg,d,hc,Aa];rw [hj,Aa,Cz (by omega) (by omega),Cz (a:=(n:Int)) (by omega) (by omega)];cases I3 c r[n]<;>simp only [Ae,Ac,Gs]<;>rfl
  rw [e,A8];simp only [hb,ht]
  cases I3 c r[n]with
  |true=>
   simp only [Ae];rw [A8];simp only [F6];rw [Af (by omega),Ac]
  |false=>exact g7 r live hr hc b ho n (by omega)
theorem ABF (r:List As) (a:List Bool) (c:Int):(dT r a c).length=a.length:=by
 unfold dT;split<;>simp
theorem AFE (r:List As) (a:List Bool) (c:Int) (j:Nat):(dT r a c)[j]?=a[j]?.map (λb=>b||(NE c r r.length==some j)):=by
 unfold dT
 cases NE c r r.length with
 |none=>
  show a[j]?=a[j]?.map (λb=>b||((none:Option Nat)==some j));have e:(λb:Bool=>b||((none:Option Nat)==some j))=id:=by
   funext b;cases b<;>rfl
  rw [e,Option.map_id];rfl
 |some i=>
  simp only [Cd];by_cases e:i=j
  ·subst e;simp only [BX];by_cases hi:i<a.length
   ·rw [A3 hi,Ab hi];simp
   rw [A5 hi,CN (by omega)];rfl
  rw [A5 e];have:(some i==some j)=false:=by simpa using e
  rw [this];have e2:(λb:Bool=>b||false)=id:=by
   funext b;cases b<;>rfl
  rw [e2,Option.map_id];rfl
theorem Zm (r:List As) (j:Nat):∀(live:List Int) (a:List Bool),(live.foldl (dT r) a)[j]?=a[j]?.map (λb=>b||live.any (λc=>NE c r r.length==some j))
 |[],a=>by simp
 |c::live,a=>by
  simp only [LJ,List.any_cons];rw [Zm r j live,AFE];cases a[j]? <;>simp [Bool.or_assoc]
theorem ZM (r:List As):∀(live:List Int) (a:List Bool),(live.foldl (dT r) a).length=a.length
 |[],a=>rfl
 |c::live,a=>by simp only [LJ];rw [ZM r live,ABF]
theorem Ma (r:List As) (live:List Int) (a:Int) (hr:r.length<=1048576) (hl:live.length<=16777216):GU r live a=some (live.foldl (dT r) (r.map (Dx a))):=by
 unfold GU;have f:mk 1 false (ln r)=some (List.replicate r.length false):=by
  unfold mk;rw [Cf,A3 ⟨by omega,by omega,by omega⟩,B6]
 rw [f,Aa];obtain⟨u,h1,rfl⟩:=Bk (body:=λs:List Bool×Int=>HO r a s.1 s.2) (λ(u:List Bool) i=>(u,i)) r.length (λi u=>u=(r.take i).map (Dx a)++List.replicate (r.length-i) false) (λu=>u=r.map (Dx a))
  (λu i hi hu=>by
   have hg:r[i]?=some r[i]:=Ab hi;have e:r.length-i=(r.length-(i+1))+1:=by omega
   have d:((r.take i).map (Dx a)).length=i:=by rw [Bo,AF];omega
   rw [e,Gx]at hu;have et:(r.take (i+1)).map (Dx a)=(r.take i).map (Dx a)++ [Dx a r[i]]:=by rw [Ax hi,CD];rfl
   have g:gi u (i:Int)=some false:=by rw [hu];have:=pQ ((r.take i).map (Dx a)) false (List.replicate (r.length-(i+1)) false);rw [d]at this;exact this
   have h:∀b,si u (i:Int) b=(r.take i).map (Dx a)++b::List.replicate (r.length-(i+1)) false:=λb=>by rw [hu];have:=jN ((r.take i).map (Dx a)) false b (List.replicate (r.length-(i+1)) false);rw [d]at this;exact this
   refine .inl ⟨(r.take (i+1)).map (Dx a)++List.replicate (r.length-(i+1)) false,?_,rfl⟩;simp only [HO,AE,Ad hi,Ae];rw [AC,hg,Aa,g];simp only [Aa,h];rw [ad1 (by omega),et]
   cases hk:r[i].Page.Kind==2 with
   |true=>simp [Dx,hk]
   |false=>simp [Dx,hk])
  (λu hu=>⟨u,by simp only [HO,AE,Aq,Av,Ac],by rw [hu];simp⟩) (s:=List.replicate r.length false) (by simp)
 rw [h1,Aa];have h2:=Pg (body:=λs:List Bool×Int=>HN r live s.1 s.2) (λ(u:List Bool) i=>(u,i)) live (λu _ c=>(.inl (dT r u c):List Bool⊕List Bool)) (λu=>u) (λ_ u=>u.length=r.length)
  (λu i c hc hu=>by
   have hi:=(Ai.1 hc).1;refine⟨?_,λu' hu'=>by injection hu' with hu';rw [<-hu',ABF,hu]⟩;simp only [HN,AE,Ad hi,Ae];rw [show ln r=(r.length:Int)from rfl,Cz (by omega) (by omega),g7 r live hr hc u hu r.length (A4 _),Aa,ad1 (by omega)]
   rfl)
  (λu hu=>by simp only [HN,AE,Aq,Av,Ac]) (s:=r.map (Dx a)) (by simp)
 rw [h2,Aa];have:∀(l:List Int) (i:Nat) (u:List Bool),Or (λu _ c=>(.inl (dT r u c):List Bool⊕List Bool)) (λu=>u) l i u=l.foldl (dT r) u:=by
  intro l
  induction l with
  |nil=>intro i u;rfl
  |cons c l ih=>intro i u;simp only [Or,LJ];exact ih _ _
 rw [this]
def bk (r:List As) (b:Int) (j:Nat):Bool:=(r[j]?.getD NN).Block==b
theorem Zf (r:List As) (nd:List Bool) (b:Int) (hr:r.length<=1048576) (hn:nd.length=r.length):LO r nd b=some ((cn r.length (λj=>nd[j]?.getD false&&bk r b j):Nat):Int):=by
 unfold LO
 rw [V0 (body:=λs:Int×Int=>MA r nd b s.1 s.2) r.length (λj=>nd[j]?.getD false&&bk r b j) 0 (by omega) (by omega)
  (λm i hi=>by
   have hg:r[i]?=some r[i]:=Ab hi;have a:nd[i]?=some nd[i]:=Ab (by omega);simp only [MA,AE,Ad hi,Ae,AC,hg,a,Aa,Be,bk]
   cases nd[i]<;>simp)
  (λm=>by simp only [MA,AE,Aq,Av,Ac])]
 simp
theorem ABW (r:List As) (f:Nat->Bool):∀live:List Int,live.Nodup->cn r.length (λj=>live.any (λc=>NE c r r.length==some j)&&f j)=(live.filter (λc=>match NE c r r.length with|some j=>f j|none=>false)).length
 |[],_=>by
  unfold cn;simp
 |c::live,hn=>by
  obtain⟨h1,h2⟩:=Dy.1 hn;have ih:=ABW r f live h2;have hs:cn r.length (λj=>(c::live).any (λc=>NE c r r.length==some j)&&f j)=cn r.length (λj=>((NE c r r.length==some j)&&f j)||(live.any (λc=>NE c r r.length==some j)&&f j)):=
   V3 (λj _=>by simp only [List.any_cons,Bool.and_or_distrib_right])
  rw [hs,AGG (λj hj hp=>?_),ih]
  ·cases ht:NE c r r.length with
   |none=>
    rw [AF3];rw [B9 (by rw [ht];simp)];simp
   |some i=>
    have hi:=(Mx (A4 _) ht).1;have:cn r.length (λj=>(some i==some j)&&f j)=bif f i then 1 else 0:=by
     rw [<-AHh hi (f i)];refine V3 (λj _=>?_);by_cases e:i=j
     ·rw [e]
     have:(some i==some j)=false:=by simpa using e
     rw [this];rfl
    rw [this]
    cases hf:f i with
    |true=>rw [BK (by rw [ht];simpa using hf)];simp;omega
    |false=>rw [B9 (by rw [ht];simp [hf])];simp
  simp only [An,Cj]at hp;rw [C5];refine .inl ?_;rw [JK];intro c' hc' a;have a:NE c' r r.length=some j:=by simpa using a
  obtain⟨_,y,y1,y2⟩:=Mx (A4 _) hp.1;obtain⟨_,z,z1,z2⟩:=Mx (A4 _) a;rw [y1]at z1
  injection z1 with z1
  subst z1;simp only [I3,An,Cj]at y2 z2;exact h1 (by rw [<-y2.2,z2.2];exact hc')
theorem iV (h:asc l):l.Nodup:=by
 refine List.Pairwise.imp (λa=>?_) h;omega
theorem Wv (h:AC0 f r) (s:Store) {live:List Int} (e:Lw s=some live) (ha:asc live) (hl:live.length<=16777216) (a b:Int):
  ∃n:Nat,LO r (live.foldl (dT r) (r.map (Dx a))) b=some (n:Int)/\FC f s a b=some (n:Int):=by
 refine⟨_,Zf r _ b h.len (by rw [ZM,Bo]),?_⟩;unfold FC Rz;rw [e,Aa,h.i];have l:=h.len;have g:∃u:List As,Aw (λq:List As×Int=>Gv f b live q.1 q.2) ([],0)=some u/\u.length=(live.filter (λc=>match NE c r r.length with|some j=>bk r b j|none=>false)).length:=by
  obtain⟨u,h1,h2⟩:=Bk (body:=λq:List As×Int=>Gv f b live q.1 q.2) (λ(u:List As) i=>(u,i)) live.length (λi u=>u.length=((live.take i).filter (λc=>match NE c r r.length with|some j=>bk r b j|none=>false)).length) (λu=>u.length=(live.filter (λc=>match NE c r r.length with|some j=>bk r b j|none=>false)).length)
   (λu i hi hu=>by
    have hg:live[i]?=some live[i]:=Ab hi;obtain⟨o,o1,o2⟩:=iM f r h.i h.len h.srt live[i];have ho:o=NE live[i] r r.length:=iC o2 (NT _ _ _ (A4 _));have p:u.length<=i:=by
     rw [hu];have:=BN (λc=>match NE c r r.length with|some j=>bk r b j|none=>false) (live.take i);rw [AF]at this;omega
    have et:live.take (i+1)=live.take i++ [live[i]]:=by rw [Ax hi]
    refine .inl ?_;simp only [Gv,AE,Ad hi,Ae,AC,hg,Aa,o1]
    cases ht:NE live[i] r r.length with
    |none=>
     rw [ht]at ho;subst ho;simp only [GP,Ac,Aa];rw [ad1 (by omega)];refine⟨_,rfl,?_⟩;rw [et,AT,B9 (by rw [ht];simp),Ex,A0,hu]
    |some j=>
     rw [ht]at ho;subst ho;simp only [RS,Ae,Aa,KH]
     cases hb:bk r b j with
     |true=>
      have hb':((r[j]?.getD NN).Block==b)=true:=hb;rw [hb'];simp only [Ae];rw [C3 (by simp only [Aj];omega),ad1 (by omega)];refine⟨_,rfl,?_⟩;rw [et,AT,BK (by rw [ht];simpa using hb),Ex,Ag,Ag,hu];rfl
     |false=>
      have hb':((r[j]?.getD NN).Block==b)=false:=hb;rw [hb'];simp only [Ac];rw [ad1 (by omega)];refine⟨_,rfl,?_⟩
      rw [et,AT,B9 (by rw [ht];simp [hb]),Ex,A0,hu])
   (λu hu=>⟨u,by simp only [Gv,AE,Aq,Av,Ac],by rw [hu,AR]⟩) (s:=[]) (by simp)
  exact⟨u,h1,h2⟩
 obtain⟨u,u1,u2⟩:=g;have t:=BN (λc=>match NE c r r.length with|some j=>bk r b j|none=>false) live;rw [u1];simp only [Aa,Cf]
 rw [V0 (body:=λq:Int×Int=>IU a b r q.1 q.2) r.length (λj=>Dx a (r[j]?.getD NN)&&bk r b j) _ (by omega) (by omega)
  (λm i hi=>by
   have hg:r[i]?=some r[i]:=Ab hi;simp only [IU,AE,Ad hi,Ae,AC,hg,Aa,Be,bk,Dx]
   cases r[i].Block==b<;>cases r[i].Page.Kind==2<;>simp)
  (λm=>by simp only [IU,AE,Aq,Av,Ac])]
 simp only [Aa,Ao];have d:cn r.length (λj=>(live.foldl (dT r) (r.map (Dx a)))[j]?.getD false&&bk r b j)=cn r.length (λj=>(Dx a (r[j]?.getD NN)&&bk r b j)||(live.any (λc=>NE c r r.length==some j)&&bk r b j)):=
  V3 (λj hj=>by
   have hg:r[j]?=some r[j]:=Ab hj;rw [Zm,Bi,hg]
   simp only [B3,Be,Bool.and_or_distrib_right])
 rw [d,AGG (λj hj hp=>?_),ABW r (bk r b) live (iV ha),u2]
 ·omega
 have hg:r[j]?=some r[j]:=Ab hj;rw [hg,Be]at hp;simp only [An,Dx,Cj]at hp;rw [C5];refine .inl ?_;rw [JK];intro c hc k;obtain⟨_,y,y1,y2⟩:=Mx (A4 _) (by simpa using k);rw [hg]at y1
 injection y1 with y1
 rw [<-y1]at y2;simp only [I3,An,Cj]at y2;have:=hp.1.1;rw [y2.1]at this;cases this
theorem wJ (x:Block) (hl:x.Leaves.length<=1048576):∃n:Int,HY x=some n/\M9 x=some (!decide (n<ln x.Leaves)):=by
 have a:∀l:List Leaf,(cn l.length (λj=>(l[j]?.getD (Leaf.mk 1 (bs []))).Is==0)=l.length↔l.zipIdx.all (λz=>z.1.Is==0)=true):=by
  intro l;rw [IC];constructor
  ·intro h z hz;obtain⟨x,i⟩:=z;have b:=List.mem_zipIdx hz;simp only at b⊢;obtain⟨_,h2,h3⟩:=b;unfold cn at h;have h4:((List.range l.length).filter λj=>(l[j]?.getD (Leaf.mk 1 (bs []))).Is==0).length=(List.range l.length).length:=by rw [h,Ck]
   have h5:=List.length_filter_eq_length_iff.1 h4 i (GR.2 (by omega));rw [Ab (by omega),Be]at h5;rw [h3];simpa using h5
  intro h;unfold cn;have:((List.range l.length).filter λj=>(l[j]?.getD (Leaf.mk 1 (bs []))).Is==0).length=(List.range l.length).length:=by
   refine List.length_filter_eq_length_iff.2 λi hi=>?_
   have hi:=GR.1 hi;rw [Ab hi,Be];exact h (l[i],i) (List.mem_zipIdx_iff_getElem?.2 (Ab hi))
  rw [this,Ck]
 refine⟨(cn x.Leaves.length (λj=>(x.Leaves[j]?.getD (Leaf.mk 1 (bs []))).Is==0):Nat),?_,?_⟩
 ·unfold HY
  rw [V0 (body:=λq:Int×Int=>GY x q.1 q.2) x.Leaves.length (λj=>(x.Leaves[j]?.getD (Leaf.mk 1 (bs []))).Is==0) 0 (by omega) (by omega)
   (λm i hi=>by
    have hg:x.Leaves[i]?=some x.Leaves[i]:=Ab hi
    simp only [GY,AE,Ad hi,Ae,AC,hg,Aa,Be])
   (λm=>by simp only [GY,AE,Aq,Av,Ac])]
  simp
 unfold M9
 rw [Zu (body:=λs:Int=>IK x s) x.Leaves (λ_ y=>y.Is==0) (.inr false) (.inl ()) (by omega)
  (λi y hy=>by
   have hi:=(Ai.1 hy).1;simp only [IK,AE,Ad hi,Ae,AC,hy,Aa];rw [ad1 (by omega)]
   cases hk:y.Is==0 with
   |true=>simp [bne,hk]
   |false=>simp [bne,hk])
  (by simp only [IK,AE,Aq,Av,Ac])]
 have c:=ABX x.Leaves.length (λj=>(x.Leaves[j]?.getD (Leaf.mk 1 (bs []))).Is==0)
 cases hb:x.Leaves.zipIdx.all (λz=>z.1.Is==0)with
 |true=>
  have:=(a x.Leaves).2 hb;rw [this,Cf];simp
 |false=>
  have:¬cn x.Leaves.length (λj=>(x.Leaves[j]?.getD (Leaf.mk 1 (bs []))).Is==0)=x.Leaves.length:=λe=>by rw [(a x.Leaves).1 e]at hb;cases hb
  rw [Cf,Ad (by omega)];rfl
theorem Sm (d:AH) (hz:Xo d<=1048576):∃l,Ix d=some l/\Kf d=some l/\l.length<=1048576:=by
 unfold Xo at hz;obtain⟨r,hr⟩:=AGf d.Flash (by omega);have hs:UD d.Store<=1048576:=by omega
 have hv:d.Store.Vols.length<=1048576:=by unfold UD at hs;omega
 have ha:Us d.Store.Arena:=by
  unfold UD ADc at hs;have:=UC (z:=qU) (l:=d.Store.Arena.Knots);unfold Us;omega
 have hf:Mw d.Flash<=1048576:=by omega
 unfold Mw at hf;have e:=UC (z:=JL) (l:=d.Flash.Blocks);obtain⟨live,l1,l2,⟨l3,l4⟩,l5⟩:=i8 d.Store hv ha
 let p:Nat->Bool:=λi=>match d.Flash.Blocks[i]? with
  |some x=>!x.Bad&&((HY x).elim false λn=>decide (n<ln x.Leaves))&&((FC d.Flash d.Store d.Base (i:Int)).elim false λn=>n==0)
  |none=>false
 have hp:∀(i:Nat) (hi:i<d.Flash.Blocks.length),∃n m:Int,HY d.Flash.Blocks[i]=some n/\M9 d.Flash.Blocks[i]=some (!decide (n<ln d.Flash.Blocks[i].Leaves))/\FC d.Flash d.Store d.Base (i:Int)=some m/\LO r (live.foldl (dT r) (r.map (Dx d.Base))) (i:Int)=some m/\
   p i=(!d.Flash.Blocks[i].Bad&&decide (n<ln d.Flash.Blocks[i].Leaves)&&(m==0)):=by
  intro i hi;have hg:d.Flash.Blocks[i]?=some d.Flash.Blocks[i]:=Ab hi;have b:=jC (z:=JL) (AD hi);have f:=UC (z:=NQ) (l:=d.Flash.Blocks[i].Leaves);unfold JL at b;obtain⟨n,n1,n2⟩:=wJ d.Flash.Blocks[i] (by unfold JL at hf;omega);obtain⟨m,m1,m2⟩:=Wv hr d.Store l2 l3 l5 d.Base (i:Int);refine⟨n,m,n1,n2,m2,m1,?_⟩;simp only [p,hg,n1,m2,Option.elim_some]
 have c:=ABX d.Flash.Blocks.length p;refine⟨((List.range d.Flash.Blocks.length).filter p).map (λ(i:Nat)=>(i:Int)),?_,?_,by rw [Bo];unfold cn at c;omega⟩
 ·unfold Ix;rw [hr.s,l1];simp only [Aa];rw [Ma r live d.Base hr.len l5];simp only [Aa]
  rw [R7 (body:=λs:List Int×Int=>DL d r (live.foldl (dT r) (r.map (Dx d.Base))) s.1 s.2) 8 d.Flash.Blocks.length p (λ(i:Nat)=>(i:Int)) (by omega) (by omega)
   (λu i hi=>by
    have hg:d.Flash.Blocks[i]?=some d.Flash.Blocks[i]:=Ab hi;obtain⟨n,m,n1,n2,m1,m2,a⟩:=hp i hi;simp only [DL,AE,Ad hi,Ae,AC,hg,Aa,n2,m2,a]
    cases d.Flash.Blocks[i].Bad<;>cases decide (n<ln d.Flash.Blocks[i].Leaves)<;>simp)
   (λu=>by simp only [DL,AE,Aq,Av,Ac])]
  rfl
 unfold Kf
 rw [R7 (body:=λs:List Int×Int=>Hq d s.1 s.2) 8 d.Flash.Blocks.length p (λ(i:Nat)=>(i:Int)) (by omega) (by omega)
  (λu i hi=>by
   have hg:d.Flash.Blocks[i]?=some d.Flash.Blocks[i]:=Ab hi;obtain⟨n,m,n1,n2,m1,m2,a⟩:=hp i hi;simp only [Hq,AE,Ad hi,Ae,AC,hg,Aa,n1,m1,a]
   cases d.Flash.Blocks[i].Bad<;>cases decide (n<ln d.Flash.Blocks[i].Leaves)<;>simp)
  (λu=>by simp only [Hq,AE,Aq,Av,Ac])]
 rfl
theorem Pw:Lt=EP:=rfl
theorem Ul:JB=Fk:=rfl
def MZ:List Leaf:=List.replicate 4 (Leaf.mk 0 (bs []))
theorem Rw:mk 24 (Leaf.mk 0 (bs [])) 4=some MZ:=Zp (n:=4) (by omega) (by omega)
theorem aH:KX=some MZ:=by unfold KX;rw [Rw];rfl
theorem EF (f:Flash) (h:L0 f):EP f=some f:=by
 unfold EP;have:=Zt (body:=λs:Int×List Block=>JQ f s.1 s.2) f.Blocks (λx=>x)
  (λi x a hx ho=>by
   have b:=(Ai.1 hx).1;have h1:=h.1;have h2:=h.2 x (A6 hx);unfold JQ;simp only [AE,Ad b,Ae,AC,hx,Aa]
   rw [C3 (by simp only [Bn];omega),Aa,C3 (by simp only [Aj];omega),Aa,ad1 (by omega),AA])
  (λa=>by
   unfold JQ
   simp only [AE,Aq,Av,Ac])
 rw [this,Aa,List.map_id']
theorem Uz (b:Block) (h:b.Leaves.length<=1048576):∃v,Fk b=some v/\0<=v/\(v<b.Leaves.length\/v=4):=by
 obtain⟨r,h1,h2⟩:=Bk (body:=λs:Int=>Ef b s) (λ(_:Unit) i=>i) b.Leaves.length (λ_ _=>True) (λr=>r= .inl ()\/∃k:Nat,k<b.Leaves.length/\r= .inr (k:Int))
  (λs i hi _=>by
   simp only [Ef,AE,Ad hi,Ae,AC,Ab hi,Aa];cases b.Leaves[i].Is==0
   ·exact .inl ⟨(),by rw [Ac,ad1 (by omega)],trivial⟩
   exact .inr ⟨_,rfl,.inr ⟨i,hi,rfl⟩⟩)
  (λs _=>⟨_,by simp only [Ef,AE,Aq,Av,Ac],.inl rfl⟩) (s:=()) trivial
 unfold Fk;rw [h1,Aa]
 rcases h2 with rfl|⟨k,hk,rfl⟩
 ·exact⟨4,rfl,by omega,.inr rfl⟩
 exact⟨_,rfl,by omega,.inl (by omega)⟩
def XD (f:Flash):Prop:=f.Blocks.length<=1048576/\∀b∈f.Blocks,b.Leaves.length=4
theorem XD.cap (h:XD f):L0 f:=⟨h.1,λb hb=>by rw [h.2 b hb];omega⟩
theorem qV {i:Int} {b:Block} (h:XD f) (hb:b.Leaves.length=4):XD (Flash.mk (si f.Blocks i b)):=by
 refine⟨by unfold si;rw [Gr];exact h.1,λc hc=>?_⟩
 rcases Co hc with hc|rfl
 ·exact h.2 c hc
 exact hb
theorem AA1 (f:Flash) (b l:Int) (t:ByteArray) (h:L0 f):∃g v,K5 f b l t=some (g,v)/\R2 f b l t=some (g,v)/\(v=false/\g=f\/v=true/\XD g):=by
 unfold K5 R2;rw [Pw,EF f h];unfold QJ Ty;rw [SJ,Ul,ZR];obtain⟨ok,h1,h2⟩:=SU f h;simp only [h1,Aa,PG]
 cases ok with
 |false=>exact⟨f,false,rfl,rfl,.inl ⟨rfl,rfl⟩⟩
 |true=>
  obtain⟨h3,h4⟩:=h2 rfl;simp only [Al,Ac,Ae,Aa];have eln:sb (ln f.Blocks) 1=(f.Blocks.length:Int)-1:=by rw [Cf,Cz (by omega) (by omega)]
  rw [eln]
  cases hb:(decide (0<=b)&&decide (b<=(f.Blocks.length:Int)-1))with
  |false=>exact⟨f,false,rfl,rfl,.inl ⟨rfl,rfl⟩⟩
  |true=>
   simp at hb;have a:b<(f.Blocks.length:Int):=by omega
   simp only [Ae,Kr hb.1 a,Aa];have hm:f.Blocks[b.toNat]'(by omega)∈f.Blocks:=AD _;have hL:=h4 _ hm;generalize f.Blocks[b.toNat]'(by omega)=x at hL
   cases x.Bad with
   |true=>exact⟨f,false,rfl,rfl,.inl ⟨rfl,rfl⟩⟩
   |false=>
    obtain⟨k,h5,h6,h7⟩:=Uz x (by omega);simp only [AJ,Al,Ae,Ac,h5,Aa];by_cases hl:0<=l/\l<=3
    ·have e1:(decide (0<=l)&&decide (l<=3))=true:=by simp [hl]
     have e2:decide (l<4)=true:=by simp;omega
     simp only [e1,e2,Ae,Ac,Al];by_cases hk:l=k
     ·have e3:(l==k)=true:=by simp [hk]
      have e4:(l !=k)=false:=by simp [hk]
      simp only [e3,e4,Ae,Ac,Aa]
      cases hs:(decide (1<=FL t)&&decide (FL t<=120))with
      |false=>exact⟨f,false,rfl,rfl,.inl ⟨rfl,rfl⟩⟩
      |true=>
       simp only [Al,Ac];rw [Kr (l:=x.Leaves) hl.1 (by omega),Aa];refine⟨_,_,rfl,rfl,.inr ⟨rfl,qV ⟨by omega,h4⟩ (by simp only [si,Gr];exact hL)⟩⟩
     have e3:(l==k)=false:=by simp [hk]
     have e4:(l !=k)=true:=by simp [hk]
     simp only [e3,e4,Ae,Ac,Aa];exact⟨f,false,rfl,rfl,.inl ⟨rfl,rfl⟩⟩
    have e1:(decide (0<=l)&&decide (l<=3))=false:=by simp;omega
    simp only [e1,AJ,Ae,Aa];by_cases h4':l<4
    ·have e2:decide (l<4)=true:=by simp;omega
     have e3:(l==k)=false:=by simp;omega
     simp only [e2,e3,Ae,Ac,Aa,AJ];exact⟨f,false,rfl,rfl,.inl ⟨rfl,rfl⟩⟩
    have e2:decide (l<4)=false:=by simp;omega
    simp only [e2,Ae,Ac,Aa,AJ];exact⟨f,false,rfl,rfl,.inl ⟨rfl,rfl⟩⟩
theorem AGd (f:Flash) (b:Int) (h:L0 f):∃g v,Su f b=some (g,v)/\oB f b=some (g,v)/\(v=false/\g=f\/v=true/\XD g):=by
 unfold Su oB;rw [Pw,EF f h,aH,Rw];unfold QJ;rw [SJ,ZR];obtain⟨ok,h1,h2⟩:=SU f h;simp only [h1,Aa,PG]
 cases ok with
 |false=>exact⟨f,false,rfl,rfl,.inl ⟨rfl,rfl⟩⟩
 |true=>
  obtain⟨h3,h4⟩:=h2 rfl;simp only [Al,Ac,Ae,Aa];have eln:sb (ln f.Blocks) 1=(f.Blocks.length:Int)-1:=by rw [Cf,Cz (by omega) (by omega)]
  rw [eln]
  cases hb:(decide (0<=b)&&decide (b<=(f.Blocks.length:Int)-1))with
  |false=>exact⟨f,false,rfl,rfl,.inl ⟨rfl,rfl⟩⟩
  |true=>
   simp at hb;have c:b<(f.Blocks.length:Int):=by omega
   simp only [Ae,Kr hb.1 c,Aa,Al,Ac]
   cases a:(f.Blocks[b.toNat]'(by omega)).Bad with
   |true=>exact⟨f,false,rfl,rfl,.inl ⟨rfl,rfl⟩⟩
   |false=>
    simp only [AJ,Al,Ae,Ac,Aa]
    cases(f.Blocks[b.toNat]'(by omega)).Wear==1000000000 with
    |true=>exact⟨f,false,rfl,rfl,.inl ⟨rfl,rfl⟩⟩
    |false=>
     simp only [Ac];have d:∀x,gi (si f.Blocks b x) b=some x:=by
      intro x;unfold gi si;rw [A3 hb.1,List.getElem?_set_self (by omega)]
     simp only [d,Aa,a];refine⟨_,_,rfl,?_,.inr ⟨rfl,qV ⟨by omega,h4⟩ (by simp [MZ])⟩⟩;simp only [si,List.set_set]
theorem jB (f:Flash) (s:Bb) (h:L0 f):∃g v,IN f s=some (g,v)/\Ud f s=some (g,v)/\(v=false/\g=f\/v=true/\XD g):=by
 unfold IN Ud
 cases s.Kind==1 with
 |true=>
  obtain⟨g,v,h1,h2,h3⟩:=AA1 f s.Block s.Leaf s.Text h;exact⟨g,v,by simp only [Ae,h1,Aa],by simp only [Ae,h2,Aa],h3⟩
 |false=>
  simp only [Ac]
  cases s.Kind==2 with
  |true=>
   obtain⟨g,v,h1,h2,h3⟩:=AGd f s.Block h;exact⟨g,v,by simp only [Ae,h1,Aa],by simp only [Ae,h2,Aa],h3⟩
  |false=>
   simp only [Ac,Pw,EF f h,Aa];exact⟨_,_,rfl,rfl,.inl ⟨rfl,rfl⟩⟩
theorem NR (n:Int) (h0:0<=n) (h1:n<=1000000000):∃s,Hk n=some s/\Em n=some s/\(L s).length<=1000000001:=by
 obtain⟨m,rfl⟩:=Dg h0;obtain⟨s,h2,h3⟩:=I2 m (by omega);refine⟨s,h2,?_,by rw [h3];have:=vY m;omega⟩;unfold Em Vu;rw [nZ,Aa,Ad (by omega)];simp only [Al,Ac];unfold Hk at h2
 have e:(λs:Int×List Int=>Pk s.1 s.2)=λs:Int×List Int=>HQ s.1 s.2:=rfl
 rw [e]
 cases hl:Aw (λs:Int×List Int=>HQ s.1 s.2) ((m:Int),[])with
 |none=>
  have h2':((Aw (λs:Int×List Int=>HQ s.1 s.2) ((m:Int),[])).bind λv1=>(ap 1 v1.2 [(IntKind.u8.wrap v1.1)]).bind λq2=>some (EI q2))=some s:=h2;rw [hl]at h2';cases h2'
 |some v=>
  have h2':((Aw (λs:Int×List Int=>HQ s.1 s.2) ((m:Int),[])).bind λv1=>(ap 1 v1.2 [(IntKind.u8.wrap v1.1)]).bind λq2=>some (EI q2))=some s:=h2;rw [hl]at h2';simp only [Aa]at h2'⊢
  cases ha:ap 1 v.2 [IntKind.u8.wrap v.1]with
  |none=>rw [ha]at h2';cases h2'
  |some q=>
   rw [ha]at h2';simp only [Aa,Ao]at h2'⊢;exact h2'
theorem Qf (n:Int):(L (EI [n])).length=1:=by rw [Jn];rfl
theorem QY (a b:ByteArray) (h:(L a).length+(L b).length<=9223372036854775807):∃c,HH a b=some c/\(L c).length=(L a).length+(L b).length:=⟨_,FT a b h,by rw [D4,Ag]⟩
theorem Wt (p:Page):∃t ok,E5 p=some (t,ok)/\Pq p=some (t,ok):=by
 obtain⟨v,h1,h2,h3⟩:=RH p;unfold E5 Pq;rw [h1,h2];simp only [Aa]
 cases v with
 |false=>exact⟨_,_,rfl,rfl⟩
 |true=>
  obtain⟨_,k2,k3,k4,k5,k6⟩:=h3 rfl;rw [BL]at k6;obtain⟨a,a1,a2,a3⟩:=NR p.Seq (by omega) (by omega);obtain⟨b,b1,b2,b3⟩:=NR p.Tx (by omega) (by omega);obtain⟨c,c1,c2,c3⟩:=NR p.Part (by omega) (by omega);obtain⟨d,d1,d2,d3⟩:=NR p.Count (by omega) (by omega);have e0:Js p.Kind=some (EI [IntKind.u8.wrap p.Kind]):=rfl;have e00:=Qf (IntKind.u8.wrap p.Kind);simp only [Al,Ac,a1,a2,b1,b2,c1,c2,d1,d2,e0,Aa];obtain⟨x1,y1,z1⟩:=QY (EI [IntKind.u8.wrap p.Kind]) a (by omega);rw [y1];simp only [Aa];obtain⟨x2,y2,z2⟩:=QY x1 b (by omega);rw [y2];simp only [Aa];obtain⟨x3,y3,z3⟩:=QY x2 c (by omega);rw [y3];simp only [Aa];obtain⟨x4,y4,z4⟩:=QY x3 d (by omega);rw [y4];simp only [Aa];obtain⟨x5,y5,z5⟩:=QY x4 p.Text (by omega);rw [y5];simp only [Aa];rw [iW];obtain⟨q1,q2⟩:=RG x5;by_cases hl:(L x5).length<=20000
  ·obtain⟨w,_,q3⟩:=q2 hl;rw [q3];exact⟨_,_,rfl,rfl⟩
  rw [q1 (by omega)];exact⟨_,_,rfl,rfl⟩
theorem wR (r:Cu):∃v,Ns r=some v/\TY r=some v/\(v=true->(0<=r.Arg/\r.Arg<=1000000000)/\(0<=r.Chunk/\r.Chunk<=1000000000)):=by
 cases r with
 |mk kind vol arg chunk=>
 unfold Ns TY;simp only [uP,nZ,Aa,L3];refine⟨_,rfl,?_,?_⟩
 ·congr 1;rw [DP];by_cases h1:kind=1
  ·subst h1;by_cases ha:0<=arg/\arg<=1000000000<;>by_cases hv:vol=0<;>by_cases hc:chunk=0<;>simp [ha,hv,hc]
  have e1:(kind==1)=false:=by simpa using h1
  simp only [e1,Ac];by_cases ha:0<=arg/\arg<=1000000000
  ·by_cases hk:kind=2\/kind=3\/kind=4\/kind=5
   ·rcases hk with rfl|rfl|rfl|rfl<;>by_cases hv:1<=vol/\vol<=9<;>by_cases hc:chunk=0<;>simp [ha,hv,hc,bne]<;>omega
   have e2:¬(2<=kind/\kind<=5):=by omega
   have k2:(kind==2)=false:=by simp;omega
   have k3:(kind==3)=false:=by simp;omega
   have k4:(kind==4)=false:=by simp;omega
   have k5:(kind==5)=false:=by simp;omega
   by_cases hv:1<=vol/\vol<=9<;>by_cases hc:chunk=0<;>simp [ha,hv,hc,e2,k2,k3,k4,k5,bne]
  have e3:decide (0<=arg/\arg<=1000000000)=false:=Af ha;rw [e3];by_cases hk:kind=2\/kind=3\/kind=4\/kind=5
  ·rcases hk with rfl|rfl|rfl|rfl<;>by_cases hv:1<=vol/\vol<=9<;>by_cases hc:chunk=0<;>simp [hv,hc,bne]<;>omega
  have k2:(kind==2)=false:=by simp;omega
  have k3:(kind==3)=false:=by simp;omega
  have k4:(kind==4)=false:=by simp;omega
  have k5:(kind==5)=false:=by simp;omega
  by_cases hv:1<=vol/\vol<=9<;>by_cases hc:chunk=0<;>simp [hv,hc,k2,k3,k4,k5,bne]
 by_cases ha:0<=arg/\arg<=1000000000
 ·refine λh=>⟨ha,?_⟩
  by_cases hc:chunk=0
  ·omega
  have ec:(chunk==0)=false:=by simpa using hc
  by_cases h1:kind=1
  ·subst h1;by_cases hv:vol=0<;>simp [ha,hv,ec]at h
  have e1:(kind==1)=false:=by simpa using h1
  by_cases h4:kind=4
  ·subst h4;by_cases hv:1<=vol/\vol<=9<;>simp [ha,hv,bne]at h;omega
  have e4:(kind==4)=false:=by simpa using h4
  by_cases hk:2<=kind/\kind<=5<;>by_cases hv:1<=vol/\vol<=9<;>simp [ha,hv,hk,e1,e4,ec,bne]at h
 intro h;rw [Af ha]at h;simp at h
theorem AA0 (r:Cu):∃t ok,Mn r=some (t,ok)/\R1 r=some (t,ok)/\(L t).length<=3000000000:=by
 obtain⟨v,h1,h2,h3⟩:=wR r;unfold Mn R1;rw [h1,h2];simp only [Aa]
 cases v with
 |false=>exact⟨_,_,rfl,rfl,by rw [DV];simp⟩
 |true=>
  obtain⟨k1,k2⟩:=h3 rfl;obtain⟨a,a1,a2,a3⟩:=NR r.Arg (by omega) (by omega);obtain⟨b,b1,b2,b3⟩:=NR r.Chunk (by omega) (by omega);have e0:Js (ad (ml 16 r.Kind) r.Vol)=some (EI [IntKind.u8.wrap (ad (ml 16 r.Kind) r.Vol)]):=rfl;have e00:=Qf (IntKind.u8.wrap (ad (ml 16 r.Kind) r.Vol));simp only [Al,Ac,a1,a2,b1,b2,e0,Aa];obtain⟨x1,y1,z1⟩:=QY (EI [IntKind.u8.wrap (ad (ml 16 r.Kind) r.Vol)]) a (by omega);rw [y1];simp only [Aa];obtain⟨x2,y2,z2⟩:=QY x1 b (by omega);rw [y2];simp only [Aa];exact⟨_,_,rfl,rfl,by omega⟩
theorem AF4 (t:ByteArray) (h:(L t).length<=3000000000):HH (bs []) t=some t:=by
 rw [FT _ _ (by rw [DV];simp;omega)];have:bs []++t=t:=by
  apply Ii;rw [D4,DV,AA]
 rw [this]
def AIu (l:List ByteArray):Prop:=∀t∈l,(L t).length<=3000000000
theorem AAW (a:List Cu) (hr:a.length<=16777216*2):∃v:List ByteArray⊕(List Page×Bool),Aw (λs:List ByteArray×Int=>Ec a s.1 s.2) ([(bs [])],0)=some v/\Aw (λs:List ByteArray×Int=>I6 a s.1 s.2) ([(bs [])],0)=some v/\((∃l,v= .inl l/\l.length<=16777216*2+1)\/v= .inr ([],false)):=by
 refine MP (body:=λs:List ByteArray×Int=>Ec a s.1 s.2) (body':=λs:List ByteArray×Int=>I6 a s.1 s.2) (λ(l:List ByteArray) i=>(l,i)) a.length (λi l=>1<=l.length/\l.length<=i+1/\AIu l) _
  (λl i hi hl=>?_) (λl hl=>?_) (s:=[(bs [])]) ⟨by simp,by simp,λt ht=>by rw [Az.1 ht,DV];simp⟩
 ·obtain⟨l1,l2,l3⟩:=hl;have hg:a[i]?=some a[i]:=Ab hi;obtain⟨t,ok,t1,t2,t3⟩:=AA0 a[i];simp only [Ec,I6,AE,Ad hi,Ae,AC,hg,Aa,t1,t2]
  cases ok with
  |false=>exact⟨rfl,.inr ⟨_,rfl,.inr rfl⟩⟩
  |true=>
   simp only [Al,Ac]
   have b:l≠ []:=λe=>by rw [e]at l1;simp at l1
   obtain⟨p,m,rfl⟩:∃p m,l=p++ [m]:=⟨l.dropLast,l.getLast b,(List.dropLast_concat_getLast b).symm⟩;rw [Ag,Aj]at l1 l2;have hm:(L m).length<=3000000000:=l3 m (by simp);have ei:sb (ln (p++ [m])) 1=((p.length:Nat):Int):=by
    have:ln (p++ [m])=((p.length+1:Nat):Int):=by simp [ln]
    rw [this,Cz (by omega) (by omega)];omega
   have g1:=pQ p m []
   have g2:=λy=>jN p m y []
   rw [ei,g1];simp only [Aa];rw [BL,BL,CA (by omega) (by omega)];by_cases hc:((L m).length:Int)+((L t).length:Int)>90
   ·rw [Ad hc];simp only [Ae];rw [C3 (by simp only [Ag,Aj];omega),C3 (by simp only [Ag,Aj];omega)];simp only [Aa];rw [ad1 (by omega)];have h3:=pQ (p++ [m]) (bs []) [];have h4:=jN (p++ [m]) (bs []) t [];rw [Ag,Aj]at h3 h4;rw [h3];simp only [Aa];rw [AF4 t t3];simp only [Aa];rw [h4,ad1 (by omega)];refine⟨by first|rfl|trivial,.inl ⟨_,rfl,?_⟩⟩;refine⟨by simp,by simp only [Ag,Aj];omega,λx hx=>?_⟩
    rcases Ak.1 hx with hx|hx
    ·exact l3 x hx
    rw [Az.1 hx];exact t3
   rw [Af hc];simp only [Ac,Aa];rw [g1];simp only [Aa];obtain⟨c,c1,c2⟩:=QY m t (by omega);rw [c1];simp only [Aa];rw [g2,ad1 (by omega)];refine⟨by first|rfl|trivial,.inl ⟨_,rfl,?_⟩⟩;refine⟨by simp,by simp only [Ag,Aj,Ay,Bn];omega,λx hx=>?_⟩
   rcases Ak.1 hx with hx|hx
   ·exact l3 x (by simp [hx])
   rw [Az.1 hx];omega
 obtain⟨l1,l2,l3⟩:=hl;refine⟨by simp only [Ec,I6,AE,Aq,Av,Ac],.inl l,by simp only [Ec,AE,Aq,Av,Ac],.inl ⟨l,rfl,by omega⟩⟩
theorem aK (seq tx:Int) (a:List Cu) (hr:a.length<=16777216*2):∃pages ok,Iq seq tx a=some (pages,ok)/\Om seq tx a=some (pages,ok)/\pages.length<=9:=by
 obtain⟨v,h1,h2,h3⟩:=AAW a hr;unfold Iq Om;rw [h1,h2]
 rcases h3 with⟨l,rfl,hl⟩|rfl
 ·simp only [Aa,BM,uP,nZ,L3]
  cases hb:(bif decide (ln l>9)then true else bif !decide (1<=seq/\seq<=ad (sb 1000000000 (ln l)) 1)then true else !decide (1<=tx/\tx<=1000000000))with
  |true=>exact⟨[],false,by simp only [Ae],by simp only [Ae],by simp⟩
  |false=>
   simp only [Ac];have h9:l.length<=9:=by
    by_cases hc:ln l>9
    ·rw [Ad hc]at hb;cases hb
    rw [Cf]at hc;omega
   obtain⟨u,u1,u2,u3⟩:=QF (body:=λs:List Page×Int=>Fc seq tx l s.1 s.2) (body':=λs:List Page×Int=>Kc seq tx l s.1 s.2) (λ(o:List Page) i=>(o,i)) (λ(o:List Page) i=>(o,i)) l.length (λi o=>o.length=i) (λo=>o.length<=9)
    (λo i hi ho=>by
     have hg:l[i]?=some l[i]:=Ab hi;simp only [Fc,Kc,AE,Ad hi,Ae,AC,hg,Aa];rw [C3 (by simp only [Aj];omega),ad1 (by omega)]
     exact .inl ⟨_,rfl,rfl,by simp only [Ag,Aj];omega⟩)
    (λo ho=>⟨o,by simp only [Fc,AE,Aq,Av,Ac],by simp only [Kc,AE,Aq,Av,Ac],by omega⟩) (s:=[]) rfl
   rw [u1,u2];exact⟨u,true,rfl,rfl,u3⟩
 exact⟨[],false,rfl,rfl,by simp⟩
def nb (l:List Leaf):Nat:=(l.map Ol).sum
theorem ABE (l:List Leaf) (i:Nat) (h:i<l.length):nb (l.take (i+1))=nb (l.take i)+Ol l[i]:=by
 unfold nb;rw [Ax h,CD,List.sum_append];simp
theorem AD4 (l:List Leaf) (i:Nat) (h:i<=l.length):nb (l.take i)<=i:=by
 have:=AEL (l.take i);rw [AF]at this;unfold nb;omega
theorem X2 (x:Leaf):Ol x=if(x.Is==0)=true then 1 else 0:=by
 unfold Ol;cases x.Is==0<;>rfl
theorem Ze {x:Block} (f:Flash) (i:Nat) (hx:f.Blocks[i]?=some x) (hl:x.Leaves.length<=1048576):Aw (λs:Int×Int×Int=>GD f (i:Int) s.1 s.2.1 s.2.2) (0,0,0)=some ((nb x.Leaves:Int),((x.Leaves.length-nb x.Leaves:Nat):Int)):=by
 obtain⟨b,h1,rfl⟩:=Bk (body:=λs:Int×Int×Int=>GD f (i:Int) s.1 s.2.1 s.2.2) (λ(s:Int×Int) k=>(s.1,s.2,k)) x.Leaves.length (λk s=>s=((nb (x.Leaves.take k):Int),((k-nb (x.Leaves.take k):Nat):Int))) (λs=>s=((nb x.Leaves:Int),((x.Leaves.length-nb x.Leaves:Nat):Int)))
  (λs k hk hs=>by
   subst hs;have hg:x.Leaves[k]?=some x.Leaves[k]:=Ab hk;have c:=AD4 x.Leaves k (by omega);have a:=ABE x.Leaves k hk;rw [X2]at a;refine .inl ?_;simp only [GD,AC,hx,Aa,AE,Ad hk,Ae,hg]
   cases hb:x.Leaves[k].Is==0 with
   |true=>
    rw [hb]at a;simp only [Ae];rw [CA (by omega) (by omega),ad1 (by omega)];refine⟨(((nb (x.Leaves.take k):Nat):Int)+1,((k-nb (x.Leaves.take k):Nat):Int)),rfl,?_⟩;simp only [BX]at a;rw [a];congr 1;congr 1;omega
   |false=>
    rw [hb]at a;simp only [Ac];rw [CA (by omega) (by omega),ad1 (by omega)];refine⟨(((nb (x.Leaves.take k):Nat):Int),((k-nb (x.Leaves.take k):Nat):Int)+1),rfl,?_⟩;simp only [BH,FM]at a;rw [a];congr 1
    omega)
  (λs hs=>⟨_,by simp only [GD,AC,hx,Aa,AE,Aq,Av,Ac];rfl,by rw [hs,AR]⟩) (s:=(0,0)) (by simp [nb])
 exact h1
theorem qK (f:Flash) (h:L0 f):∃v:Int,Jy f=some v/\N2 f=some v/\v<f.Blocks.length:=by
 unfold Jy N2;obtain⟨g,c⟩:=h;obtain⟨b,h1,h2,h3⟩:=MP (body:=λs:Int=>DH f s) (body':=λs:Int=>Ia f s) (λ(_:Unit) i=>i) f.Blocks.length (λ_ _=>True) (λb=>b= .inl ()\/∃i:Nat,b= .inr (i:Int)/\i<f.Blocks.length)
  (λ_ i hi _=>by
   have hg:f.Blocks[i]?=some f.Blocks[i]:=Ab hi;have hl:=c _ (AD hi);have a:=V7 f.Blocks[i] hl;have d:=AD4 f.Blocks[i].Leaves f.Blocks[i].Leaves.length (A4 _);rw [AR]at d;have e:((f.Blocks[i].Leaves.map Ol).sum:Int)=((nb f.Blocks[i].Leaves:Nat):Int):=rfl;rw [e]at a;simp only [DH,Ia,AE,Ad hi,Ae];rw [Ze f i hg hl];simp only [Aa,AC,hg,a];rw [ad1 (by omega)];have ed:decide (((f.Blocks[i].Leaves.length-nb f.Blocks[i].Leaves:Nat):Int)>0)=decide (((nb f.Blocks[i].Leaves:Nat):Int)<ln f.Blocks[i].Leaves):=by
    rw [Cf,DP,A9,A9];omega
   rw [ed];refine⟨rfl,?_⟩;simp only [L3,Aa]
   cases(bif !f.Blocks[i].Bad then bif decide (((nb f.Blocks[i].Leaves:Nat):Int)>0)then decide (((nb f.Blocks[i].Leaves:Nat):Int)<ln f.Blocks[i].Leaves)else false else false)with
   |true=>exact .inr ⟨_,rfl,.inr ⟨i,rfl,hi⟩⟩
   |false=>exact .inl ⟨(),rfl,trivial⟩)
  (λ_ _=>⟨by simp only [DH,Ia,AE,Aq,Av,Ac],.inl (),by simp only [DH,AE,Aq,Av,Ac],.inl rfl⟩) (s:=()) trivial
 rw [h1,h2]
 rcases h3 with rfl|⟨i,rfl,hi⟩
 ·exact⟨-1,rfl,rfl,by omega⟩
 exact⟨(i:Int),rfl,rfl,by omega⟩
def MT (f:Flash) (i:Nat):Bool:=match f.Blocks[i]? with
 |some x=>!x.Bad&&decide (nb x.Leaves=x.Leaves.length)
 |none=>false
theorem AEu {x:Block} (f:Flash) (i:Nat) (hx:f.Blocks[i]?=some x) (hl:x.Leaves.length<=1048576):Aw (λs:Bool×Int=>Gb f (i:Int) s.1 s.2) (!x.Bad,0)=some (MT f i):=by
 obtain⟨b,h1,rfl⟩:=Bk (body:=λs:Bool×Int=>Gb f (i:Int) s.1 s.2) (λ(s:Bool) k=>(s,k)) x.Leaves.length (λk s=>s=(!x.Bad&&decide (nb (x.Leaves.take k)=k))) (λs=>s=MT f i)
  (λs k hk hs=>by
   have hg:x.Leaves[k]?=some x.Leaves[k]:=Ab hk;have c:=AD4 x.Leaves k (by omega);have a:=ABE x.Leaves k hk;rw [X2]at a;refine .inl ?_;simp only [Gb,AC,hx,Aa,AE,Ad hk,Ae,hg];rw [ad1 (by omega)]
   cases s with
   |true=>
    simp only [Ae];refine⟨_,rfl,?_⟩;have hs':=hs.symm;simp only [An,A9]at hs';rw [hs'.1,C4,a,hs'.2];cases hb:x.Leaves[k].Is==0<;>simp
   |false=>
    simp only [Ac];refine⟨_,rfl,?_⟩;have hs':=hs.symm;rw [C5]at hs';symm;rw [C5]
    rcases hs' with q|q
    ·exact .inl q
    refine .inr (Af ?_);have:=of_decide_eq_false q
    split at a<;>omega)
  (λs hs=>⟨_,by simp only [Gb,AC,hx,Aa,AE,Aq,Av,Ac];rfl,by rw [hs,AR];simp only [MT,hx]⟩) (s:=!x.Bad) (by simp [nb])
 exact h1
def Oq (f:Flash):List Int:=((List.range f.Blocks.length).filter (MT f)).map (λ(i:Nat)=>(i:Int))
theorem Sl (f:Flash) (h:L0 f):LU f=some (Oq f)/\Md f=some (Oq f):=by
 obtain⟨c,a⟩:=h;constructor
 ·unfold LU
  rw [R7 (body:=λs:List Int×Int=>Hm f s.1 s.2) 8 f.Blocks.length (MT f) (λ(i:Nat)=>(i:Int)) (by omega) (by omega)
   (λu i hi=>by
    have hg:f.Blocks[i]?=some f.Blocks[i]:=Ab hi;simp only [Hm,AE,Ad hi,Ae,AC,hg,Aa];rw [AEu f i hg (a _ (AD hi))]
    simp only [Aa])
   (λu=>by simp only [Hm,AE,Aq,Av,Ac])]
  rfl
 unfold Md
 rw [R7 (body:=λs:List Int×Int=>Hp f s.1 s.2) 8 f.Blocks.length (MT f) (λ(i:Nat)=>(i:Int)) (by omega) (by omega)
  (λu i hi=>by
   have hg:f.Blocks[i]?=some f.Blocks[i]:=Ab hi;have b:=V7 f.Blocks[i] (a _ (AD hi));have e:((f.Blocks[i].Leaves.map Ol).sum:Int)=((nb f.Blocks[i].Leaves:Nat):Int):=rfl;rw [e]at b;have ed:(((nb f.Blocks[i].Leaves:Nat):Int)==ln f.Blocks[i].Leaves)=decide (nb f.Blocks[i].Leaves=f.Blocks[i].Leaves.length):=by
    rw [Cf,DP,A9,Cj];omega
   simp only [Hp,AE,Ad hi,Ae,AC,hg,Aa,b,ed,MT]
   cases f.Blocks[i].Bad<;>simp)
  (λu=>by simp only [Hp,AE,Aq,Av,Ac])]
 rfl
theorem ACR (h:x∈Oq f):0<=x/\x<f.Blocks.length:=by
 unfold Oq at h;obtain⟨i,hi,rfl⟩:=AP.1 h;have:=GR.1 (AN.1 hi).1;omega
theorem aS (f:Flash) (h:L0 f):∃b l:Int,∃ok:Bool,K6 f=some (b,l,ok)/\R4 f=some (b,l,ok)/\0<=b:=by
 obtain⟨e,a⟩:=h;obtain⟨v,v1,_⟩:=SU f ⟨e,a⟩;obtain⟨o,o1,o2,o3⟩:=qK f ⟨e,a⟩;obtain⟨e1,e2⟩:=Sl f ⟨e,a⟩;unfold K6 R4;rw [SJ,v1,o1,o2,e1,e2];simp only [Aa]
 cases v with
 |false=>exact⟨0,0,false,rfl,rfl,by omega⟩
 |true=>
  simp only [Al,Ac];by_cases ho:o>=0
  ·rw [Ad ho];simp only [Ae];rw [Kr ho o3,Ul];simp only [Aa];obtain⟨n,n1,_⟩:=Uz (f.Blocks[o.toNat]'(by omega)) (a _ (AD _));rw [n1];exact⟨o,n,true,rfl,rfl,ho⟩
  rw [Af ho];simp only [Ac];have g:(Oq f).length<=1048576:=by
   unfold Oq;rw [Bo];have:=BN (MT f) (List.range f.Blocks.length);rw [Ck]at this;omega
  cases j:Oq f with
  |nil=>
   refine⟨0,0,false,rfl,?_,by omega⟩;rw [A8];rfl
  |cons x l=>
   have d:∀y∈x::l,0<=y/\y<f.Blocks.length:=λy hy=>ACR (by rw [j];exact hy)
   have m:(ln (x::l)==0)=false:=by simp [ln];omega
   rw [j]at g;rw [m];simp only [Ac];have k:gi (x::l) 0=some x:=AC (i:=0);rw [k];simp only [Aa];obtain⟨w,w1,w2,w3⟩:=Vo (body:=λs:Int×Int=>Fe f (x::l) s.1 s.2) (body':=λs:Int×Int=>Gl f (x::l) s.1 s.2) (λ(b:Int) i=>(b,i)) (x::l).length (λ_ b=>0<=b/\b<f.Blocks.length) (λb=>0<=b)
    (λb i hi hb=>by
     have hg:(x::l)[i]?=some (x::l)[i]:=Ab hi;obtain⟨m1,m2⟩:=d _ (AD hi);simp only [Fe,Gl,AE,Ad hi,Ae,AC,hg,Aa];rw [Kr m1 m2,Kr hb.1 hb.2,Af (by omega:¬b<0),ad1 (by omega)];simp only [Aa,Ac];refine⟨by first|rfl|trivial,?_⟩
     cases decide ((f.Blocks[((x::l)[i]).toNat]'(by omega)).Wear<(f.Blocks[b.toNat]'(by omega)).Wear)with
     |true=>exact .inl ⟨_,rfl,m1,m2⟩
     |false=>exact .inl ⟨_,rfl,hb⟩)
    (λb hb=>⟨by simp only [Fe,Gl,AE,Aq,Av,Ac],b,by simp only [Fe,AE,Aq,Av,Ac],hb.1⟩) l.length 1 x (by simp;omega) (d x (by simp))
   have e1':((1:Nat):Int)=1:=rfl;rw [e1']at w1 w2;rw [w1];have c:Aw (λs:Int×Int=>Gl f (x::l) s.1 s.2) (-1,0)=some w:=by
    rw [A8];have hb:Gl f (x::l) (-1) 0=some (.inl (x,1)):=by
     have p:decide ((0:Int)<ln (x::l))=true:=Ad (by simp [ln]);simp only [Gl,p,Ae,k,Aa];rfl
    simp only [hb];exact w2
   rw [c];simp only [Aa];rw [Af (by omega:¬w<0)];exact⟨w,0,true,rfl,rfl,w3⟩
theorem ADN (f:Flash) (h:L0 f) (steps:List Bb) (hs:steps.length<=1000) (p:Page):∃(g:Flash) (st:List Bb) (ok:Bool),DR f steps p=some (g,st,ok)/\Db (EZ.mk f steps) p (-1)=some (ok,EZ.mk g st)/\L0 g/\st.length<=steps.length+1:=by
 obtain⟨t,ok,t1,t2⟩:=Wt p;obtain⟨b,l,room,p1,p2,p3⟩:=aS f h;unfold DR Db;rw [t1,t2,p1,p2];simp only [Aa];have eb:(b== -1)=false:=by simp;omega
 rw [eb]
 cases ok with
 |false=>exact⟨f,steps,false,rfl,rfl,h,by omega⟩
 |true=>
  cases room with
  |false=>exact⟨f,steps,false,rfl,rfl,h,by omega⟩
  |true=>
   obtain⟨g,v,g1,g2,g3⟩:=jB f (Bb.mk 1 b l t) h;simp only [Al,Ac,Aa,g1,g2];rw [C3 (by simp only [Aj];omega)];refine⟨g,_,v,rfl,rfl,?_,by simp⟩
   rcases g3 with⟨_,rfl⟩|⟨_,g3⟩
   ·exact h
   exact g3.cap
theorem AHf (pages:List Page) (r:Bool) (hp:pages.length<=9) (bl:List Block) (st:List Bb):∀(n i:Nat),i+n=pages.length->Aw (λs:Bool×Int×List Block×List Bb=>CC (pages,r) s.1 s.2.1 s.2.2.1 s.2.2.2) (false,(i:Int),bl,st)=some (false,bl,st)
 |0,i,h=>by
  have:i=pages.length:=by omega
  subst this;rw [A8];simp only [CC,AE,Aq,Av,Ac]
 |n+1,i,h=>by
  have hi:i<pages.length:=by omega
  have hg:pages[i]?=some pages[i]:=Ab hi;have hb:CC (pages,r) false (i:Int) bl st=some (.inl (false,((i+1:Nat):Int),bl,st)):=by
   simp only [CC,AE,Ad hi,Ae,AC,hg,Aa,Ac];rw [ad1 (by omega)]
  rw [A8];simp only [hb];exact AHf pages r hp bl st n (i+1) (by omega)
theorem X9 (pages:List Page) (r:Bool) (hp:pages.length<=9):∀(n i:Nat) (bl:List Block) (st:List Bb) (ok:Bool),i+n=pages.length->L0 (Flash.mk bl)->st.length<=i+1->∃(st':List Bb) (bl':List Block) (ok':Bool),
  Aw (λs:List Bb×Bool×Int×List Block=>Cn (pages,r) s.1 s.2.1 s.2.2.1 s.2.2.2) (st,ok,(i:Int),bl)=some (st',ok')/\
  Aw (λs:Bool×Int×List Block×List Bb=>CC (pages,r) s.1 s.2.1 s.2.2.1 s.2.2.2) (ok,(i:Int),bl,st)=some (ok',bl',st')/\st'.length<=pages.length+1
 |n,i,bl,st,false,h,hc,hs=>by
  refine⟨st,bl,false,?_,AHf pages r hp bl st n i h,by omega⟩;rw [A8];simp only [Cn,L3,Aa];have:(bif decide ((i:Int)<ln (pages,r).1)then false else false)=false:=by cases decide ((i:Int)<ln (pages,r).1)<;>rfl
  rw [this];rfl
 |0,i,bl,st,true,h,hc,hs=>by
  have:i=pages.length:=by omega
  subst this;refine⟨st,bl,true,?_,?_,by omega⟩
  ·rw [A8];simp only [Cn,AE,Aq,Av,Ac,Aa]
  rw [A8];simp only [CC,AE,Aq,Av,Ac]
 |n+1,i,bl,st,true,h,hc,hs=>by
  have hi:i<pages.length:=by omega
  have hg:pages[i]?=some pages[i]:=Ab hi;obtain⟨g,st1,ok1,w1,w2,w3,w4⟩:=ADN (Flash.mk bl) hc st (by omega) pages[i];have a:Cn (pages,r) st true (i:Int) bl=some (.inl (st1,ok1,((i+1:Nat):Int),g.Blocks)):=by
   simp only [Cn,AE,Ad hi,Ae,AC,hg,Aa,w1];rw [ad1 (by omega)]
  have b:CC (pages,r) true (i:Int) bl st=some (.inl (ok1,((i+1:Nat):Int),g.Blocks,st1)):=by
   simp only [CC,AE,Ad hi,Ae,AC,hg,Aa,w2];rw [ad1 (by omega)]
  obtain⟨st',bl',ok',q1,q2,q3⟩:=X9 pages r hp n (i+1) g.Blocks st1 ok1 (by omega) w3 (by omega);refine⟨st',bl',ok',?_,?_,q3⟩
  ·rw [A8];simp only [a];exact q1
  rw [A8];simp only [b];exact q2
theorem fD (d:AH) (hc:L0 d.Flash) (a:List Cu) (hr:a.length<=16777216*2) (b:ByteArray):∃(st:List Bb) (ok:Bool),Eb d a b=some (st,ok)/\Mb d a b=some (st,ok)/\st.length<=100:=by
 unfold Eb Mb
 cases hz:ln a==0 with
 |true=>exact⟨[],true,rfl,rfl,by simp⟩
 |false=>
  simp only [Ac];have hl:1<=a.length:=by
   have:¬ln a=0:=by simpa using hz
   rw [Cf]at this;omega
  have e:∀(seq:Int) (bl:List Block) (st:List Bb),L0 (Flash.mk bl)->st.length<=1->∃(st':List Bb) (ok':Bool),((Iq seq d.Tx a).bind λv2=>
    (Aw (λs:List Bb×Bool×Int×List Block=>Cn v2 s.1 s.2.1 s.2.2.1 s.2.2.2) (st,true,0,bl)).bind λv4=>
    (bif(!v4.2)then(some true)else(some (!v2.2)):Option (Bool)).bind λj5=>bif j5 then(some ([],false))else(some (v4.1,true)))=some (st',ok')/\
    ((Om seq d.Tx a).bind λv2=>
    (Aw (λs:Bool×Int×List Block×List Bb=>CC v2 s.1 s.2.1 s.2.2.1 s.2.2.2) (v2.2,0,bl,st)).bind λv4=>
    bif(!v4.1)then(some ([],false))else(some (v4.2.2,true)))=some (st',ok')/\st'.length<=100:=by
   intro seq bl st f h;obtain⟨pages,right,p1,p2,p3⟩:=aK seq d.Tx a hr;rw [p1,p2];simp only [Aa];obtain⟨st',bl',ok',q1,q2,q3⟩:=X9 pages right p3 pages.length 0 bl st true (by omega) f (by omega);have q1':Aw (λs:List Bb×Bool×Int×List Block=>Cn (pages,right) s.1 s.2.1 s.2.2.1 s.2.2.2) (st,true,0,bl)=some (st',ok'):=q1;rw [q1']
   cases right with
   |false=>
    have:=AHf pages false p3 bl st pages.length 0 (by omega);have q4:Aw (λs:Bool×Int×List Block×List Bb=>CC (pages,false) s.1 s.2.1 s.2.2.1 s.2.2.2) (false,0,bl,st)=some (false,bl,st):=this;rw [q4];refine⟨[],false,?_,rfl,by simp⟩;cases ok'<;>rfl
   |true=>
    have q2':Aw (λs:Bool×Int×List Block×List Bb=>CC (pages,true) s.1 s.2.1 s.2.2.1 s.2.2.2) (true,0,bl,st)=some (ok',bl',st'):=q2;rw [q2']
    cases ok' with
    |false=>exact⟨[],false,rfl,rfl,by simp⟩
    |true=>exact⟨st',true,rfl,rfl,by omega⟩
  have c:∀(seq:Int) (bl:List Block) (st:List Bb),st.length<=1->((Iq seq d.Tx a).bind λv2=>
    (Aw (λs:List Bb×Bool×Int×List Block=>Cn v2 s.1 s.2.1 s.2.2.1 s.2.2.2) (st,false,0,bl)).bind λv4=>
    (bif(!v4.2)then(some true)else(some (!v2.2)):Option (Bool)).bind λj5=>bif j5 then(some ([],false))else(some (v4.1,true)))=some ([],false):=by
   intro seq bl st h;obtain⟨pages,right,p1,p2,p3⟩:=aK seq d.Tx a hr;rw [p1];simp only [Aa];have:Aw (λs:List Bb×Bool×Int×List Block=>Cn (pages,right) s.1 s.2.1 s.2.2.1 s.2.2.2) (st,false,0,bl)=some (st,false):=by
    rw [A8];simp only [Cn,L3,Aa];have:(bif decide ((0:Int)<ln pages)then false else false)=false:=by cases decide ((0:Int)<ln pages)<;>rfl
    rw [this];rfl
   rw [this];rfl
  cases ht:!(seq b (bs []))with
  |false=>
   simp only [Ac,Aa,BM];obtain⟨st',ok',q1,q2,q3⟩:=e d.Seq d.Flash.Blocks [] hc (by simp);exact⟨st',ok',q1,q2,q3⟩
  |true=>
   simp only [Ae];have hx:gi a (sb (ln a) 1)=some (a[a.length-1]'(by omega)):=by
    have:sb (ln a) 1=((a.length-1:Nat):Int):=by
     rw [Cf,Cz (by omega) (by omega)];omega
    rw [this,AC];exact Ab _
   rw [hx];simp only [Aa];obtain⟨g,st1,ok1,w1,w2,w3,w4⟩:=ADN d.Flash hc [] (by simp) (Page.mk 1 d.Seq (a[a.length-1]'(by omega)).Chunk 0 1 b);rw [w1,w2];simp only [Aa]
   cases ok1 with
   |false=>
    simp only [AJ,Ae,Aa,Sum.elim_inr];exact⟨[],false,c _ _ _ (by simpa using w4),rfl,by simp⟩
   |true=>
    simp only [Al,Ac,Aa,BM];obtain⟨st',ok',q1,q2,q3⟩:=e (ad d.Seq 1) g.Blocks st1 w3 (by simpa using w4);exact⟨st',ok',q1,q2,q3⟩
end Go.TI
